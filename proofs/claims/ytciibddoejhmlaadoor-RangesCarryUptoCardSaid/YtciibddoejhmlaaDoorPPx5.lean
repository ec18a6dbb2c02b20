-- Written by a program of this session (a changed copy of the kit's print) out of the translation. Not trusted: Lean checks it.
import Derived.Test.YtciibddoejhmlaaDoorPPx0
import Derived.Test.YtciibddoejhmlaaDoorPPx3
import Derived.Test.YtciibddoejhmlaaDoorPPxEstringsIndex
namespace Go.Proofs.YtciibddoejhmlaaDoor.PP
open Go.RowKit Go.Proofs.YtciibddoejhmlaaDoorW.PrintWords Go.Proofs.YtciibddoejhmlaaDoorW.PrintLast Go.Proofs.YtciibddoejhmlaaDoorW.PrintMore
attribute [local go_sem] max2_int min2_int max_two min_two max_three min_three max_four min_four   -- for this text's walks alone
set_option linter.unusedVariables false
set_option linter.unusedSimpArgs false

/-! ### strings_Contains: function 19 -/
def strings_Contains.f (a0 : ByteArray) (a1 : ByteArray) : Option (Bool) := (strings_Index.f a0 a1).bind fun t102 => (some (decide (t102 ≥ 0)))
set_option maxHeartbeats 8000000 in
set_option maxRecDepth 100000 in
theorem strings_Contains.calls (a0 : ByteArray) (a1 : ByteArray) (r : Bool) (w : World) (hG : GI w) (h : strings_Contains.f a0 a1 = some r) :
    Calls Tryd.prog 19 #[.string a0, .string a1] w fun e w' => e = .returned (.bool r) ∧ Below w.heap.size w w' := by
  have HB := Aside0.mk (Below.refl w.heap.size w)
  have HG := Aside0.mk hG
  clear hG
  have H : ((strings_Index.f a0 a1).bind fun t102 => (some (decide (t102 ≥ 0)))) = some r := h
  clear h
  replace H := Option.bind_eq_some_iff.mp H
  obtain ⟨t102, A30, H⟩ := H
  replace H : (some (decide (t102 ≥ 0))) = some r := H
  have A3 := Aside0.mk A30
  clear A30
  obtain rfl := Option.some.inj H
  go_enter Tryd.func19, Tryd.ntmps19
  go_wp2_with (first | ((with_reducible refine gate_callee (f := 28) rfl ?_); refine goesL_ (some 7) rfl rfl Tryd.func28 (by kernel_rfl) rfl #[.string a0, .string a1] rfl (by (try simp only [List.map_toArray, List.map_cons, List.map_nil]); first | done | rfl | (simp only [List.length_drop, List.length_take]; rfl)) ?_; (with_reducible refine (strings_Index.calls a0 a1 t102 _ ?side1 A3.out).mono ?_); (case side1 => exact GI.below HG.out (by repeat (first | (with_reducible first | exact HB.out | apply below_alloc | apply pw_below_drewN | apply below_drew1) | exact HB.out))); rintro e w' ⟨rfl, ⟨nd, rfl⟩⟩; refine ⟨_, rfl, ?_⟩))
  go_ret
  exact ⟨by first | rfl | (simp [errW_none, errW_some] <;> rfl) | (simp [*, errW_none, errW_some] <;> rfl), by repeat (first | (with_reducible first | exact HB.out | apply below_alloc | apply pw_below_drewN | apply below_drew1) | exact HB.out)⟩

/-! ### ranges_Line: function 8 -/
def ranges_Line.l0 : Nat → ByteArray → Int → Option (ByteArray)
  | 0, _, _ => none
  | k + 1, x0, x3 => (text_Decimal.f x3).bind fun t103 => (if 4 + t103.size ≤ 9223372036854775807 then ((strings_Contains.f x0 ((⟨#[112, 97, 114, 116]⟩ : ByteArray) ++ t103)).bind fun t104 => (if t104 = true then (ranges_Line.l0 k x0 (wrap64 (x3 + 1))) else (some ((⟨#[112, 97, 114, 116]⟩ : ByteArray) ++ t103)))) else (none))
def ranges_Line.f (k : Nat) (a0 : ByteArray) : Option (ByteArray) := ranges_Line.l0 k a0 0
theorem ranges_Line.mono_l : ∀ k, (∀ y0 y1, LeO (ranges_Line.l0 k y0 y1) (ranges_Line.l0 (k + 1) y0 y1))
  | 0 => fun _ _ r h => by simp [ranges_Line.l0] at h
  | k + 1 => by
    have ih0 := ranges_Line.mono_l k
    · intro y0 y1
      unfold ranges_Line.l0
      repeat' first
      | (with_reducible exact ih0 _ _)
      | (with_reducible exact LeO.refl _)
      | (with_reducible exact LeO.none _)
      | (with_reducible refine LeO.ite ?_ ?_)
      | (with_reducible refine LeO.bind ?_ (fun _ => ?_))
      | exact ih0 _ _
      | exact LeO.none _
      | refine LeO.ite ?_ ?_
      | refine LeO.bind ?_ (fun _ => ?_)
theorem ranges_Line.mono : ∀ a0 k, LeO (ranges_Line.f k a0) (ranges_Line.f (k + 1) a0) := by
  intro a0 k
  have ih0 := ranges_Line.mono_l k
  unfold ranges_Line.f
  repeat' first
      | (with_reducible exact ih0 _ _)
      | (with_reducible exact LeO.refl _)
      | (with_reducible exact LeO.none _)
      | (with_reducible refine LeO.ite ?_ ?_)
      | (with_reducible refine LeO.bind ?_ (fun _ => ?_))
      | exact ih0 _ _
      | exact LeO.none _
      | refine LeO.ite ?_ ?_
      | refine LeO.bind ?_ (fun _ => ?_)
set_option maxHeartbeats 8000000 in
set_option maxRecDepth 100000 in
theorem ranges_Line.calls (k : Nat) (a0 : ByteArray) (r : ByteArray) (w : World) (hG : GI w) (h : ranges_Line.f k a0 = some r) :
    Calls Tryd.prog 8 #[.string a0] w fun e w' => e = .returned (.string r) ∧ Below w.heap.size w w' := by
  have HB := Aside0.mk (Below.refl w.heap.size w)
  have HG := Aside0.mk hG
  clear hG
  have H : (ranges_Line.l0 k a0 0) = some r := h
  clear h
  have H' := Aside0.mk H
  clear H
  go_enter Tryd.func8, Tryd.ntmps8
  go_wp2
  go_loopg [3] k (fun kq v3 w' => ∃ (x3_1 : Int), v3 = .int .i64 x3_1 ∧ Aside0 (ranges_Line.l0 kq a0 x3_1 = some r) ∧ Aside0 (kq ≤ k) ∧ Aside0 (Below w.heap.size w w'))
  case atStart => exact ⟨(0), (by first | rfl | (simp; done) | (simp [*]; done) | (simp [bne_nil_]; done) | (simp only [ByteArray.size_append, Int.natCast_add]; rfl)), H', ⟨Nat.le_refl _⟩, ⟨by repeat (first | (with_reducible first | exact HB.out | apply below_alloc | apply pw_below_drewN | apply below_drew1) | exact HB.out)⟩⟩
  case round =>
    clear H'
    obtain ⟨x3_1, rfl, HA, HK1, HB⟩ := hrel
    cases gk with
    | zero => exact absurd HA.out (by simp [ranges_Line.l0])
    | succ k1 =>
      have H := HA.out
      clear HA
      simp only [ranges_Line.l0] at H
      replace H := Option.bind_eq_some_iff.mp H
      obtain ⟨t103, A20, H⟩ := H
      replace H : (if 4 + t103.size ≤ 9223372036854775807 then ((strings_Contains.f a0 ((⟨#[112, 97, 114, 116]⟩ : ByteArray) ++ t103)).bind fun t104 => (if t104 = true then (ranges_Line.l0 k1 a0 (wrap64 (x3_1 + 1))) else (some ((⟨#[112, 97, 114, 116]⟩ : ByteArray) ++ t103)))) else (none)) = some r := H
      have A2 := Aside0.mk A20
      clear A20
      by_cases c3 : 4 + t103.size ≤ 9223372036854775807
      · rw [if_pos c3] at H
        have c3b0 := eq_true c3
        have c3b1 : decide (4 + t103.size ≤ 9223372036854775807) = true := decide_eq_true c3
        try have c3b2 : (9223372036854775807 < 4 + t103.size) = False := eq_false (Nat.not_lt.2 c3)
        replace H := Option.bind_eq_some_iff.mp H
        obtain ⟨t104, A40, H⟩ := H
        replace H : (if t104 = true then (ranges_Line.l0 k1 a0 (wrap64 (x3_1 + 1))) else (some ((⟨#[112, 97, 114, 116]⟩ : ByteArray) ++ t103))) = some r := H
        have A4 := Aside0.mk A40
        clear A40
        by_cases c5 : t104 = true
        · subst c5
          have H1 : (ranges_Line.l0 k1 a0 (wrap64 (x3_1 + 1))) = some r := by rw [if_pos rfl] at H; exact H
          clear H
          have H := H1
          clear H1
          have H' := Aside0.mk H
          clear H
          go_wp2_with (first | ((with_reducible refine gate_callee (f := 18) rfl ?_); refine goesL_ (some 8) rfl rfl Tryd.func18 (by kernel_rfl) rfl #[.int .i64 x3_1] rfl (by (try simp only [List.map_toArray, List.map_cons, List.map_nil]); first | done | rfl | (simp only [List.length_drop, List.length_take]; rfl)) ?_; (with_reducible refine (text_Decimal.calls x3_1 t103 _ ?side1 A2.out).mono ?_); (case side1 => exact GI.below HG.out (by repeat (first | (with_reducible first | exact HB.out | apply below_alloc | apply pw_below_drewN | apply below_drew1) | exact HB.out))); rintro e w6 ⟨rfl, hb⟩; refine ⟨_, rfl, ?_⟩; have n0_ := Aside0.mk (below_step (by repeat (first | (with_reducible first | exact HB.out | apply below_alloc | apply pw_below_drewN | apply below_drew1) | exact HB.out)) hb); clear HB; have HB := n0_; clear n0_; (try clear hb); (try clear hb2); (try clear hk); (try clear hi)) | ((with_reducible refine gate_callee (f := 19) rfl ?_); refine goesL_ (some 12) rfl rfl Tryd.func19 (by kernel_rfl) rfl #[.string a0, .string ((⟨#[112, 97, 114, 116]⟩ : ByteArray) ++ t103)] rfl (by (try simp only [List.map_toArray, List.map_cons, List.map_nil]); first | done | rfl | (simp only [List.length_drop, List.length_take]; rfl)) ?_; (with_reducible refine (strings_Contains.calls a0 ((⟨#[112, 97, 114, 116]⟩ : ByteArray) ++ t103) true _ ?side1 A4.out).mono ?_); (case side1 => exact GI.below HG.out (by repeat (first | (with_reducible first | exact HB.out | apply below_alloc | apply pw_below_drewN | apply below_drew1) | exact HB.out))); rintro e w7 ⟨rfl, hb⟩; refine ⟨_, rfl, ?_⟩; have n0_ := Aside0.mk (below_step (by repeat (first | (with_reducible first | exact HB.out | apply below_alloc | apply pw_below_drewN | apply below_drew1) | exact HB.out)) hb); clear HB; have HB := n0_; clear n0_; (try clear hb); (try clear hb2); (try clear hk); (try clear hi)))
          go_roundg k1
          case measure => have := HK1.out; omega
          case rel => exact ⟨(wrap64 (x3_1 + 1)), (by first | rfl | (simp; done) | (simp [*]; done) | (simp [bne_nil_]; done) | (simp only [ByteArray.size_append, Int.natCast_add]; rfl)), H', ⟨by have := HK1.out; omega⟩, ⟨by repeat (first | (with_reducible first | exact HB.out | apply below_alloc | apply pw_below_drewN | apply below_drew1) | exact HB.out)⟩⟩
        · replace c5 := Bool.eq_false_iff.mpr c5
          subst c5
          have H1 : (some ((⟨#[112, 97, 114, 116]⟩ : ByteArray) ++ t103)) = some r := by rw [if_neg (show ¬ (false = true) by decide)] at H; exact H
          clear H
          have H := H1
          clear H1
          obtain rfl := Option.some.inj H
          go_wp2_with (first | ((with_reducible refine gate_callee (f := 18) rfl ?_); refine goesL_ (some 8) rfl rfl Tryd.func18 (by kernel_rfl) rfl #[.int .i64 x3_1] rfl (by (try simp only [List.map_toArray, List.map_cons, List.map_nil]); first | done | rfl | (simp only [List.length_drop, List.length_take]; rfl)) ?_; (with_reducible refine (text_Decimal.calls x3_1 t103 _ ?side1 A2.out).mono ?_); (case side1 => exact GI.below HG.out (by repeat (first | (with_reducible first | exact HB.out | apply below_alloc | apply pw_below_drewN | apply below_drew1) | exact HB.out))); rintro e w8 ⟨rfl, hb⟩; refine ⟨_, rfl, ?_⟩; have n0_ := Aside0.mk (below_step (by repeat (first | (with_reducible first | exact HB.out | apply below_alloc | apply pw_below_drewN | apply below_drew1) | exact HB.out)) hb); clear HB; have HB := n0_; clear n0_; (try clear hb); (try clear hb2); (try clear hk); (try clear hi)) | ((with_reducible refine gate_callee (f := 19) rfl ?_); refine goesL_ (some 12) rfl rfl Tryd.func19 (by kernel_rfl) rfl #[.string a0, .string ((⟨#[112, 97, 114, 116]⟩ : ByteArray) ++ t103)] rfl (by (try simp only [List.map_toArray, List.map_cons, List.map_nil]); first | done | rfl | (simp only [List.length_drop, List.length_take]; rfl)) ?_; (with_reducible refine (strings_Contains.calls a0 ((⟨#[112, 97, 114, 116]⟩ : ByteArray) ++ t103) false _ ?side1 A4.out).mono ?_); (case side1 => exact GI.below HG.out (by repeat (first | (with_reducible first | exact HB.out | apply below_alloc | apply pw_below_drewN | apply below_drew1) | exact HB.out))); rintro e w9 ⟨rfl, hb⟩; refine ⟨_, rfl, ?_⟩; have n0_ := Aside0.mk (below_step (by repeat (first | (with_reducible first | exact HB.out | apply below_alloc | apply pw_below_drewN | apply below_drew1) | exact HB.out)) hb); clear HB; have HB := n0_; clear n0_; (try clear hb); (try clear hb2); (try clear hk); (try clear hi)))
          go_ret
          exact ⟨by first | rfl | (simp [errW_none, errW_some] <;> rfl) | (simp [*, errW_none, errW_some] <;> rfl), by repeat (first | (with_reducible first | exact HB.out | apply below_alloc | apply pw_below_drewN | apply below_drew1) | exact HB.out)⟩
      · rw [if_neg c3] at H
        exact absurd H (by simp)

/-! ### ranges_Told: function 17 -/
def ranges_Told.f (a0_0 : Int) (a0_1 : Int) (a1 : Int) : Option (ByteArray) := (text_Decimal.f a0_0).bind fun t106 => (if 6 + t106.size ≤ 9223372036854775807 then (if ((⟨#[98, 121, 116, 101, 115, 32]⟩ : ByteArray) ++ t106).size + 1 ≤ 9223372036854775807 then ((text_Decimal.f a0_1).bind fun t107 => (if (((⟨#[98, 121, 116, 101, 115, 32]⟩ : ByteArray) ++ t106) ++ (⟨#[45]⟩ : ByteArray)).size + t107.size ≤ 9223372036854775807 then (if ((((⟨#[98, 121, 116, 101, 115, 32]⟩ : ByteArray) ++ t106) ++ (⟨#[45]⟩ : ByteArray)) ++ t107).size + 1 ≤ 9223372036854775807 then ((text_Decimal.f a1).bind fun t108 => (if (((((⟨#[98, 121, 116, 101, 115, 32]⟩ : ByteArray) ++ t106) ++ (⟨#[45]⟩ : ByteArray)) ++ t107) ++ (⟨#[47]⟩ : ByteArray)).size + t108.size ≤ 9223372036854775807 then (some ((((((⟨#[98, 121, 116, 101, 115, 32]⟩ : ByteArray) ++ t106) ++ (⟨#[45]⟩ : ByteArray)) ++ t107) ++ (⟨#[47]⟩ : ByteArray)) ++ t108)) else (none))) else (none)) else (none))) else (none)) else (none))
def ranges_Told.T1 : Bool × List (List Nat × List Nat) := (true, [([], []), ([0], [0]), ([1], [1]), ([2], [2]), ([3], [3]), ([], []), ([5], [5]), ([6, 2], [6]), ([4, 7], [4, 7]), ([8], [8]), ([], []), ([10, 7], [10]), ([9, 11], [9, 11]), ([12, 11, 0, 1, 2, 3, 4, 5, 6, 7, 8, 9, 10, 11, 12], [12])])
def ranges_Told.B1 : List Nat := [0, 1, 3, 7, 15, 0, 32, 103, 255, 511, 0, 1255, 4095, 8191]
theorem ranges_Told.tab1 : rtab .any (opsOf Tryd.f17 1) = ranges_Told.T1 := by kernel_rfl
theorem ranges_Told.bits1 : waitsOk ranges_Told.T1.2 ranges_Told.B1 = true := by kernel_rfl
set_option maxHeartbeats 8000000 in
set_option maxRecDepth 100000 in
theorem ranges_Told.calls (a0_0 : Int) (a0_1 : Int) (a1 : Int) (r : ByteArray) (w : World) (hG : GI w) (h : ranges_Told.f a0_0 a0_1 a1 = some r) :
    Calls Tryd.prog 17 #[.agg #[.int .i64 a0_0, .int .i64 a0_1], .int .i64 a1] w fun e w' => e = .returned (.string r) ∧ Below w.heap.size w w' := by
  have hu25 := Tryd.underlying25
  have HB := Aside0.mk (Below.refl w.heap.size w)
  have HG := Aside0.mk hG
  clear hG
  have H : ((text_Decimal.f a0_0).bind fun t106 => (if 6 + t106.size ≤ 9223372036854775807 then (if ((⟨#[98, 121, 116, 101, 115, 32]⟩ : ByteArray) ++ t106).size + 1 ≤ 9223372036854775807 then ((text_Decimal.f a0_1).bind fun t107 => (if (((⟨#[98, 121, 116, 101, 115, 32]⟩ : ByteArray) ++ t106) ++ (⟨#[45]⟩ : ByteArray)).size + t107.size ≤ 9223372036854775807 then (if ((((⟨#[98, 121, 116, 101, 115, 32]⟩ : ByteArray) ++ t106) ++ (⟨#[45]⟩ : ByteArray)) ++ t107).size + 1 ≤ 9223372036854775807 then ((text_Decimal.f a1).bind fun t108 => (if (((((⟨#[98, 121, 116, 101, 115, 32]⟩ : ByteArray) ++ t106) ++ (⟨#[45]⟩ : ByteArray)) ++ t107) ++ (⟨#[47]⟩ : ByteArray)).size + t108.size ≤ 9223372036854775807 then (some ((((((⟨#[98, 121, 116, 101, 115, 32]⟩ : ByteArray) ++ t106) ++ (⟨#[45]⟩ : ByteArray)) ++ t107) ++ (⟨#[47]⟩ : ByteArray)) ++ t108)) else (none))) else (none)) else (none))) else (none)) else (none))) = some r := h
  clear h
  replace H := Option.bind_eq_some_iff.mp H
  obtain ⟨t106, A30, H⟩ := H
  replace H : (if 6 + t106.size ≤ 9223372036854775807 then (if ((⟨#[98, 121, 116, 101, 115, 32]⟩ : ByteArray) ++ t106).size + 1 ≤ 9223372036854775807 then ((text_Decimal.f a0_1).bind fun t107 => (if (((⟨#[98, 121, 116, 101, 115, 32]⟩ : ByteArray) ++ t106) ++ (⟨#[45]⟩ : ByteArray)).size + t107.size ≤ 9223372036854775807 then (if ((((⟨#[98, 121, 116, 101, 115, 32]⟩ : ByteArray) ++ t106) ++ (⟨#[45]⟩ : ByteArray)) ++ t107).size + 1 ≤ 9223372036854775807 then ((text_Decimal.f a1).bind fun t108 => (if (((((⟨#[98, 121, 116, 101, 115, 32]⟩ : ByteArray) ++ t106) ++ (⟨#[45]⟩ : ByteArray)) ++ t107) ++ (⟨#[47]⟩ : ByteArray)).size + t108.size ≤ 9223372036854775807 then (some ((((((⟨#[98, 121, 116, 101, 115, 32]⟩ : ByteArray) ++ t106) ++ (⟨#[45]⟩ : ByteArray)) ++ t107) ++ (⟨#[47]⟩ : ByteArray)) ++ t108)) else (none))) else (none)) else (none))) else (none)) else (none)) = some r := H
  have A3 := Aside0.mk A30
  clear A30
  by_cases c4 : 6 + t106.size ≤ 9223372036854775807
  · rw [if_pos c4] at H
    have c4b0 := eq_true c4
    have c4b1 : decide (6 + t106.size ≤ 9223372036854775807) = true := decide_eq_true c4
    try have c4b2 : (9223372036854775807 < 6 + t106.size) = False := eq_false (Nat.not_lt.2 c4)
    by_cases c5 : ((⟨#[98, 121, 116, 101, 115, 32]⟩ : ByteArray) ++ t106).size + 1 ≤ 9223372036854775807
    · rw [if_pos c5] at H
      have c5b0 := eq_true c5
      have c5b1 : decide (((⟨#[98, 121, 116, 101, 115, 32]⟩ : ByteArray) ++ t106).size + 1 ≤ 9223372036854775807) = true := decide_eq_true c5
      try have c5b2 : (9223372036854775807 < ((⟨#[98, 121, 116, 101, 115, 32]⟩ : ByteArray) ++ t106).size + 1) = False := eq_false (Nat.not_lt.2 c5)
      try (have c5n := c5; simp only [ByteArray.size_append, ByteArray.size_extract] at c5n; simp only [ByteArray.size, List.size_toArray, List.length_cons, List.length_nil, Nat.min_self, Nat.zero_add, Nat.sub_zero, Nat.reduceAdd] at c5n; try simp only [ByteArray.size_data] at c5n; have c5m := eq_true c5n)
      try (have c5b5 : ¬ (9223372036854775807 < ((⟨#[98, 121, 116, 101, 115, 32]⟩ : ByteArray) ++ t106).size + 1) := Nat.not_lt.2 c5; simp only [ByteArray.size_append, ByteArray.size_extract] at c5b5; simp only [ByteArray.size, List.size_toArray, List.length_cons, List.length_nil, Nat.min_self, Nat.zero_add, Nat.sub_zero, Nat.reduceAdd] at c5b5; try simp only [ByteArray.size_data] at c5b5; have c5b6 := eq_false c5b5)
      replace H := Option.bind_eq_some_iff.mp H
      obtain ⟨t107, A60, H⟩ := H
      replace H : (if (((⟨#[98, 121, 116, 101, 115, 32]⟩ : ByteArray) ++ t106) ++ (⟨#[45]⟩ : ByteArray)).size + t107.size ≤ 9223372036854775807 then (if ((((⟨#[98, 121, 116, 101, 115, 32]⟩ : ByteArray) ++ t106) ++ (⟨#[45]⟩ : ByteArray)) ++ t107).size + 1 ≤ 9223372036854775807 then ((text_Decimal.f a1).bind fun t108 => (if (((((⟨#[98, 121, 116, 101, 115, 32]⟩ : ByteArray) ++ t106) ++ (⟨#[45]⟩ : ByteArray)) ++ t107) ++ (⟨#[47]⟩ : ByteArray)).size + t108.size ≤ 9223372036854775807 then (some ((((((⟨#[98, 121, 116, 101, 115, 32]⟩ : ByteArray) ++ t106) ++ (⟨#[45]⟩ : ByteArray)) ++ t107) ++ (⟨#[47]⟩ : ByteArray)) ++ t108)) else (none))) else (none)) else (none)) = some r := H
      have A6 := Aside0.mk A60
      clear A60
      by_cases c7 : (((⟨#[98, 121, 116, 101, 115, 32]⟩ : ByteArray) ++ t106) ++ (⟨#[45]⟩ : ByteArray)).size + t107.size ≤ 9223372036854775807
      · rw [if_pos c7] at H
        have c7b0 := eq_true c7
        have c7b1 : decide ((((⟨#[98, 121, 116, 101, 115, 32]⟩ : ByteArray) ++ t106) ++ (⟨#[45]⟩ : ByteArray)).size + t107.size ≤ 9223372036854775807) = true := decide_eq_true c7
        try have c7b2 : (9223372036854775807 < (((⟨#[98, 121, 116, 101, 115, 32]⟩ : ByteArray) ++ t106) ++ (⟨#[45]⟩ : ByteArray)).size + t107.size) = False := eq_false (Nat.not_lt.2 c7)
        try (have c7n := c7; simp only [ByteArray.size_append, ByteArray.size_extract] at c7n; simp only [ByteArray.size, List.size_toArray, List.length_cons, List.length_nil, Nat.min_self, Nat.zero_add, Nat.sub_zero, Nat.reduceAdd] at c7n; try simp only [ByteArray.size_data] at c7n; have c7m := eq_true c7n)
        try (have c7b5 : ¬ (9223372036854775807 < (((⟨#[98, 121, 116, 101, 115, 32]⟩ : ByteArray) ++ t106) ++ (⟨#[45]⟩ : ByteArray)).size + t107.size) := Nat.not_lt.2 c7; simp only [ByteArray.size_append, ByteArray.size_extract] at c7b5; simp only [ByteArray.size, List.size_toArray, List.length_cons, List.length_nil, Nat.min_self, Nat.zero_add, Nat.sub_zero, Nat.reduceAdd] at c7b5; try simp only [ByteArray.size_data] at c7b5; have c7b6 := eq_false c7b5)
        by_cases c8 : ((((⟨#[98, 121, 116, 101, 115, 32]⟩ : ByteArray) ++ t106) ++ (⟨#[45]⟩ : ByteArray)) ++ t107).size + 1 ≤ 9223372036854775807
        · rw [if_pos c8] at H
          have c8b0 := eq_true c8
          have c8b1 : decide (((((⟨#[98, 121, 116, 101, 115, 32]⟩ : ByteArray) ++ t106) ++ (⟨#[45]⟩ : ByteArray)) ++ t107).size + 1 ≤ 9223372036854775807) = true := decide_eq_true c8
          try have c8b2 : (9223372036854775807 < ((((⟨#[98, 121, 116, 101, 115, 32]⟩ : ByteArray) ++ t106) ++ (⟨#[45]⟩ : ByteArray)) ++ t107).size + 1) = False := eq_false (Nat.not_lt.2 c8)
          try (have c8n := c8; simp only [ByteArray.size_append, ByteArray.size_extract] at c8n; simp only [ByteArray.size, List.size_toArray, List.length_cons, List.length_nil, Nat.min_self, Nat.zero_add, Nat.sub_zero, Nat.reduceAdd] at c8n; try simp only [ByteArray.size_data] at c8n; have c8m := eq_true c8n)
          try (have c8b5 : ¬ (9223372036854775807 < ((((⟨#[98, 121, 116, 101, 115, 32]⟩ : ByteArray) ++ t106) ++ (⟨#[45]⟩ : ByteArray)) ++ t107).size + 1) := Nat.not_lt.2 c8; simp only [ByteArray.size_append, ByteArray.size_extract] at c8b5; simp only [ByteArray.size, List.size_toArray, List.length_cons, List.length_nil, Nat.min_self, Nat.zero_add, Nat.sub_zero, Nat.reduceAdd] at c8b5; try simp only [ByteArray.size_data] at c8b5; have c8b6 := eq_false c8b5)
          replace H := Option.bind_eq_some_iff.mp H
          obtain ⟨t108, A90, H⟩ := H
          replace H : (if (((((⟨#[98, 121, 116, 101, 115, 32]⟩ : ByteArray) ++ t106) ++ (⟨#[45]⟩ : ByteArray)) ++ t107) ++ (⟨#[47]⟩ : ByteArray)).size + t108.size ≤ 9223372036854775807 then (some ((((((⟨#[98, 121, 116, 101, 115, 32]⟩ : ByteArray) ++ t106) ++ (⟨#[45]⟩ : ByteArray)) ++ t107) ++ (⟨#[47]⟩ : ByteArray)) ++ t108)) else (none)) = some r := H
          have A9 := Aside0.mk A90
          clear A90
          by_cases c10 : (((((⟨#[98, 121, 116, 101, 115, 32]⟩ : ByteArray) ++ t106) ++ (⟨#[45]⟩ : ByteArray)) ++ t107) ++ (⟨#[47]⟩ : ByteArray)).size + t108.size ≤ 9223372036854775807
          · rw [if_pos c10] at H
            have c10b0 := eq_true c10
            have c10b1 : decide ((((((⟨#[98, 121, 116, 101, 115, 32]⟩ : ByteArray) ++ t106) ++ (⟨#[45]⟩ : ByteArray)) ++ t107) ++ (⟨#[47]⟩ : ByteArray)).size + t108.size ≤ 9223372036854775807) = true := decide_eq_true c10
            try have c10b2 : (9223372036854775807 < (((((⟨#[98, 121, 116, 101, 115, 32]⟩ : ByteArray) ++ t106) ++ (⟨#[45]⟩ : ByteArray)) ++ t107) ++ (⟨#[47]⟩ : ByteArray)).size + t108.size) = False := eq_false (Nat.not_lt.2 c10)
            try (have c10n := c10; simp only [ByteArray.size_append, ByteArray.size_extract] at c10n; simp only [ByteArray.size, List.size_toArray, List.length_cons, List.length_nil, Nat.min_self, Nat.zero_add, Nat.sub_zero, Nat.reduceAdd] at c10n; try simp only [ByteArray.size_data] at c10n; have c10m := eq_true c10n)
            try (have c10b5 : ¬ (9223372036854775807 < (((((⟨#[98, 121, 116, 101, 115, 32]⟩ : ByteArray) ++ t106) ++ (⟨#[45]⟩ : ByteArray)) ++ t107) ++ (⟨#[47]⟩ : ByteArray)).size + t108.size) := Nat.not_lt.2 c10; simp only [ByteArray.size_append, ByteArray.size_extract] at c10b5; simp only [ByteArray.size, List.size_toArray, List.length_cons, List.length_nil, Nat.min_self, Nat.zero_add, Nat.sub_zero, Nat.reduceAdd] at c10b5; try simp only [ByteArray.size_data] at c10b5; have c10b6 := eq_false c10b5)
            obtain rfl := Option.some.inj H
            go_enter Tryd.func17, Tryd.ntmps17
            try go_wp2_with (first | ((with_reducible refine gate_dst (N := 2) rfl ?_); refine box_event ?hg (N := 2) ?hd (cs := #[.int .i64 a0_0, .int .i64 a0_1]) (t := 25) ?hr ?_; (case hd => rfl); (case hg => rfl); (case hr => first | (go_simp; done) | (go_simp; rfl)); intro gb105 hg w11 hbox hb; have n0_ := Aside0.mk (below_step (by repeat (first | (with_reducible first | exact HB.out | apply below_alloc | apply pw_below_drewN | apply below_drew1) | exact HB.out)) hb); have n1_ := Aside0.mk (hbox); have n2_ := Aside0.mk ((by rw [hg]; exact (below_size (by repeat (first | (with_reducible first | exact HB.out | apply below_alloc | apply pw_below_drewN | apply below_drew1) | exact HB.out))) : w.heap.size ≤ gb105)); have n3_ := Aside0.mk ((by rw [hg]; exact (below_size (by repeat (first | (with_reducible first | exact HB.out | apply below_alloc | apply pw_below_drewN | apply below_drew1) | exact HB.out))) : w.heap.size ≤ gb105)); clear HB; have HB := n0_; have BK105 := n1_; have GW105 := n2_; have GE105 := n3_; clear n0_ n1_ n2_ n3_; clear hb hbox hg))
            have n0_ := Aside0.mk (blk_drew BK105.out)
            have n1_ := Aside0.mk (below_drew1 HB.out)
            clear BK105
            clear HB
            have BK105 := n0_
            have HB := n1_
            clear n0_ n1_
            refine start_ (n := 14) (S := fun w' => w'.cell? ⟨gb105, 0, none⟩ = some (.int .i64 a0_0) ∧ w'.cell? ⟨gb105, 1, none⟩ = some (.int .i64 a0_1)) (ds := []) #[false, false, false, false, false, false, false, false, false, false, false, false, false, false] (by kernel_rfl) rfl rfl ⟨(blk_cell BK105.out 0).trans rfl, (blk_cell BK105.out 1).trans rfl⟩ (fun hHeld => ?_); refine with_tabW ranges_Told.tab1 ranges_Told.bits1 (fun HT_ HW_ => ?_)
            generalize w11.drew = w12 at BK105 HB hHeld ⊢
            refine pure_ (i := 0) (N := some 5) (v := ?_) (a' := ?_) #[true, false, false, false, false, false, false, false, false, false, false, false, false, false] rfl rfl (any_of HT_.out (by kernel_rfl)) (fun _ _ _ h => h) (Or.inl ⟨by rfl, ?_⟩) ?_ ?_
            rotate_left
            · intro w'
              go_simp
              with_reducible rfl
            rotate_left
            · simp only [Act.put, List.setIfInBounds_toArray, List.set_cons_zero, List.set_cons_succ, i64_w, i32_w]
              rfl
            refine pure_ (i := 5) (N := some 10) (v := ?_) (a' := ?_) #[true, false, false, false, false, true, false, false, false, false, false, false, false, false] rfl rfl (any_of HT_.out (by kernel_rfl)) (fun _ _ _ h => h) (Or.inl ⟨by rfl, ?_⟩) ?_ ?_
            rotate_left
            · intro w'
              go_simp
              with_reducible rfl
            rotate_left
            · simp only [Act.put, List.setIfInBounds_toArray, List.set_cons_zero, List.set_cons_succ, i64_w, i32_w]
              rfl
            refine pure_ (i := 10) (N := some 15) (v := ?_) (a' := ?_) #[true, false, false, false, false, true, false, false, false, false, true, false, false, false] rfl rfl (any_of HT_.out (by kernel_rfl)) (fun _ _ _ h => h) (Or.inl ⟨by rfl, ?_⟩) ?_ ?_
            rotate_left
            · intro w'
              go_simp
              with_reducible rfl
            rotate_left
            · simp only [Act.put, List.setIfInBounds_toArray, List.set_cons_zero, List.set_cons_succ, i64_w, i32_w]
              rfl
            refine take_ (i := 1) (N := some 6) (v := ?_) (a' := ?_) #[true, true, false, false, false, true, false, false, false, false, true, false, false, false] rfl rfl (take_ofW HT_.out HW_.out (by kernel_rfl)) (fun _ _ _ h => h) (Or.inl ⟨by rfl, ?_⟩) hHeld ?_ ?_
            rotate_left
            · rintro w' ⟨s0, s1⟩
              go_simp
              with_reducible rfl
            rotate_left
            · simp only [Act.put, List.setIfInBounds_toArray, List.set_cons_zero, List.set_cons_succ, i64_w, i32_w]
              rfl
            refine take_ (i := 6) (N := some 11) (v := ?_) (a' := ?_) #[true, true, false, false, false, true, true, false, false, false, true, false, false, false] rfl rfl (take_ofW HT_.out HW_.out (by kernel_rfl)) (fun _ _ _ h => h) (Or.inl ⟨by rfl, ?_⟩) hHeld ?_ ?_
            rotate_left
            · rintro w' ⟨s0, s1⟩
              go_simp
              with_reducible rfl
            rotate_left
            · simp only [Act.put, List.setIfInBounds_toArray, List.set_cons_zero, List.set_cons_succ, i64_w, i32_w]
              rfl
            refine one_ (i := 2) (N := some 7) #[true, true, true, false, false, true, true, false, false, false, true, false, false, false] rfl rfl (one_of HT_.out (by kernel_rfl)) (by decide) (fun K hK => ?_)
            refine goes_ Tryd.func18 (by kernel_rfl) rfl #[.int .i64 a0_0] (by rfl) rfl rfl (by (try simp only [List.map_toArray, List.map_cons, List.map_nil]); first | done | rfl | (simp only [List.length_drop, List.length_take]; rfl)) ?_
            with_reducible refine (text_Decimal.calls a0_0 t106 _ ?side1 A3.out).mono ?_
            (case side1 => exact GI.below HG.out (by repeat (first | (with_reducible first | exact HB.out | apply below_alloc | apply pw_below_drewN | apply below_drew1 | refine below_set ?_ GE105.out) | exact HB.out)))
            rintro e w13 ⟨rfl, hb⟩
            refine ⟨_, rfl, ?_⟩
            have n0_ := Aside0.mk (blk_below (g := gb105) (o := .cells #[.int .i64 a0_0, .int .i64 a0_1] 25 (0, 0)) (by (with_reducible repeat (first | refine blk_drewN ?_ _ | refine blk_drew ?_ | refine blk_alloc ?_ _)); exact BK105.out) hb)
            have n1_ := Aside0.mk (below_step (by repeat (first | (with_reducible first | exact HB.out | apply below_alloc | apply pw_below_drewN | apply below_drew1 | refine below_set ?_ GE105.out) | exact HB.out)) hb)
            clear BK105
            clear HB
            have BK105 := n0_
            have HB := n1_
            clear n0_ n1_
            (try clear hb)
            (try clear hb2)
            (try clear hk)
            (try clear hi)
            refine hK.out _ _ ⟨(blk_cell BK105.out 0).trans rfl, (blk_cell BK105.out 1).trans rfl⟩ (fun hHeld => ?_)
            clear hK K
            refine norm_ (a' := ?_) ?_ ?_
            rotate_left
            · show Act.put _ (some 7) _ = _
              simp only [Act.put, List.setIfInBounds_toArray, List.set_cons_zero, List.set_cons_succ, i64_w, i32_w]
              rfl
            refine pure_ (i := 3) (N := some 8) (v := ?_) (a' := ?_) #[true, true, true, true, false, true, true, false, false, false, true, false, false, false] rfl rfl (any_of HT_.out (by kernel_rfl)) (fun _ _ _ h => h) (Or.inl ⟨by rfl, ?_⟩) ?_ ?_
            rotate_left
            · intro w'
              go_simp
              with_reducible rfl
            rotate_left
            · simp only [Act.put, List.setIfInBounds_toArray, List.set_cons_zero, List.set_cons_succ, i64_w, i32_w]
              rfl
            refine pure_ (i := 4) (N := some 9) (v := ?_) (a' := ?_) #[true, true, true, true, true, true, true, false, false, false, true, false, false, false] rfl rfl (any_of HT_.out (by kernel_rfl)) (fun _ _ _ h => h) (Or.inl ⟨by rfl, ?_⟩) ?_ ?_
            rotate_left
            · intro w'
              go_simp
              with_reducible rfl
            rotate_left
            · simp only [Act.put, List.setIfInBounds_toArray, List.set_cons_zero, List.set_cons_succ, i64_w, i32_w]
              rfl
            refine one_ (i := 7) (N := some 12) #[true, true, true, true, true, true, true, true, false, false, true, false, false, false] rfl rfl (one_of HT_.out (by kernel_rfl)) (by decide) (fun K hK => ?_)
            refine goes_ Tryd.func18 (by kernel_rfl) rfl #[.int .i64 a0_1] (by rfl) rfl rfl (by (try simp only [List.map_toArray, List.map_cons, List.map_nil]); first | done | rfl | (simp only [List.length_drop, List.length_take]; rfl)) ?_
            with_reducible refine (text_Decimal.calls a0_1 t107 _ ?side1 A6.out).mono ?_
            (case side1 => exact GI.below HG.out (by repeat (first | (with_reducible first | exact HB.out | apply below_alloc | apply pw_below_drewN | apply below_drew1 | refine below_set ?_ GE105.out) | exact HB.out)))
            rintro e w14 ⟨rfl, hb⟩
            refine ⟨_, rfl, ?_⟩
            have n0_ := Aside0.mk (blk_below (g := gb105) (o := .cells #[.int .i64 a0_0, .int .i64 a0_1] 25 (0, 0)) (by (with_reducible repeat (first | refine blk_drewN ?_ _ | refine blk_drew ?_ | refine blk_alloc ?_ _)); exact BK105.out) hb)
            have n1_ := Aside0.mk (below_step (by repeat (first | (with_reducible first | exact HB.out | apply below_alloc | apply pw_below_drewN | apply below_drew1 | refine below_set ?_ GE105.out) | exact HB.out)) hb)
            clear BK105
            clear HB
            have BK105 := n0_
            have HB := n1_
            clear n0_ n1_
            (try clear hb)
            (try clear hb2)
            (try clear hk)
            (try clear hi)
            refine hK.out _ _ ⟨(blk_cell BK105.out 0).trans rfl, (blk_cell BK105.out 1).trans rfl⟩ (fun hHeld => ?_)
            clear hK K
            refine norm_ (a' := ?_) ?_ ?_
            rotate_left
            · show Act.put _ (some 12) _ = _
              simp only [Act.put, List.setIfInBounds_toArray, List.set_cons_zero, List.set_cons_succ, i64_w, i32_w]
              rfl
            refine pure_ (i := 8) (N := some 13) (v := ?_) (a' := ?_) #[true, true, true, true, true, true, true, true, true, false, true, false, false, false] rfl rfl (any_of HT_.out (by kernel_rfl)) (fun _ _ _ h => h) (Or.inl ⟨by rfl, ?_⟩) ?_ ?_
            rotate_left
            · intro w'
              go_simp
              with_reducible rfl
            rotate_left
            · simp only [Act.put, List.setIfInBounds_toArray, List.set_cons_zero, List.set_cons_succ, i64_w, i32_w]
              rfl
            refine pure_ (i := 9) (N := some 14) (v := ?_) (a' := ?_) #[true, true, true, true, true, true, true, true, true, true, true, false, false, false] rfl rfl (any_of HT_.out (by kernel_rfl)) (fun _ _ _ h => h) (Or.inl ⟨by rfl, ?_⟩) ?_ ?_
            rotate_left
            · intro w'
              go_simp
              with_reducible rfl
            rotate_left
            · simp only [Act.put, List.setIfInBounds_toArray, List.set_cons_zero, List.set_cons_succ, i64_w, i32_w]
              rfl
            refine one_ (i := 11) (N := some 16) #[true, true, true, true, true, true, true, true, true, true, true, true, false, false] rfl rfl (one_of HT_.out (by kernel_rfl)) (by decide) (fun K hK => ?_)
            refine goes_ Tryd.func18 (by kernel_rfl) rfl #[.int .i64 a1] (by rfl) rfl rfl (by (try simp only [List.map_toArray, List.map_cons, List.map_nil]); first | done | rfl | (simp only [List.length_drop, List.length_take]; rfl)) ?_
            with_reducible refine (text_Decimal.calls a1 t108 _ ?side1 A9.out).mono ?_
            (case side1 => exact GI.below HG.out (by repeat (first | (with_reducible first | exact HB.out | apply below_alloc | apply pw_below_drewN | apply below_drew1 | refine below_set ?_ GE105.out) | exact HB.out)))
            rintro e w15 ⟨rfl, hb⟩
            refine ⟨_, rfl, ?_⟩
            have n0_ := Aside0.mk (blk_below (g := gb105) (o := .cells #[.int .i64 a0_0, .int .i64 a0_1] 25 (0, 0)) (by (with_reducible repeat (first | refine blk_drewN ?_ _ | refine blk_drew ?_ | refine blk_alloc ?_ _)); exact BK105.out) hb)
            have n1_ := Aside0.mk (below_step (by repeat (first | (with_reducible first | exact HB.out | apply below_alloc | apply pw_below_drewN | apply below_drew1 | refine below_set ?_ GE105.out) | exact HB.out)) hb)
            clear BK105
            clear HB
            have BK105 := n0_
            have HB := n1_
            clear n0_ n1_
            (try clear hb)
            (try clear hb2)
            (try clear hk)
            (try clear hi)
            refine hK.out _ _ ⟨(blk_cell BK105.out 0).trans rfl, (blk_cell BK105.out 1).trans rfl⟩ (fun hHeld => ?_)
            clear hK K
            refine norm_ (a' := ?_) ?_ ?_
            rotate_left
            · show Act.put _ (some 16) _ = _
              simp only [Act.put, List.setIfInBounds_toArray, List.set_cons_zero, List.set_cons_succ, i64_w, i32_w]
              rfl
            refine pure_ (i := 12) (N := some 17) (v := ?_) (a' := ?_) #[true, true, true, true, true, true, true, true, true, true, true, true, true, false] rfl rfl (any_of HT_.out (by kernel_rfl)) (fun _ _ _ h => h) (Or.inl ⟨by rfl, ?_⟩) ?_ ?_
            rotate_left
            · intro w'
              go_simp
              with_reducible rfl
            rotate_left
            · simp only [Act.put, List.setIfInBounds_toArray, List.set_cons_zero, List.set_cons_succ, i64_w, i32_w]
              rfl
            refine pure_ (i := 13) (N := some 4) (v := ?_) (a' := ?_) #[true, true, true, true, true, true, true, true, true, true, true, true, true, true] rfl rfl (any_of HT_.out (by kernel_rfl)) (fun _ _ _ h => h) (Or.inl ⟨by rfl, ?_⟩) ?_ ?_
            rotate_left
            · intro w'
              go_simp
              with_reducible rfl
            rotate_left
            · simp only [Act.put, List.setIfInBounds_toArray, List.set_cons_zero, List.set_cons_succ, i64_w, i32_w]
              rfl
            refine done_ (done_of HT_.out (by kernel_rfl)) ?_
            try go_wp2
            go_ret
            exact ⟨by first | rfl | (simp [errW_none, errW_some] <;> rfl) | (simp [*, errW_none, errW_some] <;> rfl), by repeat (first | (with_reducible first | exact HB.out | apply below_alloc | apply pw_below_drewN | apply below_drew1 | refine below_set ?_ GE105.out) | exact HB.out)⟩
          · rw [if_neg c10] at H
            exact absurd H (by simp)
        · rw [if_neg c8] at H
          exact absurd H (by simp)
      · rw [if_neg c7] at H
        exact absurd H (by simp)
    · rw [if_neg c5] at H
      exact absurd H (by simp)
  · rw [if_neg c4] at H
    exact absurd H (by simp)

end Go.Proofs.YtciibddoejhmlaaDoor.PP
