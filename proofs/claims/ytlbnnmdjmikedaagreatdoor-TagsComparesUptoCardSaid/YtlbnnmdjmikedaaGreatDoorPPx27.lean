-- Written by a program of this session (a changed copy of the kit's print) out of the translation. Not trusted: Lean checks it.
import Derived.Test.YtlbnnmdjmikedaaGreatDoorPPx0
import Derived.Test.YtlbnnmdjmikedaaGreatDoorPPx26
namespace Go.Proofs.YtlbnnmdjmikedaaGreatDoor.PP
open Go.RowKit Go.Proofs.YtlbnnmdjmikedaaGreatDoorW.PrintWords Go.Proofs.YtlbnnmdjmikedaaGreatDoorW.PrintLast Go.Proofs.YtlbnnmdjmikedaaGreatDoorW.PrintMore
attribute [local go_sem] max2_int min2_int max_two min_two max_three min_three max_four min_four   -- for this text's walks alone
set_option linter.unusedVariables false
set_option linter.unusedSimpArgs false

/-! ### ostlerref15_Make: function 14 -/
def ostlerref15_Make.f (k : Nat) (a0_0 : ByteArray) (a0_1 : Int) (a0_2 : Int) : Option (ByteArray) := (ostlerref01_Decimal.f k (mx a0_2 0)).bind fun t261 => (if 1 + t261.size ≤ 9223372036854775807 then (if ((⟨#[34]⟩ : ByteArray) ++ t261).size + 1 ≤ 9223372036854775807 then ((ostlerref01_Decimal.f k (a0_0.size : Int)).bind fun t262 => (if (((⟨#[34]⟩ : ByteArray) ++ t261) ++ (⟨#[45]⟩ : ByteArray)).size + t262.size ≤ 9223372036854775807 then (if ((((⟨#[34]⟩ : ByteArray) ++ t261) ++ (⟨#[45]⟩ : ByteArray)) ++ t262).size + 1 ≤ 9223372036854775807 then (some (((((⟨#[34]⟩ : ByteArray) ++ t261) ++ (⟨#[45]⟩ : ByteArray)) ++ t262) ++ (⟨#[34]⟩ : ByteArray))) else (none)) else (none))) else (none)) else (none))
theorem ostlerref15_Make.mono : ∀ a0 a1 a2 k, LeO (ostlerref15_Make.f k a0 a1 a2) (ostlerref15_Make.f (k + 1) a0 a1 a2) := by
  intro a0 a1 a2 k
  unfold ostlerref15_Make.f
  repeat' first
      | (with_reducible exact ostlerref01_Decimal.mono _ _)
      | (with_reducible exact LeO.refl _)
      | (with_reducible exact LeO.none _)
      | (with_reducible refine LeO.ite ?_ ?_)
      | (with_reducible refine LeO.bind ?_ (fun _ => ?_))
      | exact ostlerref01_Decimal.mono _ _
      | exact LeO.none _
      | refine LeO.ite ?_ ?_
      | refine LeO.bind ?_ (fun _ => ?_)
def ostlerref15_Make.T1 : Bool × List (List Nat × List Nat) := (true, [([], []), ([0], [0]), ([1], [1]), ([2], [2]), ([3], [3]), ([4], [4]), ([], []), ([6], [6]), ([7], [7]), ([8, 3], [8]), ([5, 9], [5, 9]), ([10], [10]), ([11, 9, 0, 1, 2, 3, 4, 5, 6, 7, 8, 9, 10, 11], [11])])
def ostlerref15_Make.B1 : List Nat := [0, 1, 3, 7, 15, 31, 0, 64, 192, 463, 1023, 2047, 4095]
theorem ostlerref15_Make.tab1 : rtab .any (opsOf Tryz.f14 1) = ostlerref15_Make.T1 := by kernel_rfl
theorem ostlerref15_Make.bits1 : waitsOk ostlerref15_Make.T1.2 ostlerref15_Make.B1 = true := by kernel_rfl
set_option maxHeartbeats 8000000 in
set_option maxRecDepth 100000 in
theorem ostlerref15_Make.calls (k : Nat) (a0_0 : ByteArray) (a0_1 : Int) (a0_2 : Int) (r : ByteArray) (w : World) (h : ostlerref15_Make.f k a0_0 a0_1 a0_2 = some r) :
    Calls Tryz.prog 14 #[.agg #[.string a0_0, .int .i64 a0_1, .int .i64 a0_2]] w fun e w' => e = .returned (.string r) ∧ Below w.heap.size w w' := by
  have hu35 := Tryz.underlying35
  have HB := Aside0.mk (Below.refl w.heap.size w)
  have H : ((ostlerref01_Decimal.f k (mx a0_2 0)).bind fun t261 => (if 1 + t261.size ≤ 9223372036854775807 then (if ((⟨#[34]⟩ : ByteArray) ++ t261).size + 1 ≤ 9223372036854775807 then ((ostlerref01_Decimal.f k (a0_0.size : Int)).bind fun t262 => (if (((⟨#[34]⟩ : ByteArray) ++ t261) ++ (⟨#[45]⟩ : ByteArray)).size + t262.size ≤ 9223372036854775807 then (if ((((⟨#[34]⟩ : ByteArray) ++ t261) ++ (⟨#[45]⟩ : ByteArray)) ++ t262).size + 1 ≤ 9223372036854775807 then (some (((((⟨#[34]⟩ : ByteArray) ++ t261) ++ (⟨#[45]⟩ : ByteArray)) ++ t262) ++ (⟨#[34]⟩ : ByteArray))) else (none)) else (none))) else (none)) else (none))) = some r := h
  clear h
  obtain ⟨ji2, hji2⟩ : ∃ j_ : Int, (mx a0_2 0) = j_ := ⟨_, rfl⟩
  replace H : ((ostlerref01_Decimal.f k (ji2)).bind fun t261 => (if 1 + t261.size ≤ 9223372036854775807 then (if ((⟨#[34]⟩ : ByteArray) ++ t261).size + 1 ≤ 9223372036854775807 then ((ostlerref01_Decimal.f k (a0_0.size : Int)).bind fun t262 => (if (((⟨#[34]⟩ : ByteArray) ++ t261) ++ (⟨#[45]⟩ : ByteArray)).size + t262.size ≤ 9223372036854775807 then (if ((((⟨#[34]⟩ : ByteArray) ++ t261) ++ (⟨#[45]⟩ : ByteArray)) ++ t262).size + 1 ≤ 9223372036854775807 then (some (((((⟨#[34]⟩ : ByteArray) ++ t261) ++ (⟨#[45]⟩ : ByteArray)) ++ t262) ++ (⟨#[34]⟩ : ByteArray))) else (none)) else (none))) else (none)) else (none))) = some r := by first | (rw [hji2] at H; exact H) | (simp only [hji2] at H ⊢; exact H)
  (try (have hji2l : 0 ≤ ji2 := by (rw [← hji2]; unfold mx; (repeat' split) <;> omega)))
  (try (have hji2m : 0 ≤ ji2 := by omega))
  have hji2_ : (if a0_2 < 0 then 0 else a0_2) = ji2 := hji2
  replace H := Option.bind_eq_some_iff.mp H
  obtain ⟨t261, A30, H⟩ := H
  replace H : (if 1 + t261.size ≤ 9223372036854775807 then (if ((⟨#[34]⟩ : ByteArray) ++ t261).size + 1 ≤ 9223372036854775807 then ((ostlerref01_Decimal.f k (a0_0.size : Int)).bind fun t262 => (if (((⟨#[34]⟩ : ByteArray) ++ t261) ++ (⟨#[45]⟩ : ByteArray)).size + t262.size ≤ 9223372036854775807 then (if ((((⟨#[34]⟩ : ByteArray) ++ t261) ++ (⟨#[45]⟩ : ByteArray)) ++ t262).size + 1 ≤ 9223372036854775807 then (some (((((⟨#[34]⟩ : ByteArray) ++ t261) ++ (⟨#[45]⟩ : ByteArray)) ++ t262) ++ (⟨#[34]⟩ : ByteArray))) else (none)) else (none))) else (none)) else (none)) = some r := H
  have A3 := Aside0.mk A30
  clear A30
  by_cases c4 : 1 + t261.size ≤ 9223372036854775807
  · rw [if_pos c4] at H
    have c4b0 := eq_true c4
    have c4b1 : decide (1 + t261.size ≤ 9223372036854775807) = true := decide_eq_true c4
    try have c4b2 : (9223372036854775807 < 1 + t261.size) = False := eq_false (Nat.not_lt.2 c4)
    by_cases c5 : ((⟨#[34]⟩ : ByteArray) ++ t261).size + 1 ≤ 9223372036854775807
    · rw [if_pos c5] at H
      have c5b0 := eq_true c5
      have c5b1 : decide (((⟨#[34]⟩ : ByteArray) ++ t261).size + 1 ≤ 9223372036854775807) = true := decide_eq_true c5
      try have c5b2 : (9223372036854775807 < ((⟨#[34]⟩ : ByteArray) ++ t261).size + 1) = False := eq_false (Nat.not_lt.2 c5)
      try (have c5n := c5; simp only [ByteArray.size_append, ByteArray.size_extract] at c5n; simp only [ByteArray.size, List.size_toArray, List.length_cons, List.length_nil, Nat.min_self, Nat.zero_add, Nat.sub_zero, Nat.reduceAdd] at c5n; try simp only [ByteArray.size_data] at c5n; have c5m := eq_true c5n)
      try (have c5b5 : ¬ (9223372036854775807 < ((⟨#[34]⟩ : ByteArray) ++ t261).size + 1) := Nat.not_lt.2 c5; simp only [ByteArray.size_append, ByteArray.size_extract] at c5b5; simp only [ByteArray.size, List.size_toArray, List.length_cons, List.length_nil, Nat.min_self, Nat.zero_add, Nat.sub_zero, Nat.reduceAdd] at c5b5; try simp only [ByteArray.size_data] at c5b5; have c5b6 := eq_false c5b5)
      replace H := Option.bind_eq_some_iff.mp H
      obtain ⟨t262, A60, H⟩ := H
      replace H : (if (((⟨#[34]⟩ : ByteArray) ++ t261) ++ (⟨#[45]⟩ : ByteArray)).size + t262.size ≤ 9223372036854775807 then (if ((((⟨#[34]⟩ : ByteArray) ++ t261) ++ (⟨#[45]⟩ : ByteArray)) ++ t262).size + 1 ≤ 9223372036854775807 then (some (((((⟨#[34]⟩ : ByteArray) ++ t261) ++ (⟨#[45]⟩ : ByteArray)) ++ t262) ++ (⟨#[34]⟩ : ByteArray))) else (none)) else (none)) = some r := H
      have A6 := Aside0.mk A60
      clear A60
      by_cases c7 : (((⟨#[34]⟩ : ByteArray) ++ t261) ++ (⟨#[45]⟩ : ByteArray)).size + t262.size ≤ 9223372036854775807
      · rw [if_pos c7] at H
        have c7b0 := eq_true c7
        have c7b1 : decide ((((⟨#[34]⟩ : ByteArray) ++ t261) ++ (⟨#[45]⟩ : ByteArray)).size + t262.size ≤ 9223372036854775807) = true := decide_eq_true c7
        try have c7b2 : (9223372036854775807 < (((⟨#[34]⟩ : ByteArray) ++ t261) ++ (⟨#[45]⟩ : ByteArray)).size + t262.size) = False := eq_false (Nat.not_lt.2 c7)
        try (have c7n := c7; simp only [ByteArray.size_append, ByteArray.size_extract] at c7n; simp only [ByteArray.size, List.size_toArray, List.length_cons, List.length_nil, Nat.min_self, Nat.zero_add, Nat.sub_zero, Nat.reduceAdd] at c7n; try simp only [ByteArray.size_data] at c7n; have c7m := eq_true c7n)
        try (have c7b5 : ¬ (9223372036854775807 < (((⟨#[34]⟩ : ByteArray) ++ t261) ++ (⟨#[45]⟩ : ByteArray)).size + t262.size) := Nat.not_lt.2 c7; simp only [ByteArray.size_append, ByteArray.size_extract] at c7b5; simp only [ByteArray.size, List.size_toArray, List.length_cons, List.length_nil, Nat.min_self, Nat.zero_add, Nat.sub_zero, Nat.reduceAdd] at c7b5; try simp only [ByteArray.size_data] at c7b5; have c7b6 := eq_false c7b5)
        by_cases c8 : ((((⟨#[34]⟩ : ByteArray) ++ t261) ++ (⟨#[45]⟩ : ByteArray)) ++ t262).size + 1 ≤ 9223372036854775807
        · rw [if_pos c8] at H
          have c8b0 := eq_true c8
          have c8b1 : decide (((((⟨#[34]⟩ : ByteArray) ++ t261) ++ (⟨#[45]⟩ : ByteArray)) ++ t262).size + 1 ≤ 9223372036854775807) = true := decide_eq_true c8
          try have c8b2 : (9223372036854775807 < ((((⟨#[34]⟩ : ByteArray) ++ t261) ++ (⟨#[45]⟩ : ByteArray)) ++ t262).size + 1) = False := eq_false (Nat.not_lt.2 c8)
          try (have c8n := c8; simp only [ByteArray.size_append, ByteArray.size_extract] at c8n; simp only [ByteArray.size, List.size_toArray, List.length_cons, List.length_nil, Nat.min_self, Nat.zero_add, Nat.sub_zero, Nat.reduceAdd] at c8n; try simp only [ByteArray.size_data] at c8n; have c8m := eq_true c8n)
          try (have c8b5 : ¬ (9223372036854775807 < ((((⟨#[34]⟩ : ByteArray) ++ t261) ++ (⟨#[45]⟩ : ByteArray)) ++ t262).size + 1) := Nat.not_lt.2 c8; simp only [ByteArray.size_append, ByteArray.size_extract] at c8b5; simp only [ByteArray.size, List.size_toArray, List.length_cons, List.length_nil, Nat.min_self, Nat.zero_add, Nat.sub_zero, Nat.reduceAdd] at c8b5; try simp only [ByteArray.size_data] at c8b5; have c8b6 := eq_false c8b5)
          obtain rfl := Option.some.inj H
          go_enter Tryz.func14, Tryz.ntmps14
          try go_wp2_with (first | ((with_reducible refine gate_dst (N := 1) rfl ?_); refine box_event ?hg (N := 1) ?hd (cs := #[.string a0_0, .int .i64 a0_1, .int .i64 a0_2]) (t := 35) ?hr ?_; (case hd => rfl); (case hg => rfl); (case hr => first | (go_simp; done) | (go_simp; rfl)); intro gb260 hg w9 hbox hb; have n0_ := Aside0.mk (below_step (by repeat (first | (with_reducible first | exact HB.out | apply below_alloc | apply pw_below_drewN | apply below_drew1) | exact HB.out)) hb); have n1_ := Aside0.mk (hbox); have n2_ := Aside0.mk ((by rw [hg]; exact (below_size (by repeat (first | (with_reducible first | exact HB.out | apply below_alloc | apply pw_below_drewN | apply below_drew1) | exact HB.out))) : w.heap.size ≤ gb260)); have n3_ := Aside0.mk ((by rw [hg]; exact (below_size (by repeat (first | (with_reducible first | exact HB.out | apply below_alloc | apply pw_below_drewN | apply below_drew1) | exact HB.out))) : w.heap.size ≤ gb260)); clear HB; have HB := n0_; have BK260 := n1_; have GW260 := n2_; have GE260 := n3_; clear n0_ n1_ n2_ n3_; clear hb hbox hg))
          have n0_ := Aside0.mk (blk_drew BK260.out)
          have n1_ := Aside0.mk (below_drew1 HB.out)
          clear BK260
          clear HB
          have BK260 := n0_
          have HB := n1_
          clear n0_ n1_
          refine start_ (n := 13) (S := fun w' => w'.cell? ⟨gb260, 0, none⟩ = some (.string a0_0) ∧ w'.cell? ⟨gb260, 1, none⟩ = some (.int .i64 a0_1) ∧ w'.cell? ⟨gb260, 2, none⟩ = some (.int .i64 a0_2)) (ds := []) #[false, false, false, false, false, false, false, false, false, false, false, false, false] (by kernel_rfl) rfl rfl ⟨(blk_cell BK260.out 0).trans rfl, (blk_cell BK260.out 1).trans rfl, (blk_cell BK260.out 2).trans rfl⟩ (fun hHeld => ?_); refine with_tabW ostlerref15_Make.tab1 ostlerref15_Make.bits1 (fun HT_ HW_ => ?_)
          generalize w9.drew = w10 at BK260 HB hHeld ⊢
          refine pure_ (i := 0) (N := some 3) (v := ?_) (a' := ?_) #[true, false, false, false, false, false, false, false, false, false, false, false, false] rfl rfl (any_of HT_.out (by kernel_rfl)) (fun _ _ _ h => h) (Or.inl ⟨by rfl, ?_⟩) ?_ ?_
          rotate_left
          · intro w'
            go_simp
            with_reducible rfl
          rotate_left
          · simp only [Act.put, List.setIfInBounds_toArray, List.set_cons_zero, List.set_cons_succ, i64_w, i32_w]
            rfl
          refine pure_ (i := 6) (N := some 9) (v := ?_) (a' := ?_) #[true, false, false, false, false, false, true, false, false, false, false, false, false] rfl rfl (any_of HT_.out (by kernel_rfl)) (fun _ _ _ h => h) (Or.inl ⟨by rfl, ?_⟩) ?_ ?_
          rotate_left
          · intro w'
            go_simp
            with_reducible rfl
          rotate_left
          · simp only [Act.put, List.setIfInBounds_toArray, List.set_cons_zero, List.set_cons_succ, i64_w, i32_w]
            rfl
          refine take_ (i := 1) (N := some 4) (v := ?_) (a' := ?_) #[true, true, false, false, false, false, true, false, false, false, false, false, false] rfl rfl (take_ofW HT_.out HW_.out (by kernel_rfl)) (fun _ _ _ h => h) (Or.inl ⟨by rfl, ?_⟩) hHeld ?_ ?_
          rotate_left
          · rintro w' ⟨s0, s1, s2⟩
            go_simp
            with_reducible rfl
          rotate_left
          · simp only [Act.put, List.setIfInBounds_toArray, List.set_cons_zero, List.set_cons_succ, i64_w, i32_w]
            rfl
          refine pure_ (i := 2) (N := some 5) (v := ?_) (a' := ?_) #[true, true, true, false, false, false, true, false, false, false, false, false, false] rfl rfl (any_of HT_.out (by kernel_rfl)) (fun _ _ _ h => h) (Or.inl ⟨by rfl, ?_⟩) ?_ ?_
          rotate_left
          · intro w'
            go_simp
            with_reducible rfl
          rotate_left
          · simp only [Act.put, List.setIfInBounds_toArray, List.set_cons_zero, List.set_cons_succ, i64_w, i32_w]
            rfl
          refine take_ (i := 7) (N := some 10) (v := ?_) (a' := ?_) #[true, true, true, false, false, false, true, true, false, false, false, false, false] rfl rfl (take_ofW HT_.out HW_.out (by kernel_rfl)) (fun _ _ _ h => h) (Or.inl ⟨by rfl, ?_⟩) hHeld ?_ ?_
          rotate_left
          · rintro w' ⟨s0, s1, s2⟩
            go_simp
            with_reducible rfl
          rotate_left
          · simp only [Act.put, List.setIfInBounds_toArray, List.set_cons_zero, List.set_cons_succ, i64_w, i32_w]
            rfl
          refine pure_ (i := 8) (N := some 11) (v := ?_) (a' := ?_) #[true, true, true, false, false, false, true, true, true, false, false, false, false] rfl rfl (any_of HT_.out (by kernel_rfl)) (fun _ _ _ h => h) (Or.inl ⟨by rfl, ?_⟩) ?_ ?_
          rotate_left
          · intro w'
            go_simp
            with_reducible rfl
          rotate_left
          · simp only [Act.put, List.setIfInBounds_toArray, List.set_cons_zero, List.set_cons_succ, i64_w, i32_w]
            rfl
          refine one_ (i := 3) (N := some 6) #[true, true, true, true, false, false, true, true, true, false, false, false, false] rfl rfl (one_of HT_.out (by kernel_rfl)) (by decide) (fun K hK => ?_)
          refine goes_ Tryz.func24 (by kernel_rfl) rfl #[.int .i64 ji2] (by rfl) rfl rfl (by (try simp only [List.map_toArray, List.map_cons, List.map_nil]); first | done | (simp only [hji2]; rfl) | rfl | (simp only [List.length_drop, List.length_take]; rfl)) ?_
          with_reducible refine (ostlerref01_Decimal.calls k ji2 t261 _ A3.out).mono ?_
          rintro e w11 ⟨rfl, hb⟩
          refine ⟨_, rfl, ?_⟩
          have n0_ := Aside0.mk (blk_below (g := gb260) (o := .cells #[.string a0_0, .int .i64 a0_1, .int .i64 a0_2] 35 (0, 0)) (by (with_reducible repeat (first | refine blk_drewN ?_ _ | refine blk_drew ?_ | refine blk_alloc ?_ _)); exact BK260.out) hb)
          have n1_ := Aside0.mk (below_step (by repeat (first | (with_reducible first | exact HB.out | apply below_alloc | apply pw_below_drewN | apply below_drew1 | refine below_set ?_ GE260.out) | exact HB.out)) hb)
          clear BK260
          clear HB
          have BK260 := n0_
          have HB := n1_
          clear n0_ n1_
          (try clear hb)
          (try clear hb2)
          (try clear hk)
          (try clear hi)
          refine hK.out _ _ ⟨(blk_cell BK260.out 0).trans rfl, (blk_cell BK260.out 1).trans rfl, (blk_cell BK260.out 2).trans rfl⟩ (fun hHeld => ?_)
          clear hK K
          refine norm_ (a' := ?_) ?_ ?_
          rotate_left
          · show Act.put _ (some 6) _ = _
            simp only [Act.put, List.setIfInBounds_toArray, List.set_cons_zero, List.set_cons_succ, i64_w, i32_w]
            rfl
          refine pure_ (i := 4) (N := some 7) (v := ?_) (a' := ?_) #[true, true, true, true, true, false, true, true, true, false, false, false, false] rfl rfl (any_of HT_.out (by kernel_rfl)) (fun _ _ _ h => h) (Or.inl ⟨by rfl, ?_⟩) ?_ ?_
          rotate_left
          · intro w'
            go_simp
            with_reducible rfl
          rotate_left
          · simp only [Act.put, List.setIfInBounds_toArray, List.set_cons_zero, List.set_cons_succ, i64_w, i32_w]
            rfl
          refine pure_ (i := 5) (N := some 8) (v := ?_) (a' := ?_) #[true, true, true, true, true, true, true, true, true, false, false, false, false] rfl rfl (any_of HT_.out (by kernel_rfl)) (fun _ _ _ h => h) (Or.inl ⟨by rfl, ?_⟩) ?_ ?_
          rotate_left
          · intro w'
            go_simp
            with_reducible rfl
          rotate_left
          · simp only [Act.put, List.setIfInBounds_toArray, List.set_cons_zero, List.set_cons_succ, i64_w, i32_w]
            rfl
          refine one_ (i := 9) (N := some 12) #[true, true, true, true, true, true, true, true, true, true, false, false, false] rfl rfl (one_of HT_.out (by kernel_rfl)) (by decide) (fun K hK => ?_)
          refine goes_ Tryz.func24 (by kernel_rfl) rfl #[.int .i64 (a0_0.size : Int)] (by rfl) rfl rfl (by (try simp only [List.map_toArray, List.map_cons, List.map_nil]); first | done | rfl | (simp only [List.length_drop, List.length_take]; rfl)) ?_
          with_reducible refine (ostlerref01_Decimal.calls k (a0_0.size : Int) t262 _ A6.out).mono ?_
          rintro e w12 ⟨rfl, hb⟩
          refine ⟨_, rfl, ?_⟩
          have n0_ := Aside0.mk (blk_below (g := gb260) (o := .cells #[.string a0_0, .int .i64 a0_1, .int .i64 a0_2] 35 (0, 0)) (by (with_reducible repeat (first | refine blk_drewN ?_ _ | refine blk_drew ?_ | refine blk_alloc ?_ _)); exact BK260.out) hb)
          have n1_ := Aside0.mk (below_step (by repeat (first | (with_reducible first | exact HB.out | apply below_alloc | apply pw_below_drewN | apply below_drew1 | refine below_set ?_ GE260.out) | exact HB.out)) hb)
          clear BK260
          clear HB
          have BK260 := n0_
          have HB := n1_
          clear n0_ n1_
          (try clear hb)
          (try clear hb2)
          (try clear hk)
          (try clear hi)
          refine hK.out _ _ ⟨(blk_cell BK260.out 0).trans rfl, (blk_cell BK260.out 1).trans rfl, (blk_cell BK260.out 2).trans rfl⟩ (fun hHeld => ?_)
          clear hK K
          refine norm_ (a' := ?_) ?_ ?_
          rotate_left
          · show Act.put _ (some 12) _ = _
            simp only [Act.put, List.setIfInBounds_toArray, List.set_cons_zero, List.set_cons_succ, i64_w, i32_w]
            rfl
          refine pure_ (i := 10) (N := some 13) (v := ?_) (a' := ?_) #[true, true, true, true, true, true, true, true, true, true, true, false, false] rfl rfl (any_of HT_.out (by kernel_rfl)) (fun _ _ _ h => h) (Or.inl ⟨by rfl, ?_⟩) ?_ ?_
          rotate_left
          · intro w'
            go_simp
            with_reducible rfl
          rotate_left
          · simp only [Act.put, List.setIfInBounds_toArray, List.set_cons_zero, List.set_cons_succ, i64_w, i32_w]
            rfl
          refine pure_ (i := 11) (N := some 14) (v := ?_) (a' := ?_) #[true, true, true, true, true, true, true, true, true, true, true, true, false] rfl rfl (any_of HT_.out (by kernel_rfl)) (fun _ _ _ h => h) (Or.inl ⟨by rfl, ?_⟩) ?_ ?_
          rotate_left
          · intro w'
            go_simp
            with_reducible rfl
          rotate_left
          · simp only [Act.put, List.setIfInBounds_toArray, List.set_cons_zero, List.set_cons_succ, i64_w, i32_w]
            rfl
          refine pure_ (i := 12) (N := some 2) (v := ?_) (a' := ?_) #[true, true, true, true, true, true, true, true, true, true, true, true, true] rfl rfl (any_of HT_.out (by kernel_rfl)) (fun _ _ _ h => h) (Or.inl ⟨by rfl, ?_⟩) ?_ ?_
          rotate_left
          · intro w'
            go_simp
            with_reducible rfl
          rotate_left
          · simp only [Act.put, List.setIfInBounds_toArray, List.set_cons_zero, List.set_cons_succ, i64_w, i32_w]
            rfl
          refine done_ (done_of HT_.out (by kernel_rfl)) ?_
          try go_wp2
          go_ret
          exact ⟨by first | rfl | (simp [errW_none, errW_some] <;> rfl) | (simp only [← hji2]; first | rfl | (simp [errW_none, errW_some] <;> rfl)) | (simp [*, errW_none, errW_some] <;> rfl), by repeat (first | (with_reducible first | exact HB.out | apply below_alloc | apply pw_below_drewN | apply below_drew1 | refine below_set ?_ GE260.out) | exact HB.out)⟩
        · rw [if_neg c8] at H
          exact absurd H (by simp)
      · rw [if_neg c7] at H
        exact absurd H (by simp)
    · rw [if_neg c5] at H
      exact absurd H (by simp)
  · rw [if_neg c4] at H
    exact absurd H (by simp)

end Go.Proofs.YtlbnnmdjmikedaaGreatDoor.PP
