-- Written by a program of this session (a changed copy of the kit's print) out of the translation. Not trusted: Lean checks it.
import Derived.Test.YtbbcnmdifiblfaaDoorPPx0
namespace Go.Proofs.YtbbcnmdifiblfaaDoor.PP
open Go.RowKit Go.Proofs.YtbbcnmdifiblfaaDoorW.PrintWords Go.Proofs.YtbbcnmdifiblfaaDoorW.PrintLast Go.Proofs.YtbbcnmdifiblfaaDoorW.PrintMore
attribute [local go_sem] max2_int min2_int max_two min_two max_three min_three max_four min_four   -- for this text's walks alone
set_option linter.unusedVariables false
set_option linter.unusedSimpArgs false

/-! ### ostlerref02_leap: function 25 -/
def ostlerref02_leap.f (a0 : Int) : Option (Bool) := if (Int.tmod a0 4) = 0 then (if (Int.tmod a0 100) = 0 then (some ((Int.tmod a0 400) == 0)) else (some true)) else (some false)
set_option maxHeartbeats 8000000 in
set_option maxRecDepth 100000 in
theorem ostlerref02_leap.calls (a0 : Int) (r : Bool) (w : World) (h : ostlerref02_leap.f a0 = some r) :
    Calls Tryd.prog 25 #[.int .i64 a0] w fun e w' => e = .returned (.bool r) ∧ Drawn0 w w' := by
  have H : (if (Int.tmod a0 4) = 0 then (if (Int.tmod a0 100) = 0 then (some ((Int.tmod a0 400) == 0)) else (some true)) else (some false)) = some r := h
  clear h
  by_cases c2 : (Int.tmod a0 4) = 0
  · rw [if_pos c2] at H
    have c2b0 : ((Int.tmod a0 4) == 0) = true := beq_iff_eq.mpr c2
    have c2b1 : ((Int.tmod a0 4) != 0) = false := bne_eq_false_iff_eq.mpr c2
    clear c2
    by_cases c3 : (Int.tmod a0 100) = 0
    · rw [if_pos c3] at H
      have c3b0 : ((Int.tmod a0 100) == 0) = true := beq_iff_eq.mpr c3
      have c3b1 : ((Int.tmod a0 100) != 0) = false := bne_eq_false_iff_eq.mpr c3
      clear c3
      obtain rfl := Option.some.inj H
      go_enter Tryd.func25, Tryd.ntmps25
      go_wp2
      go_ret
      exact ⟨by first | rfl | (simp; done) | (simp [*]; done) | (simp [bne_nil_]; done), by repeat (first | exact Drawn0.refl _ | apply Drawn0.step)⟩
    · rw [if_neg c3] at H
      have c3b0 : ((Int.tmod a0 100) == 0) = false := beq_eq_false_iff_ne.mpr c3
      have c3b1 : ((Int.tmod a0 100) != 0) = true := bne_iff_ne.mpr c3
      obtain rfl := Option.some.inj H
      go_enter Tryd.func25, Tryd.ntmps25
      go_wp2
      go_ret
      exact ⟨by first | rfl | (simp; done) | (simp [*]; done) | (simp [bne_nil_]; done), by repeat (first | exact Drawn0.refl _ | apply Drawn0.step)⟩
  · rw [if_neg c2] at H
    have c2b0 : ((Int.tmod a0 4) == 0) = false := beq_eq_false_iff_ne.mpr c2
    have c2b1 : ((Int.tmod a0 4) != 0) = true := bne_iff_ne.mpr c2
    obtain rfl := Option.some.inj H
    go_enter Tryd.func25, Tryd.ntmps25
    go_wp2
    go_ret
    exact ⟨by first | rfl | (simp; done) | (simp [*]; done) | (simp [bne_nil_]; done), by repeat (first | exact Drawn0.refl _ | apply Drawn0.step)⟩

/-! ### ostlerref02_year: function 17 -/
def ostlerref02_year.f (a0 : Int) : Option (Int) := (ostlerref02_leap.f a0).bind fun t115 => (if t115 = true then (some 366) else (some 365))
set_option maxHeartbeats 8000000 in
set_option maxRecDepth 100000 in
theorem ostlerref02_year.calls (a0 : Int) (r : Int) (w : World) (h : ostlerref02_year.f a0 = some r) :
    Calls Tryd.prog 17 #[.int .i64 a0] w fun e w' => e = .returned (.int .i64 r) ∧ Drawn0 w w' := by
  have H : ((ostlerref02_leap.f a0).bind fun t115 => (if t115 = true then (some 366) else (some 365))) = some r := h
  clear h
  replace H := Option.bind_eq_some_iff.mp H
  obtain ⟨t115, A20, H⟩ := H
  replace H : (if t115 = true then (some 366) else (some 365)) = some r := H
  have A2 := Aside0.mk A20
  clear A20
  by_cases c3 : t115 = true
  · subst c3
    have H1 : (some 366) = some r := by rw [if_pos rfl] at H; exact H
    clear H
    have H := H1
    clear H1
    obtain rfl := Option.some.inj H
    go_enter Tryd.func17, Tryd.ntmps17
    go_wp2_with (first | ((with_reducible refine gate_callee (f := 25) rfl ?_); refine goesL_ (some 4) rfl rfl Tryd.func25 (by kernel_rfl) rfl #[.int .i64 a0] rfl (by (try simp only [List.map_toArray, List.map_cons, List.map_nil]); first | done | rfl | (simp only [List.length_drop, List.length_take]; rfl)) ?_; (with_reducible refine (ostlerref02_leap.calls a0 true _ A2.out).mono ?_); rintro e w' ⟨rfl, ⟨nd, rfl⟩⟩; refine ⟨_, rfl, ?_⟩))
    go_ret
    exact ⟨by first | rfl | (simp; done) | (simp [*]; done) | (simp [bne_nil_]; done), by repeat (first | exact Drawn0.refl _ | apply Drawn0.step)⟩
  · replace c3 := Bool.eq_false_iff.mpr c3
    subst c3
    have H1 : (some 365) = some r := by rw [if_neg (show ¬ (false = true) by decide)] at H; exact H
    clear H
    have H := H1
    clear H1
    obtain rfl := Option.some.inj H
    go_enter Tryd.func17, Tryd.ntmps17
    go_wp2_with (first | ((with_reducible refine gate_callee (f := 25) rfl ?_); refine goesL_ (some 4) rfl rfl Tryd.func25 (by kernel_rfl) rfl #[.int .i64 a0] rfl (by (try simp only [List.map_toArray, List.map_cons, List.map_nil]); first | done | rfl | (simp only [List.length_drop, List.length_take]; rfl)) ?_; (with_reducible refine (ostlerref02_leap.calls a0 false _ A2.out).mono ?_); rintro e w' ⟨rfl, ⟨nd, rfl⟩⟩; refine ⟨_, rfl, ?_⟩))
    go_ret
    exact ⟨by first | rfl | (simp; done) | (simp [*]; done) | (simp [bne_nil_]; done), by repeat (first | exact Drawn0.refl _ | apply Drawn0.step)⟩

/-! ### ostlerref02_month: function 18 -/
def ostlerref02_month.f (a0 : Int) (a1 : Int) : Option (Int) := if a1 = 2 then ((ostlerref02_year.f a0).bind fun t116 => (some (wrap64 (t116 - 337)))) else (if a1 = 4 then (some 30) else (if a1 = 6 then (some 30) else (if a1 = 9 then (some 30) else (if a1 = 11 then (some 30) else (some 31)))))
set_option maxHeartbeats 8000000 in
set_option maxRecDepth 100000 in
theorem ostlerref02_month.calls (a0 : Int) (a1 : Int) (r : Int) (w : World) (h : ostlerref02_month.f a0 a1 = some r) :
    Calls Tryd.prog 18 #[.int .i64 a0, .int .i64 a1] w fun e w' => e = .returned (.int .i64 r) ∧ Drawn0 w w' := by
  have H : (if a1 = 2 then ((ostlerref02_year.f a0).bind fun t116 => (some (wrap64 (t116 - 337)))) else (if a1 = 4 then (some 30) else (if a1 = 6 then (some 30) else (if a1 = 9 then (some 30) else (if a1 = 11 then (some 30) else (some 31)))))) = some r := h
  clear h
  by_cases c3 : a1 = 2
  · rw [if_pos c3] at H
    have c3b0 : (a1 == 2) = true := beq_iff_eq.mpr c3
    have c3b1 : (a1 != 2) = false := bne_eq_false_iff_eq.mpr c3
    clear c3
    replace H := Option.bind_eq_some_iff.mp H
    obtain ⟨t116, A40, H⟩ := H
    replace H : (some (wrap64 (t116 - 337))) = some r := H
    have A4 := Aside0.mk A40
    clear A40
    obtain rfl := Option.some.inj H
    go_enter Tryd.func18, Tryd.ntmps18
    go_wp2_with (first | ((with_reducible refine gate_callee (f := 17) rfl ?_); refine goesL_ (some 9) rfl rfl Tryd.func17 (by kernel_rfl) rfl #[.int .i64 a0] rfl (by (try simp only [List.map_toArray, List.map_cons, List.map_nil]); first | done | rfl | (simp only [List.length_drop, List.length_take]; rfl)) ?_; (with_reducible refine (ostlerref02_year.calls a0 t116 _ A4.out).mono ?_); rintro e w' ⟨rfl, ⟨nd, rfl⟩⟩; refine ⟨_, rfl, ?_⟩))
    go_ret
    exact ⟨by first | rfl | (simp; done) | (simp [*]; done) | (simp [bne_nil_]; done), by repeat (first | exact Drawn0.refl _ | apply Drawn0.step)⟩
  · rw [if_neg c3] at H
    have c3b0 : (a1 == 2) = false := beq_eq_false_iff_ne.mpr c3
    have c3b1 : (a1 != 2) = true := bne_iff_ne.mpr c3
    by_cases c5 : a1 = 4
    · rw [if_pos c5] at H
      have c5b0 : (a1 == 4) = true := beq_iff_eq.mpr c5
      have c5b1 : (a1 != 4) = false := bne_eq_false_iff_eq.mpr c5
      clear c5
      obtain rfl := Option.some.inj H
      go_enter Tryd.func18, Tryd.ntmps18
      go_wp2
      go_ret
      exact ⟨by first | rfl | (simp; done) | (simp [*]; done) | (simp [bne_nil_]; done), by repeat (first | exact Drawn0.refl _ | apply Drawn0.step)⟩
    · rw [if_neg c5] at H
      have c5b0 : (a1 == 4) = false := beq_eq_false_iff_ne.mpr c5
      have c5b1 : (a1 != 4) = true := bne_iff_ne.mpr c5
      by_cases c6 : a1 = 6
      · rw [if_pos c6] at H
        have c6b0 : (a1 == 6) = true := beq_iff_eq.mpr c6
        have c6b1 : (a1 != 6) = false := bne_eq_false_iff_eq.mpr c6
        clear c6
        obtain rfl := Option.some.inj H
        go_enter Tryd.func18, Tryd.ntmps18
        go_wp2
        go_ret
        exact ⟨by first | rfl | (simp; done) | (simp [*]; done) | (simp [bne_nil_]; done), by repeat (first | exact Drawn0.refl _ | apply Drawn0.step)⟩
      · rw [if_neg c6] at H
        have c6b0 : (a1 == 6) = false := beq_eq_false_iff_ne.mpr c6
        have c6b1 : (a1 != 6) = true := bne_iff_ne.mpr c6
        by_cases c7 : a1 = 9
        · rw [if_pos c7] at H
          have c7b0 : (a1 == 9) = true := beq_iff_eq.mpr c7
          have c7b1 : (a1 != 9) = false := bne_eq_false_iff_eq.mpr c7
          clear c7
          obtain rfl := Option.some.inj H
          go_enter Tryd.func18, Tryd.ntmps18
          go_wp2
          go_ret
          exact ⟨by first | rfl | (simp; done) | (simp [*]; done) | (simp [bne_nil_]; done), by repeat (first | exact Drawn0.refl _ | apply Drawn0.step)⟩
        · rw [if_neg c7] at H
          have c7b0 : (a1 == 9) = false := beq_eq_false_iff_ne.mpr c7
          have c7b1 : (a1 != 9) = true := bne_iff_ne.mpr c7
          by_cases c8 : a1 = 11
          · rw [if_pos c8] at H
            have c8b0 : (a1 == 11) = true := beq_iff_eq.mpr c8
            have c8b1 : (a1 != 11) = false := bne_eq_false_iff_eq.mpr c8
            clear c8
            obtain rfl := Option.some.inj H
            go_enter Tryd.func18, Tryd.ntmps18
            go_wp2
            go_ret
            exact ⟨by first | rfl | (simp; done) | (simp [*]; done) | (simp [bne_nil_]; done), by repeat (first | exact Drawn0.refl _ | apply Drawn0.step)⟩
          · rw [if_neg c8] at H
            have c8b0 : (a1 == 11) = false := beq_eq_false_iff_ne.mpr c8
            have c8b1 : (a1 != 11) = true := bne_iff_ne.mpr c8
            obtain rfl := Option.some.inj H
            go_enter Tryd.func18, Tryd.ntmps18
            go_wp2
            go_ret
            exact ⟨by first | rfl | (simp; done) | (simp [*]; done) | (simp [bne_nil_]; done), by repeat (first | exact Drawn0.refl _ | apply Drawn0.step)⟩

/-! ### ostlerref02_two: function 19 -/
def ostlerref02_two.f (a0 : Int) : Option (ByteArray) := some (strOfNums (([(wrap64 (48 + (wrap64 (Int.tdiv a0 10)))) % 256, (wrap64 (48 + (Int.tmod a0 10))) % 256] : List Int)))
set_option maxHeartbeats 8000000 in
set_option maxRecDepth 100000 in
theorem ostlerref02_two.calls (a0 : Int) (r : ByteArray) (w : World) (h : ostlerref02_two.f a0 = some r) :
    Calls Tryd.prog 19 #[.int .i64 a0] w fun e w' => e = .returned (.string r) ∧ Below w.heap.size w w' := by
  have HB := Aside0.mk (Below.refl w.heap.size w)
  have H : (some (strOfNums (([(wrap64 (48 + (wrap64 (Int.tdiv a0 10)))) % 256, (wrap64 (48 + (Int.tmod a0 10))) % 256] : List Int)))) = some r := h
  clear h
  obtain ⟨y117, hy117⟩ : ∃ y_ : List Int, y_ = (([(wrap64 (48 + (wrap64 (Int.tdiv a0 10)))) % 256, (wrap64 (48 + (Int.tmod a0 10))) % 256] : List Int)) := ⟨_, rfl⟩
  replace H : (some (strOfNums y117)) = some r := by first | (rw [hy117]; with_reducible exact H) | (have H2_ := (Option.bind_some _ _).symm.trans H; rw [hy117]; with_reducible exact H2_) | (have H2_ := (Option.bind_some _ _).symm.trans H; with_reducible exact H2_) | with_reducible exact H | (rw [hy117]; exact H) | exact H
  have Ny117 := Aside0.mk hy117
  clear hy117
  obtain rfl := Option.some.inj H
  go_enter Tryd.func19, Tryd.ntmps19
  go_wp2_with (first | ((with_reducible refine gate_dst (N := 11) rfl ?_); refine Kd.R_lit (Kd.int .u8) _ 5 ?hg (N := 11) ?hd (xs := ([(wrap64 (48 + (wrap64 (Int.tdiv a0 10)))) % 256, (wrap64 (48 + (Int.tmod a0 10))) % 256] : List Int)) (inner := [.int .u8 ((wrap64 (48 + (wrap64 (Int.tdiv a0 10)))) % 256), .int .u8 ((wrap64 (48 + (Int.tmod a0 10))) % 256)]) (ok := fun _ => True) (okp := fun _ => True) ?hr ?hp (fun _ hk => hk) trivial (Below.refl _ _) (Nat.le_refl _) (by simp) ?_; (case hd => rfl); (case hg => rfl); (case hr => first | (go_simp; done) | (go_simp; rfl)); (case hp => exact (Reps.one (show Kd.M (Kd.int .u8) _ _ _ ((wrap64 (48 + (wrap64 (Int.tdiv a0 10)))) % 256) [.int .u8 ((wrap64 (48 + (wrap64 (Int.tdiv a0 10)))) % 256)] from rfl) (Reps.one (show Kd.M (Kd.int .u8) _ _ _ ((wrap64 (48 + (Int.tmod a0 10))) % 256) [.int .u8 ((wrap64 (48 + (Int.tmod a0 10))) % 256)] from rfl) (Reps.none _ _)))); intro v118 w2 ho3 hb hg_ hnew_; clear hg_ hnew_; (first | rw [← Ny117.out] at ho3 | (simp only [Int.reduceToNat] at ho3; rw [← Ny117.out] at ho3)); have n0_ := Aside0.mk (Kd.R_lower ho3 (below_size (by repeat (first | (with_reducible first | exact HB.out | apply below_alloc | apply pw_below_drewN | apply below_drew1) | exact HB.out)))); have n1_ := Aside0.mk (below_step (by repeat (first | (with_reducible first | exact HB.out | apply below_alloc | apply pw_below_drewN | apply below_drew1) | exact HB.out)) hb); clear HB; have HO119 := n0_; have HB := n1_; clear n0_ n1_; clear hb ho3; have hcv4 := own_string (P := Tryd.prog) Tryd.underlying41 Tryd.underlying5 Tryd.underlying9 (Kd.own_of_R HO119.out)))
  go_ret
  exact ⟨by first | rfl | (simp [errW_none, errW_some] <;> rfl) | (simp [*, errW_none, errW_some] <;> rfl), by repeat (first | (with_reducible first | exact HB.out | apply below_alloc | apply pw_below_drewN | apply below_drew1) | exact HB.out)⟩

/-! ### ostlerref02_Format: function 9 -/
mutual
def ostlerref02_Format.j0 : Nat → Int → Bool → Option (ByteArray × Int)
  | 0, _, _ => none
  | k + 1, x0, x17 => if x17 = true then (some ((⟨#[]⟩ : ByteArray), 5)) else (if 0 ≤ (wrap64 ((Int.tmod (wrap64 (Int.tdiv x0 86400)) 7) * 3)) then (if (wrap64 ((Int.tmod (wrap64 (Int.tdiv x0 86400)) 7) * 3)) ≤ (wrap64 ((wrap64 ((Int.tmod (wrap64 (Int.tdiv x0 86400)) 7) * 3)) + 3)) then (if (wrap64 ((wrap64 ((Int.tmod (wrap64 (Int.tdiv x0 86400)) 7) * 3)) + 3)) ≤ 21 then (ostlerref02_Format.l0 k (wrap64 (Int.tdiv x0 86400)) (Int.tmod x0 86400) ((⟨#[84, 104, 117, 70, 114, 105, 83, 97, 116, 83, 117, 110, 77, 111, 110, 84, 117, 101, 87, 101, 100]⟩ : ByteArray).extract ((wrap64 ((Int.tmod (wrap64 (Int.tdiv x0 86400)) 7) * 3)) : Int).toNat ((wrap64 ((wrap64 ((Int.tmod (wrap64 (Int.tdiv x0 86400)) 7) * 3)) + 3)) : Int).toNat) 1970) else (none)) else (none)) else (none))
def ostlerref02_Format.l0 : Nat → Int → Int → ByteArray → Int → Option (ByteArray × Int)
  | 0, _, _, _, _ => none
  | k + 1, x4, x5, x7, x8 => (ostlerref02_year.f x8).bind fun t120 => (if x4 ≥ t120 then ((ostlerref02_year.f x8).bind fun t121 => (ostlerref02_Format.l0 k (wrap64 (x4 - t121)) x5 x7 (wrap64 (x8 + 1)))) else (ostlerref02_Format.l1 k x4 x5 x7 x8 1))
def ostlerref02_Format.l1 : Nat → Int → Int → ByteArray → Int → Int → Option (ByteArray × Int)
  | 0, _, _, _, _, _ => none
  | k + 1, x4, x5, x7, x8, x9 => (ostlerref02_month.f x8 x9).bind fun t122 => (if x4 ≥ t122 then ((ostlerref02_month.f x8 x9).bind fun t123 => (ostlerref02_Format.l1 k (wrap64 (x4 - t123)) x5 x7 x8 (wrap64 (x9 + 1)))) else (if x7.size + 2 ≤ 9223372036854775807 then ((ostlerref02_two.f (wrap64 (x4 + 1))).bind fun t124 => (if (x7 ++ (⟨#[44, 32]⟩ : ByteArray)).size + t124.size ≤ 9223372036854775807 then (if ((x7 ++ (⟨#[44, 32]⟩ : ByteArray)) ++ t124).size + 1 ≤ 9223372036854775807 then (if 0 ≤ (wrap64 ((wrap64 (3 * x9)) - 3)) then (if (wrap64 ((wrap64 (3 * x9)) - 3)) ≤ (wrap64 (3 * x9)) then (if (wrap64 (3 * x9)) ≤ 36 then (if (((x7 ++ (⟨#[44, 32]⟩ : ByteArray)) ++ t124) ++ (⟨#[32]⟩ : ByteArray)).size + ((⟨#[74, 97, 110, 70, 101, 98, 77, 97, 114, 65, 112, 114, 77, 97, 121, 74, 117, 110, 74, 117, 108, 65, 117, 103, 83, 101, 112, 79, 99, 116, 78, 111, 118, 68, 101, 99]⟩ : ByteArray).extract ((wrap64 ((wrap64 (3 * x9)) - 3)) : Int).toNat ((wrap64 (3 * x9)) : Int).toNat).size ≤ 9223372036854775807 then (if ((((x7 ++ (⟨#[44, 32]⟩ : ByteArray)) ++ t124) ++ (⟨#[32]⟩ : ByteArray)) ++ ((⟨#[74, 97, 110, 70, 101, 98, 77, 97, 114, 65, 112, 114, 77, 97, 121, 74, 117, 110, 74, 117, 108, 65, 117, 103, 83, 101, 112, 79, 99, 116, 78, 111, 118, 68, 101, 99]⟩ : ByteArray).extract ((wrap64 ((wrap64 (3 * x9)) - 3)) : Int).toNat ((wrap64 (3 * x9)) : Int).toNat)).size + 1 ≤ 9223372036854775807 then ((ostlerref02_two.f (wrap64 (Int.tdiv x8 100))).bind fun t125 => (if (((((x7 ++ (⟨#[44, 32]⟩ : ByteArray)) ++ t124) ++ (⟨#[32]⟩ : ByteArray)) ++ ((⟨#[74, 97, 110, 70, 101, 98, 77, 97, 114, 65, 112, 114, 77, 97, 121, 74, 117, 110, 74, 117, 108, 65, 117, 103, 83, 101, 112, 79, 99, 116, 78, 111, 118, 68, 101, 99]⟩ : ByteArray).extract ((wrap64 ((wrap64 (3 * x9)) - 3)) : Int).toNat ((wrap64 (3 * x9)) : Int).toNat)) ++ (⟨#[32]⟩ : ByteArray)).size + t125.size ≤ 9223372036854775807 then ((ostlerref02_two.f (Int.tmod x8 100)).bind fun t126 => (if ((((((x7 ++ (⟨#[44, 32]⟩ : ByteArray)) ++ t124) ++ (⟨#[32]⟩ : ByteArray)) ++ ((⟨#[74, 97, 110, 70, 101, 98, 77, 97, 114, 65, 112, 114, 77, 97, 121, 74, 117, 110, 74, 117, 108, 65, 117, 103, 83, 101, 112, 79, 99, 116, 78, 111, 118, 68, 101, 99]⟩ : ByteArray).extract ((wrap64 ((wrap64 (3 * x9)) - 3)) : Int).toNat ((wrap64 (3 * x9)) : Int).toNat)) ++ (⟨#[32]⟩ : ByteArray)) ++ t125).size + t126.size ≤ 9223372036854775807 then (if (((((((x7 ++ (⟨#[44, 32]⟩ : ByteArray)) ++ t124) ++ (⟨#[32]⟩ : ByteArray)) ++ ((⟨#[74, 97, 110, 70, 101, 98, 77, 97, 114, 65, 112, 114, 77, 97, 121, 74, 117, 110, 74, 117, 108, 65, 117, 103, 83, 101, 112, 79, 99, 116, 78, 111, 118, 68, 101, 99]⟩ : ByteArray).extract ((wrap64 ((wrap64 (3 * x9)) - 3)) : Int).toNat ((wrap64 (3 * x9)) : Int).toNat)) ++ (⟨#[32]⟩ : ByteArray)) ++ t125) ++ t126).size + 1 ≤ 9223372036854775807 then ((ostlerref02_two.f (wrap64 (Int.tdiv x5 3600))).bind fun t127 => (if ((((((((x7 ++ (⟨#[44, 32]⟩ : ByteArray)) ++ t124) ++ (⟨#[32]⟩ : ByteArray)) ++ ((⟨#[74, 97, 110, 70, 101, 98, 77, 97, 114, 65, 112, 114, 77, 97, 121, 74, 117, 110, 74, 117, 108, 65, 117, 103, 83, 101, 112, 79, 99, 116, 78, 111, 118, 68, 101, 99]⟩ : ByteArray).extract ((wrap64 ((wrap64 (3 * x9)) - 3)) : Int).toNat ((wrap64 (3 * x9)) : Int).toNat)) ++ (⟨#[32]⟩ : ByteArray)) ++ t125) ++ t126) ++ (⟨#[32]⟩ : ByteArray)).size + t127.size ≤ 9223372036854775807 then (if (((((((((x7 ++ (⟨#[44, 32]⟩ : ByteArray)) ++ t124) ++ (⟨#[32]⟩ : ByteArray)) ++ ((⟨#[74, 97, 110, 70, 101, 98, 77, 97, 114, 65, 112, 114, 77, 97, 121, 74, 117, 110, 74, 117, 108, 65, 117, 103, 83, 101, 112, 79, 99, 116, 78, 111, 118, 68, 101, 99]⟩ : ByteArray).extract ((wrap64 ((wrap64 (3 * x9)) - 3)) : Int).toNat ((wrap64 (3 * x9)) : Int).toNat)) ++ (⟨#[32]⟩ : ByteArray)) ++ t125) ++ t126) ++ (⟨#[32]⟩ : ByteArray)) ++ t127).size + 1 ≤ 9223372036854775807 then ((ostlerref02_two.f (Int.tmod (wrap64 (Int.tdiv x5 60)) 60)).bind fun t128 => (if ((((((((((x7 ++ (⟨#[44, 32]⟩ : ByteArray)) ++ t124) ++ (⟨#[32]⟩ : ByteArray)) ++ ((⟨#[74, 97, 110, 70, 101, 98, 77, 97, 114, 65, 112, 114, 77, 97, 121, 74, 117, 110, 74, 117, 108, 65, 117, 103, 83, 101, 112, 79, 99, 116, 78, 111, 118, 68, 101, 99]⟩ : ByteArray).extract ((wrap64 ((wrap64 (3 * x9)) - 3)) : Int).toNat ((wrap64 (3 * x9)) : Int).toNat)) ++ (⟨#[32]⟩ : ByteArray)) ++ t125) ++ t126) ++ (⟨#[32]⟩ : ByteArray)) ++ t127) ++ (⟨#[58]⟩ : ByteArray)).size + t128.size ≤ 9223372036854775807 then (if (((((((((((x7 ++ (⟨#[44, 32]⟩ : ByteArray)) ++ t124) ++ (⟨#[32]⟩ : ByteArray)) ++ ((⟨#[74, 97, 110, 70, 101, 98, 77, 97, 114, 65, 112, 114, 77, 97, 121, 74, 117, 110, 74, 117, 108, 65, 117, 103, 83, 101, 112, 79, 99, 116, 78, 111, 118, 68, 101, 99]⟩ : ByteArray).extract ((wrap64 ((wrap64 (3 * x9)) - 3)) : Int).toNat ((wrap64 (3 * x9)) : Int).toNat)) ++ (⟨#[32]⟩ : ByteArray)) ++ t125) ++ t126) ++ (⟨#[32]⟩ : ByteArray)) ++ t127) ++ (⟨#[58]⟩ : ByteArray)) ++ t128).size + 1 ≤ 9223372036854775807 then ((ostlerref02_two.f (Int.tmod x5 60)).bind fun t129 => (if ((((((((((((x7 ++ (⟨#[44, 32]⟩ : ByteArray)) ++ t124) ++ (⟨#[32]⟩ : ByteArray)) ++ ((⟨#[74, 97, 110, 70, 101, 98, 77, 97, 114, 65, 112, 114, 77, 97, 121, 74, 117, 110, 74, 117, 108, 65, 117, 103, 83, 101, 112, 79, 99, 116, 78, 111, 118, 68, 101, 99]⟩ : ByteArray).extract ((wrap64 ((wrap64 (3 * x9)) - 3)) : Int).toNat ((wrap64 (3 * x9)) : Int).toNat)) ++ (⟨#[32]⟩ : ByteArray)) ++ t125) ++ t126) ++ (⟨#[32]⟩ : ByteArray)) ++ t127) ++ (⟨#[58]⟩ : ByteArray)) ++ t128) ++ (⟨#[58]⟩ : ByteArray)).size + t129.size ≤ 9223372036854775807 then (if (((((((((((((x7 ++ (⟨#[44, 32]⟩ : ByteArray)) ++ t124) ++ (⟨#[32]⟩ : ByteArray)) ++ ((⟨#[74, 97, 110, 70, 101, 98, 77, 97, 114, 65, 112, 114, 77, 97, 121, 74, 117, 110, 74, 117, 108, 65, 117, 103, 83, 101, 112, 79, 99, 116, 78, 111, 118, 68, 101, 99]⟩ : ByteArray).extract ((wrap64 ((wrap64 (3 * x9)) - 3)) : Int).toNat ((wrap64 (3 * x9)) : Int).toNat)) ++ (⟨#[32]⟩ : ByteArray)) ++ t125) ++ t126) ++ (⟨#[32]⟩ : ByteArray)) ++ t127) ++ (⟨#[58]⟩ : ByteArray)) ++ t128) ++ (⟨#[58]⟩ : ByteArray)) ++ t129).size + 4 ≤ 9223372036854775807 then (some ((((((((((((((x7 ++ (⟨#[44, 32]⟩ : ByteArray)) ++ t124) ++ (⟨#[32]⟩ : ByteArray)) ++ ((⟨#[74, 97, 110, 70, 101, 98, 77, 97, 114, 65, 112, 114, 77, 97, 121, 74, 117, 110, 74, 117, 108, 65, 117, 103, 83, 101, 112, 79, 99, 116, 78, 111, 118, 68, 101, 99]⟩ : ByteArray).extract ((wrap64 ((wrap64 (3 * x9)) - 3)) : Int).toNat ((wrap64 (3 * x9)) : Int).toNat)) ++ (⟨#[32]⟩ : ByteArray)) ++ t125) ++ t126) ++ (⟨#[32]⟩ : ByteArray)) ++ t127) ++ (⟨#[58]⟩ : ByteArray)) ++ t128) ++ (⟨#[58]⟩ : ByteArray)) ++ t129) ++ (⟨#[32, 71, 77, 84]⟩ : ByteArray), 0)) else (none)) else (none))) else (none)) else (none))) else (none)) else (none))) else (none)) else (none))) else (none))) else (none)) else (none)) else (none)) else (none)) else (none)) else (none)) else (none))) else (none)))
end
def ostlerref02_Format.f (k : Nat) (a0 : Int) : Option (ByteArray × Int) := if a0 < 0 then (ostlerref02_Format.j0 k a0 true) else (ostlerref02_Format.j0 k a0 (decide (a0 > 253402300799)))
theorem ostlerref02_Format.mono_l : ∀ k, (∀ y0 y1, LeO (ostlerref02_Format.j0 k y0 y1) (ostlerref02_Format.j0 (k + 1) y0 y1)) ∧ (∀ y0 y1 y2 y3, LeO (ostlerref02_Format.l0 k y0 y1 y2 y3) (ostlerref02_Format.l0 (k + 1) y0 y1 y2 y3)) ∧ (∀ y0 y1 y2 y3 y4, LeO (ostlerref02_Format.l1 k y0 y1 y2 y3 y4) (ostlerref02_Format.l1 (k + 1) y0 y1 y2 y3 y4))
  | 0 => ⟨fun _ _ r h => by simp [ostlerref02_Format.j0] at h, fun _ _ _ _ r h => by simp [ostlerref02_Format.l0] at h, fun _ _ _ _ _ r h => by simp [ostlerref02_Format.l1] at h⟩
  | k + 1 => by
    obtain ⟨ih0, ih1, ih2⟩ := ostlerref02_Format.mono_l k
    refine ⟨?_, ?_, ?_⟩
    · intro y0 y1
      unfold ostlerref02_Format.j0
      repeat' first
      | (with_reducible exact ih0 _ _)
      | (with_reducible exact ih1 _ _ _ _)
      | (with_reducible exact ih2 _ _ _ _ _)
      | (with_reducible exact LeO.refl _)
      | (with_reducible exact LeO.none _)
      | (with_reducible refine LeO.ite ?_ ?_)
      | (with_reducible refine LeO.bind ?_ (fun _ => ?_))
      | exact ih0 _ _
      | exact ih1 _ _ _ _
      | exact ih2 _ _ _ _ _
      | exact LeO.none _
      | refine LeO.ite ?_ ?_
      | refine LeO.bind ?_ (fun _ => ?_)
    · intro y0 y1 y2 y3
      unfold ostlerref02_Format.l0
      repeat' first
      | (with_reducible exact ih0 _ _)
      | (with_reducible exact ih1 _ _ _ _)
      | (with_reducible exact ih2 _ _ _ _ _)
      | (with_reducible exact LeO.refl _)
      | (with_reducible exact LeO.none _)
      | (with_reducible refine LeO.ite ?_ ?_)
      | (with_reducible refine LeO.bind ?_ (fun _ => ?_))
      | exact ih0 _ _
      | exact ih1 _ _ _ _
      | exact ih2 _ _ _ _ _
      | exact LeO.none _
      | refine LeO.ite ?_ ?_
      | refine LeO.bind ?_ (fun _ => ?_)
    · intro y0 y1 y2 y3 y4
      unfold ostlerref02_Format.l1
      repeat' first
      | (with_reducible exact ih0 _ _)
      | (with_reducible exact ih1 _ _ _ _)
      | (with_reducible exact ih2 _ _ _ _ _)
      | (with_reducible exact LeO.refl _)
      | (with_reducible exact LeO.none _)
      | (with_reducible refine LeO.ite ?_ ?_)
      | (with_reducible refine LeO.bind ?_ (fun _ => ?_))
      | exact ih0 _ _
      | exact ih1 _ _ _ _
      | exact ih2 _ _ _ _ _
      | exact LeO.none _
      | refine LeO.ite ?_ ?_
      | refine LeO.bind ?_ (fun _ => ?_)
theorem ostlerref02_Format.mono : ∀ a0 k, LeO (ostlerref02_Format.f k a0) (ostlerref02_Format.f (k + 1) a0) := by
  intro a0 k
  obtain ⟨ih0, ih1, ih2⟩ := ostlerref02_Format.mono_l k
  unfold ostlerref02_Format.f
  repeat' first
      | (with_reducible exact ih0 _ _)
      | (with_reducible exact ih1 _ _ _ _)
      | (with_reducible exact ih2 _ _ _ _ _)
      | (with_reducible exact LeO.refl _)
      | (with_reducible exact LeO.none _)
      | (with_reducible refine LeO.ite ?_ ?_)
      | (with_reducible refine LeO.bind ?_ (fun _ => ?_))
      | exact ih0 _ _
      | exact ih1 _ _ _ _
      | exact ih2 _ _ _ _ _
      | exact LeO.none _
      | refine LeO.ite ?_ ?_
      | refine LeO.bind ?_ (fun _ => ?_)
def ostlerref02_Format.T16 : Bool × List (List Nat × List Nat) := (true, [([], []), ([0], [0]), ([], []), ([2], [2]), ([3], [3]), ([1, 4], [1, 4]), ([5], [5]), ([], []), ([], []), ([8], [8]), ([9], [9]), ([], []), ([11], [11]), ([7, 10, 12], [7, 10, 12]), ([6, 13], [6, 13]), ([14], [14]), ([], []), ([16], [16]), ([17, 4], [17]), ([15, 18], [15, 18]), ([], []), ([20], [20]), ([21, 18], [21]), ([19, 22], [19, 22]), ([23, 22, 0, 1, 2, 3, 4, 5, 6, 7, 8, 9, 10, 11, 12, 13, 14, 15, 16, 17, 18, 19, 20, 21, 22, 23], [23])])
def ostlerref02_Format.B16 : List Nat := [0, 1, 0, 4, 12, 31, 63, 0, 0, 256, 768, 0, 2048, 8064, 16383, 32767, 0, 65536, 196636, 524287, 0, 1048576, 3604508, 8388607, 16777215]
theorem ostlerref02_Format.tab16 : rtab .any (opsOf Tryd.f9 16) = ostlerref02_Format.T16 := by kernel_rfl
theorem ostlerref02_Format.bits16 : waitsOk ostlerref02_Format.T16.2 ostlerref02_Format.B16 = true := by kernel_rfl
set_option maxHeartbeats 8000000 in
set_option maxRecDepth 100000 in
theorem ostlerref02_Format.calls (k : Nat) (a0 : Int) (r1 : ByteArray) (r2 : Int) (w : World) (h : ostlerref02_Format.f k a0 = some (r1, r2)) :
    Calls Tryd.prog 9 #[.int .i64 a0] w fun e w' => e = .returned (.tuple #[.string r1, .int .i64 r2]) ∧ Below w.heap.size w w' := by
  have HB := Aside0.mk (Below.refl w.heap.size w)
  have H : (if a0 < 0 then (ostlerref02_Format.j0 k a0 true) else (ostlerref02_Format.j0 k a0 (decide (a0 > 253402300799)))) = some (r1, r2) := h
  clear h
  have HC2 := Aside0.mk H
  clear H
  go_enter Tryd.func9, Tryd.ntmps9
  go_upto_region 1 with (fail)
  go_cut [17] (fun v17 wc => ∃ (kq : Nat) (x17_1 : Bool), v17 = .bool x17_1 ∧ Aside0 (ostlerref02_Format.j0 kq a0 x17_1 = some (r1, r2)) ∧ Aside0 (kq ≤ k) ∧ Aside0 (Below w.heap.size w wc))
  case first =>
    have H := HC2.out
    clear HC2
    by_cases c3 : a0 < 0
    · rw [if_pos c3] at H
      have c3b0 : decide (a0 < 0) = true := decide_eq_true c3
      clear c3
      (first | rw [c3b0] | (simp only [i64_w, i32_w]; rw [c3b0]) | skip)
      have H' := Aside0.mk H
      clear H
      go_wp2
      go_meet
      case rel => exact ⟨_, (true), (by first | rfl | (simp; done) | (simp [*]; done) | (simp [bne_nil_]; done)), H', ⟨by first | omega | exact Nat.le_refl _⟩, ⟨by repeat (first | (with_reducible first | exact HB.out | apply below_alloc | apply pw_below_drewN | apply below_drew1) | exact HB.out)⟩⟩
    · rw [if_neg c3] at H
      have c3b0 : decide (a0 < 0) = false := decide_eq_false c3
      clear c3
      (first | rw [c3b0] | (simp only [i64_w, i32_w]; rw [c3b0]) | skip)
      have H' := Aside0.mk H
      clear H
      go_wp2
      go_meet
      case rel => exact ⟨_, (decide (a0 > 253402300799)), (by first | rfl | (simp; done) | (simp [*]; done) | (simp [bne_nil_]; done)), H', ⟨by first | omega | exact Nat.le_refl _⟩, ⟨by repeat (first | (with_reducible first | exact HB.out | apply below_alloc | apply pw_below_drewN | apply below_drew1) | exact HB.out)⟩⟩
  case rest =>
    clear HC2
    try clear p2
    try clear c3
    try clear c3b0
    obtain ⟨kq, x17_1, rfl, HA, HJ1, HB⟩ := hcut
    cases kq with
    | zero => exact absurd HA.out (by simp [ostlerref02_Format.j0])
    | succ kj1 =>
      have H := HA.out
      clear HA
      simp only [ostlerref02_Format.j0] at H
      by_cases c4 : x17_1 = true
      · subst c4
        have H1 : (some ((⟨#[]⟩ : ByteArray), 5)) = some (r1, r2) := by rw [if_pos rfl] at H; exact H
        clear H
        have H := H1
        clear H1
        simp only [Option.some.injEq, Prod.mk.injEq] at H
        obtain ⟨rfl, rfl⟩ := H
        go_wp2
        go_ret2
        exact ⟨by first | rfl | (simp [errW_none, errW_some] <;> rfl) | (simp [*, errW_none, errW_some] <;> rfl), by repeat (first | (with_reducible first | exact HB.out | apply below_alloc | apply pw_below_drewN | apply below_drew1) | exact HB.out)⟩
      · replace c4 := Bool.eq_false_iff.mpr c4
        subst c4
        have H1 : (if 0 ≤ (wrap64 ((Int.tmod (wrap64 (Int.tdiv a0 86400)) 7) * 3)) then (if (wrap64 ((Int.tmod (wrap64 (Int.tdiv a0 86400)) 7) * 3)) ≤ (wrap64 ((wrap64 ((Int.tmod (wrap64 (Int.tdiv a0 86400)) 7) * 3)) + 3)) then (if (wrap64 ((wrap64 ((Int.tmod (wrap64 (Int.tdiv a0 86400)) 7) * 3)) + 3)) ≤ 21 then (ostlerref02_Format.l0 kj1 (wrap64 (Int.tdiv a0 86400)) (Int.tmod a0 86400) ((⟨#[84, 104, 117, 70, 114, 105, 83, 97, 116, 83, 117, 110, 77, 111, 110, 84, 117, 101, 87, 101, 100]⟩ : ByteArray).extract ((wrap64 ((Int.tmod (wrap64 (Int.tdiv a0 86400)) 7) * 3)) : Int).toNat ((wrap64 ((wrap64 ((Int.tmod (wrap64 (Int.tdiv a0 86400)) 7) * 3)) + 3)) : Int).toNat) 1970) else (none)) else (none)) else (none)) = some (r1, r2) := by rw [if_neg (show ¬ (false = true) by decide)] at H; exact H
        clear H
        have H := H1
        clear H1
        obtain ⟨ji5, hji5⟩ : ∃ j_ : Int, (wrap64 ((Int.tmod (wrap64 (Int.tdiv a0 86400)) 7) * 3)) = j_ := ⟨_, rfl⟩
        replace H : (if 0 ≤ (ji5) then (if (ji5) ≤ (wrap64 ((ji5) + 3)) then (if (wrap64 ((ji5) + 3)) ≤ 21 then (ostlerref02_Format.l0 kj1 (wrap64 (Int.tdiv a0 86400)) (Int.tmod a0 86400) ((⟨#[84, 104, 117, 70, 114, 105, 83, 97, 116, 83, 117, 110, 77, 111, 110, 84, 117, 101, 87, 101, 100]⟩ : ByteArray).extract ((ji5) : Int).toNat ((wrap64 ((ji5) + 3)) : Int).toNat) 1970) else (none)) else (none)) else (none)) = some (r1, r2) := by first | (rw [hji5] at H; exact H) | (simp only [hji5] at H ⊢; exact H)
        have hji5w : (IntKind.i64.wrap ((Int.tmod (wrap64 (Int.tdiv a0 86400)) 7) * 3)) = ji5 := (i64_w _).trans hji5
        by_cases c6 : 0 ≤ (ji5)
        · rw [if_pos c6] at H
          have c6b0 := eq_true c6
          have c6b1 : decide (0 ≤ (ji5)) = true := decide_eq_true c6
          clear c6
          by_cases c7 : (ji5) ≤ (wrap64 ((ji5) + 3))
          · rw [if_pos c7] at H
            have c7b0 := eq_true c7
            have c7b1 : decide ((ji5) ≤ (wrap64 ((ji5) + 3))) = true := decide_eq_true c7
            by_cases c8 : (wrap64 ((ji5) + 3)) ≤ 21
            · rw [if_pos c8] at H
              have c8b0 := eq_true c8
              have c8b1 : decide ((wrap64 ((ji5) + 3)) ≤ 21) = true := decide_eq_true c8
              have H' := Aside0.mk H
              clear H
              go_wp2
              go_loopg [4, 8] kj1 (fun kq v4 v8 w' => ∃ (x4_2 : Int) (x8_2 : Int), v4 = .int .i64 x4_2 ∧ v8 = .int .i64 x8_2 ∧ Aside0 (ostlerref02_Format.l0 kq x4_2 (Int.tmod a0 86400) ((⟨#[84, 104, 117, 70, 114, 105, 83, 97, 116, 83, 117, 110, 77, 111, 110, 84, 117, 101, 87, 101, 100]⟩ : ByteArray).extract ((ji5) : Int).toNat ((wrap64 ((ji5) + 3)) : Int).toNat) x8_2 = some (r1, r2)) ∧ Aside0 (kq ≤ kj1) ∧ Aside0 (Below w.heap.size w w'))
              case atStart => exact ⟨(wrap64 (Int.tdiv a0 86400)), (1970), (by first | rfl | (simp; done) | (simp [*]; done) | (simp [bne_nil_]; done)), (by first | rfl | (simp; done) | (simp [*]; done) | (simp [bne_nil_]; done)), H', ⟨Nat.le_refl _⟩, ⟨by repeat (first | (with_reducible first | exact HB.out | apply below_alloc | apply pw_below_drewN | apply below_drew1) | exact HB.out)⟩⟩
              case round =>
                clear H'
                try clear p2
                try clear c3
                try clear c3b0
                try clear c4
                try clear c6
                try clear c6b0
                try clear c6b1
                try clear p6
                try clear c7
                try clear c7b0
                try clear c7b1
                try clear c8
                try clear c8b0
                try clear c8b1
                try clear p2
                obtain ⟨x4_2, x8_2, rfl, rfl, HA, HK2, HB⟩ := hrel
                cases gk with
                | zero => exact absurd HA.out (by simp [ostlerref02_Format.l0])
                | succ k2 =>
                  have H := HA.out
                  clear HA
                  simp only [ostlerref02_Format.l0] at H
                  replace H := Option.bind_eq_some_iff.mp H
                  obtain ⟨t120, A90, H⟩ := H
                  replace H : (if x4_2 ≥ t120 then ((ostlerref02_year.f x8_2).bind fun t121 => (ostlerref02_Format.l0 k2 (wrap64 (x4_2 - t121)) (Int.tmod a0 86400) ((⟨#[84, 104, 117, 70, 114, 105, 83, 97, 116, 83, 117, 110, 77, 111, 110, 84, 117, 101, 87, 101, 100]⟩ : ByteArray).extract ((ji5) : Int).toNat ((wrap64 ((ji5) + 3)) : Int).toNat) (wrap64 (x8_2 + 1)))) else (ostlerref02_Format.l1 k2 x4_2 (Int.tmod a0 86400) ((⟨#[84, 104, 117, 70, 114, 105, 83, 97, 116, 83, 117, 110, 77, 111, 110, 84, 117, 101, 87, 101, 100]⟩ : ByteArray).extract ((ji5) : Int).toNat ((wrap64 ((ji5) + 3)) : Int).toNat) x8_2 1)) = some (r1, r2) := H
                  have A9 := Aside0.mk A90
                  clear A90
                  by_cases c10 : x4_2 ≥ t120
                  · rw [if_pos c10] at H
                    have c10b0 : decide (t120 ≤ x4_2) = true := decide_eq_true c10
                    clear c10
                    replace H := Option.bind_eq_some_iff.mp H
                    obtain ⟨t121, A110, H⟩ := H
                    replace H : (ostlerref02_Format.l0 k2 (wrap64 (x4_2 - t121)) (Int.tmod a0 86400) ((⟨#[84, 104, 117, 70, 114, 105, 83, 97, 116, 83, 117, 110, 77, 111, 110, 84, 117, 101, 87, 101, 100]⟩ : ByteArray).extract ((ji5) : Int).toNat ((wrap64 ((ji5) + 3)) : Int).toNat) (wrap64 (x8_2 + 1))) = some (r1, r2) := H
                    have A11 := Aside0.mk A110
                    clear A110
                    have H' := Aside0.mk H
                    clear H
                    go_wp2_with (first | ((with_reducible refine gate_callee (f := 17) rfl ?_); refine goesL_ (some 33) rfl rfl Tryd.func17 (by kernel_rfl) rfl #[.int .i64 x8_2] rfl (by (try simp only [List.map_toArray, List.map_cons, List.map_nil]); first | done | rfl | (simp only [List.length_drop, List.length_take]; rfl)) ?_; (with_reducible refine (ostlerref02_year.calls x8_2 t120 _ A9.out).mono ?_); rintro e w' ⟨rfl, ⟨nd, rfl⟩⟩; refine ⟨_, rfl, ?_⟩) | ((with_reducible refine gate_callee (f := 17) rfl ?_); refine goesL_ (some 37) rfl rfl Tryd.func17 (by kernel_rfl) rfl #[.int .i64 x8_2] rfl (by (try simp only [List.map_toArray, List.map_cons, List.map_nil]); first | done | rfl | (simp only [List.length_drop, List.length_take]; rfl)) ?_; (with_reducible refine (ostlerref02_year.calls x8_2 t121 _ A11.out).mono ?_); rintro e w' ⟨rfl, ⟨nd, rfl⟩⟩; refine ⟨_, rfl, ?_⟩))
                    go_roundg k2
                    case measure => have := HJ1.out; have := HK2.out; omega
                    case rel => exact ⟨(wrap64 (x4_2 - t121)), (wrap64 (x8_2 + 1)), (by first | rfl | (simp; done) | (simp [*]; done) | (simp [bne_nil_]; done)), (by first | rfl | (simp; done) | (simp [*]; done) | (simp [bne_nil_]; done)), H', ⟨by have := HJ1.out; have := HK2.out; omega⟩, ⟨by repeat (first | (with_reducible first | exact HB.out | apply below_alloc | apply pw_below_drewN | apply below_drew1) | exact HB.out)⟩⟩
                  · rw [if_neg c10] at H
                    have c10b0 : decide (t120 ≤ x4_2) = false := decide_eq_false c10
                    clear c10
                    have H' := Aside0.mk H
                    clear H
                    go_wp2_with (first | ((with_reducible refine gate_callee (f := 17) rfl ?_); refine goesL_ (some 33) rfl rfl Tryd.func17 (by kernel_rfl) rfl #[.int .i64 x8_2] rfl (by (try simp only [List.map_toArray, List.map_cons, List.map_nil]); first | done | rfl | (simp only [List.length_drop, List.length_take]; rfl)) ?_; (with_reducible refine (ostlerref02_year.calls x8_2 t120 _ A9.out).mono ?_); rintro e w' ⟨rfl, ⟨nd, rfl⟩⟩; refine ⟨_, rfl, ?_⟩))
                    go_loopg [4, 9] k2 (fun kq v4 v9 w' => ∃ (x4_3 : Int) (x9_3 : Int), v4 = .int .i64 x4_3 ∧ v9 = .int .i64 x9_3 ∧ Aside0 (ostlerref02_Format.l1 kq x4_3 (Int.tmod a0 86400) ((⟨#[84, 104, 117, 70, 114, 105, 83, 97, 116, 83, 117, 110, 77, 111, 110, 84, 117, 101, 87, 101, 100]⟩ : ByteArray).extract ((ji5) : Int).toNat ((wrap64 ((ji5) + 3)) : Int).toNat) x8_2 x9_3 = some (r1, r2)) ∧ Aside0 (kq ≤ k2) ∧ Aside0 (Below w.heap.size w w'))
                    case atStart => exact ⟨(x4_2), (1), (by first | rfl | (simp; done) | (simp [*]; done) | (simp [bne_nil_]; done)), (by first | rfl | (simp; done) | (simp [*]; done) | (simp [bne_nil_]; done)), H', ⟨Nat.le_refl _⟩, ⟨by repeat (first | (with_reducible first | exact HB.out | apply below_alloc | apply pw_below_drewN | apply below_drew1) | exact HB.out)⟩⟩
                    case round =>
                      clear H'
                      try clear c1
                      try clear p2
                      try clear c3
                      try clear c3b0
                      try clear c4
                      try clear c6
                      try clear c6b0
                      try clear c6b1
                      try clear p6
                      try clear c7
                      try clear c7b0
                      try clear c7b1
                      try clear c8
                      try clear c8b0
                      try clear c8b1
                      try clear c9
                      try clear c10
                      try clear c10b0
                      try clear p2
                      try clear p6
                      obtain ⟨x4_3, x9_3, rfl, rfl, HA, HK3, HB⟩ := hrel
                      cases gk with
                      | zero => exact absurd HA.out (by simp [ostlerref02_Format.l1])
                      | succ k3 =>
                        have H := HA.out
                        clear HA
                        simp only [ostlerref02_Format.l1] at H
                        replace H := Option.bind_eq_some_iff.mp H
                        obtain ⟨t122, A120, H⟩ := H
                        replace H : (if x4_3 ≥ t122 then ((ostlerref02_month.f x8_2 x9_3).bind fun t123 => (ostlerref02_Format.l1 k3 (wrap64 (x4_3 - t123)) (Int.tmod a0 86400) ((⟨#[84, 104, 117, 70, 114, 105, 83, 97, 116, 83, 117, 110, 77, 111, 110, 84, 117, 101, 87, 101, 100]⟩ : ByteArray).extract ((ji5) : Int).toNat ((wrap64 ((ji5) + 3)) : Int).toNat) x8_2 (wrap64 (x9_3 + 1)))) else (if ((⟨#[84, 104, 117, 70, 114, 105, 83, 97, 116, 83, 117, 110, 77, 111, 110, 84, 117, 101, 87, 101, 100]⟩ : ByteArray).extract ((ji5) : Int).toNat ((wrap64 ((ji5) + 3)) : Int).toNat).size + 2 ≤ 9223372036854775807 then ((ostlerref02_two.f (wrap64 (x4_3 + 1))).bind fun t124 => (if (((⟨#[84, 104, 117, 70, 114, 105, 83, 97, 116, 83, 117, 110, 77, 111, 110, 84, 117, 101, 87, 101, 100]⟩ : ByteArray).extract ((ji5) : Int).toNat ((wrap64 ((ji5) + 3)) : Int).toNat) ++ (⟨#[44, 32]⟩ : ByteArray)).size + t124.size ≤ 9223372036854775807 then (if ((((⟨#[84, 104, 117, 70, 114, 105, 83, 97, 116, 83, 117, 110, 77, 111, 110, 84, 117, 101, 87, 101, 100]⟩ : ByteArray).extract ((ji5) : Int).toNat ((wrap64 ((ji5) + 3)) : Int).toNat) ++ (⟨#[44, 32]⟩ : ByteArray)) ++ t124).size + 1 ≤ 9223372036854775807 then (if 0 ≤ (wrap64 ((wrap64 (3 * x9_3)) - 3)) then (if (wrap64 ((wrap64 (3 * x9_3)) - 3)) ≤ (wrap64 (3 * x9_3)) then (if (wrap64 (3 * x9_3)) ≤ 36 then (if (((((⟨#[84, 104, 117, 70, 114, 105, 83, 97, 116, 83, 117, 110, 77, 111, 110, 84, 117, 101, 87, 101, 100]⟩ : ByteArray).extract ((ji5) : Int).toNat ((wrap64 ((ji5) + 3)) : Int).toNat) ++ (⟨#[44, 32]⟩ : ByteArray)) ++ t124) ++ (⟨#[32]⟩ : ByteArray)).size + ((⟨#[74, 97, 110, 70, 101, 98, 77, 97, 114, 65, 112, 114, 77, 97, 121, 74, 117, 110, 74, 117, 108, 65, 117, 103, 83, 101, 112, 79, 99, 116, 78, 111, 118, 68, 101, 99]⟩ : ByteArray).extract ((wrap64 ((wrap64 (3 * x9_3)) - 3)) : Int).toNat ((wrap64 (3 * x9_3)) : Int).toNat).size ≤ 9223372036854775807 then (if ((((((⟨#[84, 104, 117, 70, 114, 105, 83, 97, 116, 83, 117, 110, 77, 111, 110, 84, 117, 101, 87, 101, 100]⟩ : ByteArray).extract ((ji5) : Int).toNat ((wrap64 ((ji5) + 3)) : Int).toNat) ++ (⟨#[44, 32]⟩ : ByteArray)) ++ t124) ++ (⟨#[32]⟩ : ByteArray)) ++ ((⟨#[74, 97, 110, 70, 101, 98, 77, 97, 114, 65, 112, 114, 77, 97, 121, 74, 117, 110, 74, 117, 108, 65, 117, 103, 83, 101, 112, 79, 99, 116, 78, 111, 118, 68, 101, 99]⟩ : ByteArray).extract ((wrap64 ((wrap64 (3 * x9_3)) - 3)) : Int).toNat ((wrap64 (3 * x9_3)) : Int).toNat)).size + 1 ≤ 9223372036854775807 then ((ostlerref02_two.f (wrap64 (Int.tdiv x8_2 100))).bind fun t125 => (if (((((((⟨#[84, 104, 117, 70, 114, 105, 83, 97, 116, 83, 117, 110, 77, 111, 110, 84, 117, 101, 87, 101, 100]⟩ : ByteArray).extract ((ji5) : Int).toNat ((wrap64 ((ji5) + 3)) : Int).toNat) ++ (⟨#[44, 32]⟩ : ByteArray)) ++ t124) ++ (⟨#[32]⟩ : ByteArray)) ++ ((⟨#[74, 97, 110, 70, 101, 98, 77, 97, 114, 65, 112, 114, 77, 97, 121, 74, 117, 110, 74, 117, 108, 65, 117, 103, 83, 101, 112, 79, 99, 116, 78, 111, 118, 68, 101, 99]⟩ : ByteArray).extract ((wrap64 ((wrap64 (3 * x9_3)) - 3)) : Int).toNat ((wrap64 (3 * x9_3)) : Int).toNat)) ++ (⟨#[32]⟩ : ByteArray)).size + t125.size ≤ 9223372036854775807 then ((ostlerref02_two.f (Int.tmod x8_2 100)).bind fun t126 => (if ((((((((⟨#[84, 104, 117, 70, 114, 105, 83, 97, 116, 83, 117, 110, 77, 111, 110, 84, 117, 101, 87, 101, 100]⟩ : ByteArray).extract ((ji5) : Int).toNat ((wrap64 ((ji5) + 3)) : Int).toNat) ++ (⟨#[44, 32]⟩ : ByteArray)) ++ t124) ++ (⟨#[32]⟩ : ByteArray)) ++ ((⟨#[74, 97, 110, 70, 101, 98, 77, 97, 114, 65, 112, 114, 77, 97, 121, 74, 117, 110, 74, 117, 108, 65, 117, 103, 83, 101, 112, 79, 99, 116, 78, 111, 118, 68, 101, 99]⟩ : ByteArray).extract ((wrap64 ((wrap64 (3 * x9_3)) - 3)) : Int).toNat ((wrap64 (3 * x9_3)) : Int).toNat)) ++ (⟨#[32]⟩ : ByteArray)) ++ t125).size + t126.size ≤ 9223372036854775807 then (if (((((((((⟨#[84, 104, 117, 70, 114, 105, 83, 97, 116, 83, 117, 110, 77, 111, 110, 84, 117, 101, 87, 101, 100]⟩ : ByteArray).extract ((ji5) : Int).toNat ((wrap64 ((ji5) + 3)) : Int).toNat) ++ (⟨#[44, 32]⟩ : ByteArray)) ++ t124) ++ (⟨#[32]⟩ : ByteArray)) ++ ((⟨#[74, 97, 110, 70, 101, 98, 77, 97, 114, 65, 112, 114, 77, 97, 121, 74, 117, 110, 74, 117, 108, 65, 117, 103, 83, 101, 112, 79, 99, 116, 78, 111, 118, 68, 101, 99]⟩ : ByteArray).extract ((wrap64 ((wrap64 (3 * x9_3)) - 3)) : Int).toNat ((wrap64 (3 * x9_3)) : Int).toNat)) ++ (⟨#[32]⟩ : ByteArray)) ++ t125) ++ t126).size + 1 ≤ 9223372036854775807 then ((ostlerref02_two.f (wrap64 (Int.tdiv (Int.tmod a0 86400) 3600))).bind fun t127 => (if ((((((((((⟨#[84, 104, 117, 70, 114, 105, 83, 97, 116, 83, 117, 110, 77, 111, 110, 84, 117, 101, 87, 101, 100]⟩ : ByteArray).extract ((ji5) : Int).toNat ((wrap64 ((ji5) + 3)) : Int).toNat) ++ (⟨#[44, 32]⟩ : ByteArray)) ++ t124) ++ (⟨#[32]⟩ : ByteArray)) ++ ((⟨#[74, 97, 110, 70, 101, 98, 77, 97, 114, 65, 112, 114, 77, 97, 121, 74, 117, 110, 74, 117, 108, 65, 117, 103, 83, 101, 112, 79, 99, 116, 78, 111, 118, 68, 101, 99]⟩ : ByteArray).extract ((wrap64 ((wrap64 (3 * x9_3)) - 3)) : Int).toNat ((wrap64 (3 * x9_3)) : Int).toNat)) ++ (⟨#[32]⟩ : ByteArray)) ++ t125) ++ t126) ++ (⟨#[32]⟩ : ByteArray)).size + t127.size ≤ 9223372036854775807 then (if (((((((((((⟨#[84, 104, 117, 70, 114, 105, 83, 97, 116, 83, 117, 110, 77, 111, 110, 84, 117, 101, 87, 101, 100]⟩ : ByteArray).extract ((ji5) : Int).toNat ((wrap64 ((ji5) + 3)) : Int).toNat) ++ (⟨#[44, 32]⟩ : ByteArray)) ++ t124) ++ (⟨#[32]⟩ : ByteArray)) ++ ((⟨#[74, 97, 110, 70, 101, 98, 77, 97, 114, 65, 112, 114, 77, 97, 121, 74, 117, 110, 74, 117, 108, 65, 117, 103, 83, 101, 112, 79, 99, 116, 78, 111, 118, 68, 101, 99]⟩ : ByteArray).extract ((wrap64 ((wrap64 (3 * x9_3)) - 3)) : Int).toNat ((wrap64 (3 * x9_3)) : Int).toNat)) ++ (⟨#[32]⟩ : ByteArray)) ++ t125) ++ t126) ++ (⟨#[32]⟩ : ByteArray)) ++ t127).size + 1 ≤ 9223372036854775807 then ((ostlerref02_two.f (Int.tmod (wrap64 (Int.tdiv (Int.tmod a0 86400) 60)) 60)).bind fun t128 => (if ((((((((((((⟨#[84, 104, 117, 70, 114, 105, 83, 97, 116, 83, 117, 110, 77, 111, 110, 84, 117, 101, 87, 101, 100]⟩ : ByteArray).extract ((ji5) : Int).toNat ((wrap64 ((ji5) + 3)) : Int).toNat) ++ (⟨#[44, 32]⟩ : ByteArray)) ++ t124) ++ (⟨#[32]⟩ : ByteArray)) ++ ((⟨#[74, 97, 110, 70, 101, 98, 77, 97, 114, 65, 112, 114, 77, 97, 121, 74, 117, 110, 74, 117, 108, 65, 117, 103, 83, 101, 112, 79, 99, 116, 78, 111, 118, 68, 101, 99]⟩ : ByteArray).extract ((wrap64 ((wrap64 (3 * x9_3)) - 3)) : Int).toNat ((wrap64 (3 * x9_3)) : Int).toNat)) ++ (⟨#[32]⟩ : ByteArray)) ++ t125) ++ t126) ++ (⟨#[32]⟩ : ByteArray)) ++ t127) ++ (⟨#[58]⟩ : ByteArray)).size + t128.size ≤ 9223372036854775807 then (if (((((((((((((⟨#[84, 104, 117, 70, 114, 105, 83, 97, 116, 83, 117, 110, 77, 111, 110, 84, 117, 101, 87, 101, 100]⟩ : ByteArray).extract ((ji5) : Int).toNat ((wrap64 ((ji5) + 3)) : Int).toNat) ++ (⟨#[44, 32]⟩ : ByteArray)) ++ t124) ++ (⟨#[32]⟩ : ByteArray)) ++ ((⟨#[74, 97, 110, 70, 101, 98, 77, 97, 114, 65, 112, 114, 77, 97, 121, 74, 117, 110, 74, 117, 108, 65, 117, 103, 83, 101, 112, 79, 99, 116, 78, 111, 118, 68, 101, 99]⟩ : ByteArray).extract ((wrap64 ((wrap64 (3 * x9_3)) - 3)) : Int).toNat ((wrap64 (3 * x9_3)) : Int).toNat)) ++ (⟨#[32]⟩ : ByteArray)) ++ t125) ++ t126) ++ (⟨#[32]⟩ : ByteArray)) ++ t127) ++ (⟨#[58]⟩ : ByteArray)) ++ t128).size + 1 ≤ 9223372036854775807 then ((ostlerref02_two.f (Int.tmod (Int.tmod a0 86400) 60)).bind fun t129 => (if ((((((((((((((⟨#[84, 104, 117, 70, 114, 105, 83, 97, 116, 83, 117, 110, 77, 111, 110, 84, 117, 101, 87, 101, 100]⟩ : ByteArray).extract ((ji5) : Int).toNat ((wrap64 ((ji5) + 3)) : Int).toNat) ++ (⟨#[44, 32]⟩ : ByteArray)) ++ t124) ++ (⟨#[32]⟩ : ByteArray)) ++ ((⟨#[74, 97, 110, 70, 101, 98, 77, 97, 114, 65, 112, 114, 77, 97, 121, 74, 117, 110, 74, 117, 108, 65, 117, 103, 83, 101, 112, 79, 99, 116, 78, 111, 118, 68, 101, 99]⟩ : ByteArray).extract ((wrap64 ((wrap64 (3 * x9_3)) - 3)) : Int).toNat ((wrap64 (3 * x9_3)) : Int).toNat)) ++ (⟨#[32]⟩ : ByteArray)) ++ t125) ++ t126) ++ (⟨#[32]⟩ : ByteArray)) ++ t127) ++ (⟨#[58]⟩ : ByteArray)) ++ t128) ++ (⟨#[58]⟩ : ByteArray)).size + t129.size ≤ 9223372036854775807 then (if (((((((((((((((⟨#[84, 104, 117, 70, 114, 105, 83, 97, 116, 83, 117, 110, 77, 111, 110, 84, 117, 101, 87, 101, 100]⟩ : ByteArray).extract ((ji5) : Int).toNat ((wrap64 ((ji5) + 3)) : Int).toNat) ++ (⟨#[44, 32]⟩ : ByteArray)) ++ t124) ++ (⟨#[32]⟩ : ByteArray)) ++ ((⟨#[74, 97, 110, 70, 101, 98, 77, 97, 114, 65, 112, 114, 77, 97, 121, 74, 117, 110, 74, 117, 108, 65, 117, 103, 83, 101, 112, 79, 99, 116, 78, 111, 118, 68, 101, 99]⟩ : ByteArray).extract ((wrap64 ((wrap64 (3 * x9_3)) - 3)) : Int).toNat ((wrap64 (3 * x9_3)) : Int).toNat)) ++ (⟨#[32]⟩ : ByteArray)) ++ t125) ++ t126) ++ (⟨#[32]⟩ : ByteArray)) ++ t127) ++ (⟨#[58]⟩ : ByteArray)) ++ t128) ++ (⟨#[58]⟩ : ByteArray)) ++ t129).size + 4 ≤ 9223372036854775807 then (some ((((((((((((((((⟨#[84, 104, 117, 70, 114, 105, 83, 97, 116, 83, 117, 110, 77, 111, 110, 84, 117, 101, 87, 101, 100]⟩ : ByteArray).extract ((ji5) : Int).toNat ((wrap64 ((ji5) + 3)) : Int).toNat) ++ (⟨#[44, 32]⟩ : ByteArray)) ++ t124) ++ (⟨#[32]⟩ : ByteArray)) ++ ((⟨#[74, 97, 110, 70, 101, 98, 77, 97, 114, 65, 112, 114, 77, 97, 121, 74, 117, 110, 74, 117, 108, 65, 117, 103, 83, 101, 112, 79, 99, 116, 78, 111, 118, 68, 101, 99]⟩ : ByteArray).extract ((wrap64 ((wrap64 (3 * x9_3)) - 3)) : Int).toNat ((wrap64 (3 * x9_3)) : Int).toNat)) ++ (⟨#[32]⟩ : ByteArray)) ++ t125) ++ t126) ++ (⟨#[32]⟩ : ByteArray)) ++ t127) ++ (⟨#[58]⟩ : ByteArray)) ++ t128) ++ (⟨#[58]⟩ : ByteArray)) ++ t129) ++ (⟨#[32, 71, 77, 84]⟩ : ByteArray), 0)) else (none)) else (none))) else (none)) else (none))) else (none)) else (none))) else (none)) else (none))) else (none))) else (none)) else (none)) else (none)) else (none)) else (none)) else (none)) else (none))) else (none))) = some (r1, r2) := H
                        have A12 := Aside0.mk A120
                        clear A120
                        by_cases c13 : x4_3 ≥ t122
                        · rw [if_pos c13] at H
                          have c13b0 : decide (t122 ≤ x4_3) = true := decide_eq_true c13
                          clear c13
                          replace H := Option.bind_eq_some_iff.mp H
                          obtain ⟨t123, A140, H⟩ := H
                          replace H : (ostlerref02_Format.l1 k3 (wrap64 (x4_3 - t123)) (Int.tmod a0 86400) ((⟨#[84, 104, 117, 70, 114, 105, 83, 97, 116, 83, 117, 110, 77, 111, 110, 84, 117, 101, 87, 101, 100]⟩ : ByteArray).extract ((ji5) : Int).toNat ((wrap64 ((ji5) + 3)) : Int).toNat) x8_2 (wrap64 (x9_3 + 1))) = some (r1, r2) := H
                          have A14 := Aside0.mk A140
                          clear A140
                          have H' := Aside0.mk H
                          clear H
                          go_wp2_with (first | ((with_reducible refine gate_callee (f := 18) rfl ?_); refine goesL_ (some 44) rfl rfl Tryd.func18 (by kernel_rfl) rfl #[.int .i64 x8_2, .int .i64 x9_3] rfl (by (try simp only [List.map_toArray, List.map_cons, List.map_nil]); first | done | rfl | (simp only [List.length_drop, List.length_take]; rfl)) ?_; (with_reducible refine (ostlerref02_month.calls x8_2 x9_3 t122 _ A12.out).mono ?_); rintro e w' ⟨rfl, ⟨nd, rfl⟩⟩; refine ⟨_, rfl, ?_⟩) | ((with_reducible refine gate_callee (f := 18) rfl ?_); refine goesL_ (some 49) rfl rfl Tryd.func18 (by kernel_rfl) rfl #[.int .i64 x8_2, .int .i64 x9_3] rfl (by (try simp only [List.map_toArray, List.map_cons, List.map_nil]); first | done | rfl | (simp only [List.length_drop, List.length_take]; rfl)) ?_; (with_reducible refine (ostlerref02_month.calls x8_2 x9_3 t123 _ A14.out).mono ?_); rintro e w' ⟨rfl, ⟨nd, rfl⟩⟩; refine ⟨_, rfl, ?_⟩))
                          go_roundg k3
                          case measure => have := HJ1.out; have := HK2.out; have := HK3.out; omega
                          case rel => exact ⟨(wrap64 (x4_3 - t123)), (wrap64 (x9_3 + 1)), (by first | rfl | (simp; done) | (simp [*]; done) | (simp [bne_nil_]; done)), (by first | rfl | (simp; done) | (simp [*]; done) | (simp [bne_nil_]; done)), H', ⟨by have := HJ1.out; have := HK2.out; have := HK3.out; omega⟩, ⟨by repeat (first | (with_reducible first | exact HB.out | apply below_alloc | apply pw_below_drewN | apply below_drew1) | exact HB.out)⟩⟩
                        · rw [if_neg c13] at H
                          have c13b0 : decide (t122 ≤ x4_3) = false := decide_eq_false c13
                          clear c13
                          obtain ⟨xe15, hxe15⟩ : ∃ x_ : ByteArray, ((⟨#[84, 104, 117, 70, 114, 105, 83, 97, 116, 83, 117, 110, 77, 111, 110, 84, 117, 101, 87, 101, 100]⟩ : ByteArray).extract ((ji5) : Int).toNat ((wrap64 ((ji5) + 3)) : Int).toNat) = x_ := ⟨_, rfl⟩
                          replace H : (if (xe15).size + 2 ≤ 9223372036854775807 then ((ostlerref02_two.f (wrap64 (x4_3 + 1))).bind fun t124 => (if ((xe15) ++ (⟨#[44, 32]⟩ : ByteArray)).size + t124.size ≤ 9223372036854775807 then (if (((xe15) ++ (⟨#[44, 32]⟩ : ByteArray)) ++ t124).size + 1 ≤ 9223372036854775807 then (if 0 ≤ (wrap64 ((wrap64 (3 * x9_3)) - 3)) then (if (wrap64 ((wrap64 (3 * x9_3)) - 3)) ≤ (wrap64 (3 * x9_3)) then (if (wrap64 (3 * x9_3)) ≤ 36 then (if ((((xe15) ++ (⟨#[44, 32]⟩ : ByteArray)) ++ t124) ++ (⟨#[32]⟩ : ByteArray)).size + ((⟨#[74, 97, 110, 70, 101, 98, 77, 97, 114, 65, 112, 114, 77, 97, 121, 74, 117, 110, 74, 117, 108, 65, 117, 103, 83, 101, 112, 79, 99, 116, 78, 111, 118, 68, 101, 99]⟩ : ByteArray).extract ((wrap64 ((wrap64 (3 * x9_3)) - 3)) : Int).toNat ((wrap64 (3 * x9_3)) : Int).toNat).size ≤ 9223372036854775807 then (if (((((xe15) ++ (⟨#[44, 32]⟩ : ByteArray)) ++ t124) ++ (⟨#[32]⟩ : ByteArray)) ++ ((⟨#[74, 97, 110, 70, 101, 98, 77, 97, 114, 65, 112, 114, 77, 97, 121, 74, 117, 110, 74, 117, 108, 65, 117, 103, 83, 101, 112, 79, 99, 116, 78, 111, 118, 68, 101, 99]⟩ : ByteArray).extract ((wrap64 ((wrap64 (3 * x9_3)) - 3)) : Int).toNat ((wrap64 (3 * x9_3)) : Int).toNat)).size + 1 ≤ 9223372036854775807 then ((ostlerref02_two.f (wrap64 (Int.tdiv x8_2 100))).bind fun t125 => (if ((((((xe15) ++ (⟨#[44, 32]⟩ : ByteArray)) ++ t124) ++ (⟨#[32]⟩ : ByteArray)) ++ ((⟨#[74, 97, 110, 70, 101, 98, 77, 97, 114, 65, 112, 114, 77, 97, 121, 74, 117, 110, 74, 117, 108, 65, 117, 103, 83, 101, 112, 79, 99, 116, 78, 111, 118, 68, 101, 99]⟩ : ByteArray).extract ((wrap64 ((wrap64 (3 * x9_3)) - 3)) : Int).toNat ((wrap64 (3 * x9_3)) : Int).toNat)) ++ (⟨#[32]⟩ : ByteArray)).size + t125.size ≤ 9223372036854775807 then ((ostlerref02_two.f (Int.tmod x8_2 100)).bind fun t126 => (if (((((((xe15) ++ (⟨#[44, 32]⟩ : ByteArray)) ++ t124) ++ (⟨#[32]⟩ : ByteArray)) ++ ((⟨#[74, 97, 110, 70, 101, 98, 77, 97, 114, 65, 112, 114, 77, 97, 121, 74, 117, 110, 74, 117, 108, 65, 117, 103, 83, 101, 112, 79, 99, 116, 78, 111, 118, 68, 101, 99]⟩ : ByteArray).extract ((wrap64 ((wrap64 (3 * x9_3)) - 3)) : Int).toNat ((wrap64 (3 * x9_3)) : Int).toNat)) ++ (⟨#[32]⟩ : ByteArray)) ++ t125).size + t126.size ≤ 9223372036854775807 then (if ((((((((xe15) ++ (⟨#[44, 32]⟩ : ByteArray)) ++ t124) ++ (⟨#[32]⟩ : ByteArray)) ++ ((⟨#[74, 97, 110, 70, 101, 98, 77, 97, 114, 65, 112, 114, 77, 97, 121, 74, 117, 110, 74, 117, 108, 65, 117, 103, 83, 101, 112, 79, 99, 116, 78, 111, 118, 68, 101, 99]⟩ : ByteArray).extract ((wrap64 ((wrap64 (3 * x9_3)) - 3)) : Int).toNat ((wrap64 (3 * x9_3)) : Int).toNat)) ++ (⟨#[32]⟩ : ByteArray)) ++ t125) ++ t126).size + 1 ≤ 9223372036854775807 then ((ostlerref02_two.f (wrap64 (Int.tdiv (Int.tmod a0 86400) 3600))).bind fun t127 => (if (((((((((xe15) ++ (⟨#[44, 32]⟩ : ByteArray)) ++ t124) ++ (⟨#[32]⟩ : ByteArray)) ++ ((⟨#[74, 97, 110, 70, 101, 98, 77, 97, 114, 65, 112, 114, 77, 97, 121, 74, 117, 110, 74, 117, 108, 65, 117, 103, 83, 101, 112, 79, 99, 116, 78, 111, 118, 68, 101, 99]⟩ : ByteArray).extract ((wrap64 ((wrap64 (3 * x9_3)) - 3)) : Int).toNat ((wrap64 (3 * x9_3)) : Int).toNat)) ++ (⟨#[32]⟩ : ByteArray)) ++ t125) ++ t126) ++ (⟨#[32]⟩ : ByteArray)).size + t127.size ≤ 9223372036854775807 then (if ((((((((((xe15) ++ (⟨#[44, 32]⟩ : ByteArray)) ++ t124) ++ (⟨#[32]⟩ : ByteArray)) ++ ((⟨#[74, 97, 110, 70, 101, 98, 77, 97, 114, 65, 112, 114, 77, 97, 121, 74, 117, 110, 74, 117, 108, 65, 117, 103, 83, 101, 112, 79, 99, 116, 78, 111, 118, 68, 101, 99]⟩ : ByteArray).extract ((wrap64 ((wrap64 (3 * x9_3)) - 3)) : Int).toNat ((wrap64 (3 * x9_3)) : Int).toNat)) ++ (⟨#[32]⟩ : ByteArray)) ++ t125) ++ t126) ++ (⟨#[32]⟩ : ByteArray)) ++ t127).size + 1 ≤ 9223372036854775807 then ((ostlerref02_two.f (Int.tmod (wrap64 (Int.tdiv (Int.tmod a0 86400) 60)) 60)).bind fun t128 => (if (((((((((((xe15) ++ (⟨#[44, 32]⟩ : ByteArray)) ++ t124) ++ (⟨#[32]⟩ : ByteArray)) ++ ((⟨#[74, 97, 110, 70, 101, 98, 77, 97, 114, 65, 112, 114, 77, 97, 121, 74, 117, 110, 74, 117, 108, 65, 117, 103, 83, 101, 112, 79, 99, 116, 78, 111, 118, 68, 101, 99]⟩ : ByteArray).extract ((wrap64 ((wrap64 (3 * x9_3)) - 3)) : Int).toNat ((wrap64 (3 * x9_3)) : Int).toNat)) ++ (⟨#[32]⟩ : ByteArray)) ++ t125) ++ t126) ++ (⟨#[32]⟩ : ByteArray)) ++ t127) ++ (⟨#[58]⟩ : ByteArray)).size + t128.size ≤ 9223372036854775807 then (if ((((((((((((xe15) ++ (⟨#[44, 32]⟩ : ByteArray)) ++ t124) ++ (⟨#[32]⟩ : ByteArray)) ++ ((⟨#[74, 97, 110, 70, 101, 98, 77, 97, 114, 65, 112, 114, 77, 97, 121, 74, 117, 110, 74, 117, 108, 65, 117, 103, 83, 101, 112, 79, 99, 116, 78, 111, 118, 68, 101, 99]⟩ : ByteArray).extract ((wrap64 ((wrap64 (3 * x9_3)) - 3)) : Int).toNat ((wrap64 (3 * x9_3)) : Int).toNat)) ++ (⟨#[32]⟩ : ByteArray)) ++ t125) ++ t126) ++ (⟨#[32]⟩ : ByteArray)) ++ t127) ++ (⟨#[58]⟩ : ByteArray)) ++ t128).size + 1 ≤ 9223372036854775807 then ((ostlerref02_two.f (Int.tmod (Int.tmod a0 86400) 60)).bind fun t129 => (if (((((((((((((xe15) ++ (⟨#[44, 32]⟩ : ByteArray)) ++ t124) ++ (⟨#[32]⟩ : ByteArray)) ++ ((⟨#[74, 97, 110, 70, 101, 98, 77, 97, 114, 65, 112, 114, 77, 97, 121, 74, 117, 110, 74, 117, 108, 65, 117, 103, 83, 101, 112, 79, 99, 116, 78, 111, 118, 68, 101, 99]⟩ : ByteArray).extract ((wrap64 ((wrap64 (3 * x9_3)) - 3)) : Int).toNat ((wrap64 (3 * x9_3)) : Int).toNat)) ++ (⟨#[32]⟩ : ByteArray)) ++ t125) ++ t126) ++ (⟨#[32]⟩ : ByteArray)) ++ t127) ++ (⟨#[58]⟩ : ByteArray)) ++ t128) ++ (⟨#[58]⟩ : ByteArray)).size + t129.size ≤ 9223372036854775807 then (if ((((((((((((((xe15) ++ (⟨#[44, 32]⟩ : ByteArray)) ++ t124) ++ (⟨#[32]⟩ : ByteArray)) ++ ((⟨#[74, 97, 110, 70, 101, 98, 77, 97, 114, 65, 112, 114, 77, 97, 121, 74, 117, 110, 74, 117, 108, 65, 117, 103, 83, 101, 112, 79, 99, 116, 78, 111, 118, 68, 101, 99]⟩ : ByteArray).extract ((wrap64 ((wrap64 (3 * x9_3)) - 3)) : Int).toNat ((wrap64 (3 * x9_3)) : Int).toNat)) ++ (⟨#[32]⟩ : ByteArray)) ++ t125) ++ t126) ++ (⟨#[32]⟩ : ByteArray)) ++ t127) ++ (⟨#[58]⟩ : ByteArray)) ++ t128) ++ (⟨#[58]⟩ : ByteArray)) ++ t129).size + 4 ≤ 9223372036854775807 then (some (((((((((((((((xe15) ++ (⟨#[44, 32]⟩ : ByteArray)) ++ t124) ++ (⟨#[32]⟩ : ByteArray)) ++ ((⟨#[74, 97, 110, 70, 101, 98, 77, 97, 114, 65, 112, 114, 77, 97, 121, 74, 117, 110, 74, 117, 108, 65, 117, 103, 83, 101, 112, 79, 99, 116, 78, 111, 118, 68, 101, 99]⟩ : ByteArray).extract ((wrap64 ((wrap64 (3 * x9_3)) - 3)) : Int).toNat ((wrap64 (3 * x9_3)) : Int).toNat)) ++ (⟨#[32]⟩ : ByteArray)) ++ t125) ++ t126) ++ (⟨#[32]⟩ : ByteArray)) ++ t127) ++ (⟨#[58]⟩ : ByteArray)) ++ t128) ++ (⟨#[58]⟩ : ByteArray)) ++ t129) ++ (⟨#[32, 71, 77, 84]⟩ : ByteArray), 0)) else (none)) else (none))) else (none)) else (none))) else (none)) else (none))) else (none)) else (none))) else (none))) else (none)) else (none)) else (none)) else (none)) else (none)) else (none)) else (none))) else (none)) = some (r1, r2) := by first | (rw [hxe15] at H; exact H) | (simp only [hxe15] at H ⊢; exact H)
                          (try (have hxe15n := hxe15; simp only [ByteArray.size, List.size_toArray, List.length_cons, List.length_nil, Nat.zero_add, Nat.reduceAdd] at hxe15n))
                          (try rw [hxe15] at A12)
                          by_cases c16 : (xe15).size + 2 ≤ 9223372036854775807
                          · rw [if_pos c16] at H
                            have c16b0 := eq_true c16
                            have c16b1 : decide ((xe15).size + 2 ≤ 9223372036854775807) = true := decide_eq_true c16
                            try have c16b2 : (9223372036854775807 < (xe15).size + 2) = False := eq_false (Nat.not_lt.2 c16)
                            replace H := Option.bind_eq_some_iff.mp H
                            obtain ⟨t124, A170, H⟩ := H
                            replace H : (if ((xe15) ++ (⟨#[44, 32]⟩ : ByteArray)).size + t124.size ≤ 9223372036854775807 then (if (((xe15) ++ (⟨#[44, 32]⟩ : ByteArray)) ++ t124).size + 1 ≤ 9223372036854775807 then (if 0 ≤ (wrap64 ((wrap64 (3 * x9_3)) - 3)) then (if (wrap64 ((wrap64 (3 * x9_3)) - 3)) ≤ (wrap64 (3 * x9_3)) then (if (wrap64 (3 * x9_3)) ≤ 36 then (if ((((xe15) ++ (⟨#[44, 32]⟩ : ByteArray)) ++ t124) ++ (⟨#[32]⟩ : ByteArray)).size + ((⟨#[74, 97, 110, 70, 101, 98, 77, 97, 114, 65, 112, 114, 77, 97, 121, 74, 117, 110, 74, 117, 108, 65, 117, 103, 83, 101, 112, 79, 99, 116, 78, 111, 118, 68, 101, 99]⟩ : ByteArray).extract ((wrap64 ((wrap64 (3 * x9_3)) - 3)) : Int).toNat ((wrap64 (3 * x9_3)) : Int).toNat).size ≤ 9223372036854775807 then (if (((((xe15) ++ (⟨#[44, 32]⟩ : ByteArray)) ++ t124) ++ (⟨#[32]⟩ : ByteArray)) ++ ((⟨#[74, 97, 110, 70, 101, 98, 77, 97, 114, 65, 112, 114, 77, 97, 121, 74, 117, 110, 74, 117, 108, 65, 117, 103, 83, 101, 112, 79, 99, 116, 78, 111, 118, 68, 101, 99]⟩ : ByteArray).extract ((wrap64 ((wrap64 (3 * x9_3)) - 3)) : Int).toNat ((wrap64 (3 * x9_3)) : Int).toNat)).size + 1 ≤ 9223372036854775807 then ((ostlerref02_two.f (wrap64 (Int.tdiv x8_2 100))).bind fun t125 => (if ((((((xe15) ++ (⟨#[44, 32]⟩ : ByteArray)) ++ t124) ++ (⟨#[32]⟩ : ByteArray)) ++ ((⟨#[74, 97, 110, 70, 101, 98, 77, 97, 114, 65, 112, 114, 77, 97, 121, 74, 117, 110, 74, 117, 108, 65, 117, 103, 83, 101, 112, 79, 99, 116, 78, 111, 118, 68, 101, 99]⟩ : ByteArray).extract ((wrap64 ((wrap64 (3 * x9_3)) - 3)) : Int).toNat ((wrap64 (3 * x9_3)) : Int).toNat)) ++ (⟨#[32]⟩ : ByteArray)).size + t125.size ≤ 9223372036854775807 then ((ostlerref02_two.f (Int.tmod x8_2 100)).bind fun t126 => (if (((((((xe15) ++ (⟨#[44, 32]⟩ : ByteArray)) ++ t124) ++ (⟨#[32]⟩ : ByteArray)) ++ ((⟨#[74, 97, 110, 70, 101, 98, 77, 97, 114, 65, 112, 114, 77, 97, 121, 74, 117, 110, 74, 117, 108, 65, 117, 103, 83, 101, 112, 79, 99, 116, 78, 111, 118, 68, 101, 99]⟩ : ByteArray).extract ((wrap64 ((wrap64 (3 * x9_3)) - 3)) : Int).toNat ((wrap64 (3 * x9_3)) : Int).toNat)) ++ (⟨#[32]⟩ : ByteArray)) ++ t125).size + t126.size ≤ 9223372036854775807 then (if ((((((((xe15) ++ (⟨#[44, 32]⟩ : ByteArray)) ++ t124) ++ (⟨#[32]⟩ : ByteArray)) ++ ((⟨#[74, 97, 110, 70, 101, 98, 77, 97, 114, 65, 112, 114, 77, 97, 121, 74, 117, 110, 74, 117, 108, 65, 117, 103, 83, 101, 112, 79, 99, 116, 78, 111, 118, 68, 101, 99]⟩ : ByteArray).extract ((wrap64 ((wrap64 (3 * x9_3)) - 3)) : Int).toNat ((wrap64 (3 * x9_3)) : Int).toNat)) ++ (⟨#[32]⟩ : ByteArray)) ++ t125) ++ t126).size + 1 ≤ 9223372036854775807 then ((ostlerref02_two.f (wrap64 (Int.tdiv (Int.tmod a0 86400) 3600))).bind fun t127 => (if (((((((((xe15) ++ (⟨#[44, 32]⟩ : ByteArray)) ++ t124) ++ (⟨#[32]⟩ : ByteArray)) ++ ((⟨#[74, 97, 110, 70, 101, 98, 77, 97, 114, 65, 112, 114, 77, 97, 121, 74, 117, 110, 74, 117, 108, 65, 117, 103, 83, 101, 112, 79, 99, 116, 78, 111, 118, 68, 101, 99]⟩ : ByteArray).extract ((wrap64 ((wrap64 (3 * x9_3)) - 3)) : Int).toNat ((wrap64 (3 * x9_3)) : Int).toNat)) ++ (⟨#[32]⟩ : ByteArray)) ++ t125) ++ t126) ++ (⟨#[32]⟩ : ByteArray)).size + t127.size ≤ 9223372036854775807 then (if ((((((((((xe15) ++ (⟨#[44, 32]⟩ : ByteArray)) ++ t124) ++ (⟨#[32]⟩ : ByteArray)) ++ ((⟨#[74, 97, 110, 70, 101, 98, 77, 97, 114, 65, 112, 114, 77, 97, 121, 74, 117, 110, 74, 117, 108, 65, 117, 103, 83, 101, 112, 79, 99, 116, 78, 111, 118, 68, 101, 99]⟩ : ByteArray).extract ((wrap64 ((wrap64 (3 * x9_3)) - 3)) : Int).toNat ((wrap64 (3 * x9_3)) : Int).toNat)) ++ (⟨#[32]⟩ : ByteArray)) ++ t125) ++ t126) ++ (⟨#[32]⟩ : ByteArray)) ++ t127).size + 1 ≤ 9223372036854775807 then ((ostlerref02_two.f (Int.tmod (wrap64 (Int.tdiv (Int.tmod a0 86400) 60)) 60)).bind fun t128 => (if (((((((((((xe15) ++ (⟨#[44, 32]⟩ : ByteArray)) ++ t124) ++ (⟨#[32]⟩ : ByteArray)) ++ ((⟨#[74, 97, 110, 70, 101, 98, 77, 97, 114, 65, 112, 114, 77, 97, 121, 74, 117, 110, 74, 117, 108, 65, 117, 103, 83, 101, 112, 79, 99, 116, 78, 111, 118, 68, 101, 99]⟩ : ByteArray).extract ((wrap64 ((wrap64 (3 * x9_3)) - 3)) : Int).toNat ((wrap64 (3 * x9_3)) : Int).toNat)) ++ (⟨#[32]⟩ : ByteArray)) ++ t125) ++ t126) ++ (⟨#[32]⟩ : ByteArray)) ++ t127) ++ (⟨#[58]⟩ : ByteArray)).size + t128.size ≤ 9223372036854775807 then (if ((((((((((((xe15) ++ (⟨#[44, 32]⟩ : ByteArray)) ++ t124) ++ (⟨#[32]⟩ : ByteArray)) ++ ((⟨#[74, 97, 110, 70, 101, 98, 77, 97, 114, 65, 112, 114, 77, 97, 121, 74, 117, 110, 74, 117, 108, 65, 117, 103, 83, 101, 112, 79, 99, 116, 78, 111, 118, 68, 101, 99]⟩ : ByteArray).extract ((wrap64 ((wrap64 (3 * x9_3)) - 3)) : Int).toNat ((wrap64 (3 * x9_3)) : Int).toNat)) ++ (⟨#[32]⟩ : ByteArray)) ++ t125) ++ t126) ++ (⟨#[32]⟩ : ByteArray)) ++ t127) ++ (⟨#[58]⟩ : ByteArray)) ++ t128).size + 1 ≤ 9223372036854775807 then ((ostlerref02_two.f (Int.tmod (Int.tmod a0 86400) 60)).bind fun t129 => (if (((((((((((((xe15) ++ (⟨#[44, 32]⟩ : ByteArray)) ++ t124) ++ (⟨#[32]⟩ : ByteArray)) ++ ((⟨#[74, 97, 110, 70, 101, 98, 77, 97, 114, 65, 112, 114, 77, 97, 121, 74, 117, 110, 74, 117, 108, 65, 117, 103, 83, 101, 112, 79, 99, 116, 78, 111, 118, 68, 101, 99]⟩ : ByteArray).extract ((wrap64 ((wrap64 (3 * x9_3)) - 3)) : Int).toNat ((wrap64 (3 * x9_3)) : Int).toNat)) ++ (⟨#[32]⟩ : ByteArray)) ++ t125) ++ t126) ++ (⟨#[32]⟩ : ByteArray)) ++ t127) ++ (⟨#[58]⟩ : ByteArray)) ++ t128) ++ (⟨#[58]⟩ : ByteArray)).size + t129.size ≤ 9223372036854775807 then (if ((((((((((((((xe15) ++ (⟨#[44, 32]⟩ : ByteArray)) ++ t124) ++ (⟨#[32]⟩ : ByteArray)) ++ ((⟨#[74, 97, 110, 70, 101, 98, 77, 97, 114, 65, 112, 114, 77, 97, 121, 74, 117, 110, 74, 117, 108, 65, 117, 103, 83, 101, 112, 79, 99, 116, 78, 111, 118, 68, 101, 99]⟩ : ByteArray).extract ((wrap64 ((wrap64 (3 * x9_3)) - 3)) : Int).toNat ((wrap64 (3 * x9_3)) : Int).toNat)) ++ (⟨#[32]⟩ : ByteArray)) ++ t125) ++ t126) ++ (⟨#[32]⟩ : ByteArray)) ++ t127) ++ (⟨#[58]⟩ : ByteArray)) ++ t128) ++ (⟨#[58]⟩ : ByteArray)) ++ t129).size + 4 ≤ 9223372036854775807 then (some (((((((((((((((xe15) ++ (⟨#[44, 32]⟩ : ByteArray)) ++ t124) ++ (⟨#[32]⟩ : ByteArray)) ++ ((⟨#[74, 97, 110, 70, 101, 98, 77, 97, 114, 65, 112, 114, 77, 97, 121, 74, 117, 110, 74, 117, 108, 65, 117, 103, 83, 101, 112, 79, 99, 116, 78, 111, 118, 68, 101, 99]⟩ : ByteArray).extract ((wrap64 ((wrap64 (3 * x9_3)) - 3)) : Int).toNat ((wrap64 (3 * x9_3)) : Int).toNat)) ++ (⟨#[32]⟩ : ByteArray)) ++ t125) ++ t126) ++ (⟨#[32]⟩ : ByteArray)) ++ t127) ++ (⟨#[58]⟩ : ByteArray)) ++ t128) ++ (⟨#[58]⟩ : ByteArray)) ++ t129) ++ (⟨#[32, 71, 77, 84]⟩ : ByteArray), 0)) else (none)) else (none))) else (none)) else (none))) else (none)) else (none))) else (none)) else (none))) else (none))) else (none)) else (none)) else (none)) else (none)) else (none)) else (none)) else (none)) = some (r1, r2) := H
                            have A17 := Aside0.mk A170
                            clear A170
                            by_cases c18 : ((xe15) ++ (⟨#[44, 32]⟩ : ByteArray)).size + t124.size ≤ 9223372036854775807
                            · rw [if_pos c18] at H
                              have c18b0 := eq_true c18
                              have c18b1 : decide (((xe15) ++ (⟨#[44, 32]⟩ : ByteArray)).size + t124.size ≤ 9223372036854775807) = true := decide_eq_true c18
                              try have c18b2 : (9223372036854775807 < ((xe15) ++ (⟨#[44, 32]⟩ : ByteArray)).size + t124.size) = False := eq_false (Nat.not_lt.2 c18)
                              try (have c18n := c18; simp only [ByteArray.size_append, ByteArray.size_extract] at c18n; simp only [ByteArray.size, List.size_toArray, List.length_cons, List.length_nil, Nat.min_self, Nat.zero_add, Nat.sub_zero, Nat.reduceAdd] at c18n; try simp only [ByteArray.size_data] at c18n; have c18m := eq_true c18n)
                              try (have c18b5 : ¬ (9223372036854775807 < ((xe15) ++ (⟨#[44, 32]⟩ : ByteArray)).size + t124.size) := Nat.not_lt.2 c18; simp only [ByteArray.size_append, ByteArray.size_extract] at c18b5; simp only [ByteArray.size, List.size_toArray, List.length_cons, List.length_nil, Nat.min_self, Nat.zero_add, Nat.sub_zero, Nat.reduceAdd] at c18b5; try simp only [ByteArray.size_data] at c18b5; have c18b6 := eq_false c18b5)
                              by_cases c19 : (((xe15) ++ (⟨#[44, 32]⟩ : ByteArray)) ++ t124).size + 1 ≤ 9223372036854775807
                              · rw [if_pos c19] at H
                                have c19b0 := eq_true c19
                                have c19b1 : decide ((((xe15) ++ (⟨#[44, 32]⟩ : ByteArray)) ++ t124).size + 1 ≤ 9223372036854775807) = true := decide_eq_true c19
                                try have c19b2 : (9223372036854775807 < (((xe15) ++ (⟨#[44, 32]⟩ : ByteArray)) ++ t124).size + 1) = False := eq_false (Nat.not_lt.2 c19)
                                try (have c19n := c19; simp only [ByteArray.size_append, ByteArray.size_extract] at c19n; simp only [ByteArray.size, List.size_toArray, List.length_cons, List.length_nil, Nat.min_self, Nat.zero_add, Nat.sub_zero, Nat.reduceAdd] at c19n; try simp only [ByteArray.size_data] at c19n; have c19m := eq_true c19n)
                                try (have c19b5 : ¬ (9223372036854775807 < (((xe15) ++ (⟨#[44, 32]⟩ : ByteArray)) ++ t124).size + 1) := Nat.not_lt.2 c19; simp only [ByteArray.size_append, ByteArray.size_extract] at c19b5; simp only [ByteArray.size, List.size_toArray, List.length_cons, List.length_nil, Nat.min_self, Nat.zero_add, Nat.sub_zero, Nat.reduceAdd] at c19b5; try simp only [ByteArray.size_data] at c19b5; have c19b6 := eq_false c19b5)
                                obtain ⟨ji20, hji20⟩ : ∃ j_ : Int, (wrap64 ((wrap64 (3 * x9_3)) - 3)) = j_ := ⟨_, rfl⟩
                                replace H : (if 0 ≤ (ji20) then (if (ji20) ≤ (wrap64 (3 * x9_3)) then (if (wrap64 (3 * x9_3)) ≤ 36 then (if ((((xe15) ++ (⟨#[44, 32]⟩ : ByteArray)) ++ t124) ++ (⟨#[32]⟩ : ByteArray)).size + ((⟨#[74, 97, 110, 70, 101, 98, 77, 97, 114, 65, 112, 114, 77, 97, 121, 74, 117, 110, 74, 117, 108, 65, 117, 103, 83, 101, 112, 79, 99, 116, 78, 111, 118, 68, 101, 99]⟩ : ByteArray).extract ((ji20) : Int).toNat ((wrap64 (3 * x9_3)) : Int).toNat).size ≤ 9223372036854775807 then (if (((((xe15) ++ (⟨#[44, 32]⟩ : ByteArray)) ++ t124) ++ (⟨#[32]⟩ : ByteArray)) ++ ((⟨#[74, 97, 110, 70, 101, 98, 77, 97, 114, 65, 112, 114, 77, 97, 121, 74, 117, 110, 74, 117, 108, 65, 117, 103, 83, 101, 112, 79, 99, 116, 78, 111, 118, 68, 101, 99]⟩ : ByteArray).extract ((ji20) : Int).toNat ((wrap64 (3 * x9_3)) : Int).toNat)).size + 1 ≤ 9223372036854775807 then ((ostlerref02_two.f (wrap64 (Int.tdiv x8_2 100))).bind fun t125 => (if ((((((xe15) ++ (⟨#[44, 32]⟩ : ByteArray)) ++ t124) ++ (⟨#[32]⟩ : ByteArray)) ++ ((⟨#[74, 97, 110, 70, 101, 98, 77, 97, 114, 65, 112, 114, 77, 97, 121, 74, 117, 110, 74, 117, 108, 65, 117, 103, 83, 101, 112, 79, 99, 116, 78, 111, 118, 68, 101, 99]⟩ : ByteArray).extract ((ji20) : Int).toNat ((wrap64 (3 * x9_3)) : Int).toNat)) ++ (⟨#[32]⟩ : ByteArray)).size + t125.size ≤ 9223372036854775807 then ((ostlerref02_two.f (Int.tmod x8_2 100)).bind fun t126 => (if (((((((xe15) ++ (⟨#[44, 32]⟩ : ByteArray)) ++ t124) ++ (⟨#[32]⟩ : ByteArray)) ++ ((⟨#[74, 97, 110, 70, 101, 98, 77, 97, 114, 65, 112, 114, 77, 97, 121, 74, 117, 110, 74, 117, 108, 65, 117, 103, 83, 101, 112, 79, 99, 116, 78, 111, 118, 68, 101, 99]⟩ : ByteArray).extract ((ji20) : Int).toNat ((wrap64 (3 * x9_3)) : Int).toNat)) ++ (⟨#[32]⟩ : ByteArray)) ++ t125).size + t126.size ≤ 9223372036854775807 then (if ((((((((xe15) ++ (⟨#[44, 32]⟩ : ByteArray)) ++ t124) ++ (⟨#[32]⟩ : ByteArray)) ++ ((⟨#[74, 97, 110, 70, 101, 98, 77, 97, 114, 65, 112, 114, 77, 97, 121, 74, 117, 110, 74, 117, 108, 65, 117, 103, 83, 101, 112, 79, 99, 116, 78, 111, 118, 68, 101, 99]⟩ : ByteArray).extract ((ji20) : Int).toNat ((wrap64 (3 * x9_3)) : Int).toNat)) ++ (⟨#[32]⟩ : ByteArray)) ++ t125) ++ t126).size + 1 ≤ 9223372036854775807 then ((ostlerref02_two.f (wrap64 (Int.tdiv (Int.tmod a0 86400) 3600))).bind fun t127 => (if (((((((((xe15) ++ (⟨#[44, 32]⟩ : ByteArray)) ++ t124) ++ (⟨#[32]⟩ : ByteArray)) ++ ((⟨#[74, 97, 110, 70, 101, 98, 77, 97, 114, 65, 112, 114, 77, 97, 121, 74, 117, 110, 74, 117, 108, 65, 117, 103, 83, 101, 112, 79, 99, 116, 78, 111, 118, 68, 101, 99]⟩ : ByteArray).extract ((ji20) : Int).toNat ((wrap64 (3 * x9_3)) : Int).toNat)) ++ (⟨#[32]⟩ : ByteArray)) ++ t125) ++ t126) ++ (⟨#[32]⟩ : ByteArray)).size + t127.size ≤ 9223372036854775807 then (if ((((((((((xe15) ++ (⟨#[44, 32]⟩ : ByteArray)) ++ t124) ++ (⟨#[32]⟩ : ByteArray)) ++ ((⟨#[74, 97, 110, 70, 101, 98, 77, 97, 114, 65, 112, 114, 77, 97, 121, 74, 117, 110, 74, 117, 108, 65, 117, 103, 83, 101, 112, 79, 99, 116, 78, 111, 118, 68, 101, 99]⟩ : ByteArray).extract ((ji20) : Int).toNat ((wrap64 (3 * x9_3)) : Int).toNat)) ++ (⟨#[32]⟩ : ByteArray)) ++ t125) ++ t126) ++ (⟨#[32]⟩ : ByteArray)) ++ t127).size + 1 ≤ 9223372036854775807 then ((ostlerref02_two.f (Int.tmod (wrap64 (Int.tdiv (Int.tmod a0 86400) 60)) 60)).bind fun t128 => (if (((((((((((xe15) ++ (⟨#[44, 32]⟩ : ByteArray)) ++ t124) ++ (⟨#[32]⟩ : ByteArray)) ++ ((⟨#[74, 97, 110, 70, 101, 98, 77, 97, 114, 65, 112, 114, 77, 97, 121, 74, 117, 110, 74, 117, 108, 65, 117, 103, 83, 101, 112, 79, 99, 116, 78, 111, 118, 68, 101, 99]⟩ : ByteArray).extract ((ji20) : Int).toNat ((wrap64 (3 * x9_3)) : Int).toNat)) ++ (⟨#[32]⟩ : ByteArray)) ++ t125) ++ t126) ++ (⟨#[32]⟩ : ByteArray)) ++ t127) ++ (⟨#[58]⟩ : ByteArray)).size + t128.size ≤ 9223372036854775807 then (if ((((((((((((xe15) ++ (⟨#[44, 32]⟩ : ByteArray)) ++ t124) ++ (⟨#[32]⟩ : ByteArray)) ++ ((⟨#[74, 97, 110, 70, 101, 98, 77, 97, 114, 65, 112, 114, 77, 97, 121, 74, 117, 110, 74, 117, 108, 65, 117, 103, 83, 101, 112, 79, 99, 116, 78, 111, 118, 68, 101, 99]⟩ : ByteArray).extract ((ji20) : Int).toNat ((wrap64 (3 * x9_3)) : Int).toNat)) ++ (⟨#[32]⟩ : ByteArray)) ++ t125) ++ t126) ++ (⟨#[32]⟩ : ByteArray)) ++ t127) ++ (⟨#[58]⟩ : ByteArray)) ++ t128).size + 1 ≤ 9223372036854775807 then ((ostlerref02_two.f (Int.tmod (Int.tmod a0 86400) 60)).bind fun t129 => (if (((((((((((((xe15) ++ (⟨#[44, 32]⟩ : ByteArray)) ++ t124) ++ (⟨#[32]⟩ : ByteArray)) ++ ((⟨#[74, 97, 110, 70, 101, 98, 77, 97, 114, 65, 112, 114, 77, 97, 121, 74, 117, 110, 74, 117, 108, 65, 117, 103, 83, 101, 112, 79, 99, 116, 78, 111, 118, 68, 101, 99]⟩ : ByteArray).extract ((ji20) : Int).toNat ((wrap64 (3 * x9_3)) : Int).toNat)) ++ (⟨#[32]⟩ : ByteArray)) ++ t125) ++ t126) ++ (⟨#[32]⟩ : ByteArray)) ++ t127) ++ (⟨#[58]⟩ : ByteArray)) ++ t128) ++ (⟨#[58]⟩ : ByteArray)).size + t129.size ≤ 9223372036854775807 then (if ((((((((((((((xe15) ++ (⟨#[44, 32]⟩ : ByteArray)) ++ t124) ++ (⟨#[32]⟩ : ByteArray)) ++ ((⟨#[74, 97, 110, 70, 101, 98, 77, 97, 114, 65, 112, 114, 77, 97, 121, 74, 117, 110, 74, 117, 108, 65, 117, 103, 83, 101, 112, 79, 99, 116, 78, 111, 118, 68, 101, 99]⟩ : ByteArray).extract ((ji20) : Int).toNat ((wrap64 (3 * x9_3)) : Int).toNat)) ++ (⟨#[32]⟩ : ByteArray)) ++ t125) ++ t126) ++ (⟨#[32]⟩ : ByteArray)) ++ t127) ++ (⟨#[58]⟩ : ByteArray)) ++ t128) ++ (⟨#[58]⟩ : ByteArray)) ++ t129).size + 4 ≤ 9223372036854775807 then (some (((((((((((((((xe15) ++ (⟨#[44, 32]⟩ : ByteArray)) ++ t124) ++ (⟨#[32]⟩ : ByteArray)) ++ ((⟨#[74, 97, 110, 70, 101, 98, 77, 97, 114, 65, 112, 114, 77, 97, 121, 74, 117, 110, 74, 117, 108, 65, 117, 103, 83, 101, 112, 79, 99, 116, 78, 111, 118, 68, 101, 99]⟩ : ByteArray).extract ((ji20) : Int).toNat ((wrap64 (3 * x9_3)) : Int).toNat)) ++ (⟨#[32]⟩ : ByteArray)) ++ t125) ++ t126) ++ (⟨#[32]⟩ : ByteArray)) ++ t127) ++ (⟨#[58]⟩ : ByteArray)) ++ t128) ++ (⟨#[58]⟩ : ByteArray)) ++ t129) ++ (⟨#[32, 71, 77, 84]⟩ : ByteArray), 0)) else (none)) else (none))) else (none)) else (none))) else (none)) else (none))) else (none)) else (none))) else (none))) else (none)) else (none)) else (none)) else (none)) else (none)) = some (r1, r2) := by first | (rw [hji20] at H; exact H) | (simp only [hji20] at H ⊢; exact H)
                                (try rw [hji20] at A12)
                                (try rw [hji20] at A17)
                                have hji20w : (IntKind.i64.wrap ((wrap64 (3 * x9_3)) - 3)) = ji20 := (i64_w _).trans hji20
                                by_cases c21 : 0 ≤ (ji20)
                                · rw [if_pos c21] at H
                                  have c21b0 := eq_true c21
                                  have c21b1 : decide (0 ≤ (ji20)) = true := decide_eq_true c21
                                  clear c21
                                  by_cases c22 : (ji20) ≤ (wrap64 (3 * x9_3))
                                  · rw [if_pos c22] at H
                                    have c22b0 := eq_true c22
                                    have c22b1 : decide ((ji20) ≤ (wrap64 (3 * x9_3))) = true := decide_eq_true c22
                                    clear c22
                                    by_cases c23 : (wrap64 (3 * x9_3)) ≤ 36
                                    · rw [if_pos c23] at H
                                      have c23b0 := eq_true c23
                                      have c23b1 : decide ((wrap64 (3 * x9_3)) ≤ 36) = true := decide_eq_true c23
                                      clear c23
                                      obtain ⟨xe24, hxe24⟩ : ∃ x_ : ByteArray, ((⟨#[74, 97, 110, 70, 101, 98, 77, 97, 114, 65, 112, 114, 77, 97, 121, 74, 117, 110, 74, 117, 108, 65, 117, 103, 83, 101, 112, 79, 99, 116, 78, 111, 118, 68, 101, 99]⟩ : ByteArray).extract ((ji20) : Int).toNat ((wrap64 (3 * x9_3)) : Int).toNat) = x_ := ⟨_, rfl⟩
                                      replace H : (if ((((xe15) ++ (⟨#[44, 32]⟩ : ByteArray)) ++ t124) ++ (⟨#[32]⟩ : ByteArray)).size + (xe24).size ≤ 9223372036854775807 then (if (((((xe15) ++ (⟨#[44, 32]⟩ : ByteArray)) ++ t124) ++ (⟨#[32]⟩ : ByteArray)) ++ (xe24)).size + 1 ≤ 9223372036854775807 then ((ostlerref02_two.f (wrap64 (Int.tdiv x8_2 100))).bind fun t125 => (if ((((((xe15) ++ (⟨#[44, 32]⟩ : ByteArray)) ++ t124) ++ (⟨#[32]⟩ : ByteArray)) ++ (xe24)) ++ (⟨#[32]⟩ : ByteArray)).size + t125.size ≤ 9223372036854775807 then ((ostlerref02_two.f (Int.tmod x8_2 100)).bind fun t126 => (if (((((((xe15) ++ (⟨#[44, 32]⟩ : ByteArray)) ++ t124) ++ (⟨#[32]⟩ : ByteArray)) ++ (xe24)) ++ (⟨#[32]⟩ : ByteArray)) ++ t125).size + t126.size ≤ 9223372036854775807 then (if ((((((((xe15) ++ (⟨#[44, 32]⟩ : ByteArray)) ++ t124) ++ (⟨#[32]⟩ : ByteArray)) ++ (xe24)) ++ (⟨#[32]⟩ : ByteArray)) ++ t125) ++ t126).size + 1 ≤ 9223372036854775807 then ((ostlerref02_two.f (wrap64 (Int.tdiv (Int.tmod a0 86400) 3600))).bind fun t127 => (if (((((((((xe15) ++ (⟨#[44, 32]⟩ : ByteArray)) ++ t124) ++ (⟨#[32]⟩ : ByteArray)) ++ (xe24)) ++ (⟨#[32]⟩ : ByteArray)) ++ t125) ++ t126) ++ (⟨#[32]⟩ : ByteArray)).size + t127.size ≤ 9223372036854775807 then (if ((((((((((xe15) ++ (⟨#[44, 32]⟩ : ByteArray)) ++ t124) ++ (⟨#[32]⟩ : ByteArray)) ++ (xe24)) ++ (⟨#[32]⟩ : ByteArray)) ++ t125) ++ t126) ++ (⟨#[32]⟩ : ByteArray)) ++ t127).size + 1 ≤ 9223372036854775807 then ((ostlerref02_two.f (Int.tmod (wrap64 (Int.tdiv (Int.tmod a0 86400) 60)) 60)).bind fun t128 => (if (((((((((((xe15) ++ (⟨#[44, 32]⟩ : ByteArray)) ++ t124) ++ (⟨#[32]⟩ : ByteArray)) ++ (xe24)) ++ (⟨#[32]⟩ : ByteArray)) ++ t125) ++ t126) ++ (⟨#[32]⟩ : ByteArray)) ++ t127) ++ (⟨#[58]⟩ : ByteArray)).size + t128.size ≤ 9223372036854775807 then (if ((((((((((((xe15) ++ (⟨#[44, 32]⟩ : ByteArray)) ++ t124) ++ (⟨#[32]⟩ : ByteArray)) ++ (xe24)) ++ (⟨#[32]⟩ : ByteArray)) ++ t125) ++ t126) ++ (⟨#[32]⟩ : ByteArray)) ++ t127) ++ (⟨#[58]⟩ : ByteArray)) ++ t128).size + 1 ≤ 9223372036854775807 then ((ostlerref02_two.f (Int.tmod (Int.tmod a0 86400) 60)).bind fun t129 => (if (((((((((((((xe15) ++ (⟨#[44, 32]⟩ : ByteArray)) ++ t124) ++ (⟨#[32]⟩ : ByteArray)) ++ (xe24)) ++ (⟨#[32]⟩ : ByteArray)) ++ t125) ++ t126) ++ (⟨#[32]⟩ : ByteArray)) ++ t127) ++ (⟨#[58]⟩ : ByteArray)) ++ t128) ++ (⟨#[58]⟩ : ByteArray)).size + t129.size ≤ 9223372036854775807 then (if ((((((((((((((xe15) ++ (⟨#[44, 32]⟩ : ByteArray)) ++ t124) ++ (⟨#[32]⟩ : ByteArray)) ++ (xe24)) ++ (⟨#[32]⟩ : ByteArray)) ++ t125) ++ t126) ++ (⟨#[32]⟩ : ByteArray)) ++ t127) ++ (⟨#[58]⟩ : ByteArray)) ++ t128) ++ (⟨#[58]⟩ : ByteArray)) ++ t129).size + 4 ≤ 9223372036854775807 then (some (((((((((((((((xe15) ++ (⟨#[44, 32]⟩ : ByteArray)) ++ t124) ++ (⟨#[32]⟩ : ByteArray)) ++ (xe24)) ++ (⟨#[32]⟩ : ByteArray)) ++ t125) ++ t126) ++ (⟨#[32]⟩ : ByteArray)) ++ t127) ++ (⟨#[58]⟩ : ByteArray)) ++ t128) ++ (⟨#[58]⟩ : ByteArray)) ++ t129) ++ (⟨#[32, 71, 77, 84]⟩ : ByteArray), 0)) else (none)) else (none))) else (none)) else (none))) else (none)) else (none))) else (none)) else (none))) else (none))) else (none)) else (none)) = some (r1, r2) := by first | (rw [hxe24] at H; exact H) | (simp only [hxe24] at H ⊢; exact H)
                                      (try (have hxe24n := hxe24; simp only [ByteArray.size, List.size_toArray, List.length_cons, List.length_nil, Nat.zero_add, Nat.reduceAdd] at hxe24n))
                                      (try rw [hxe24] at A12)
                                      (try rw [hxe24] at A17)
                                      by_cases c25 : ((((xe15) ++ (⟨#[44, 32]⟩ : ByteArray)) ++ t124) ++ (⟨#[32]⟩ : ByteArray)).size + (xe24).size ≤ 9223372036854775807
                                      · rw [if_pos c25] at H
                                        have c25b0 := eq_true c25
                                        have c25b1 : decide (((((xe15) ++ (⟨#[44, 32]⟩ : ByteArray)) ++ t124) ++ (⟨#[32]⟩ : ByteArray)).size + (xe24).size ≤ 9223372036854775807) = true := decide_eq_true c25
                                        try have c25b2 : (9223372036854775807 < ((((xe15) ++ (⟨#[44, 32]⟩ : ByteArray)) ++ t124) ++ (⟨#[32]⟩ : ByteArray)).size + (xe24).size) = False := eq_false (Nat.not_lt.2 c25)
                                        try (have c25n := c25; simp only [ByteArray.size_append, ByteArray.size_extract] at c25n; simp only [ByteArray.size, List.size_toArray, List.length_cons, List.length_nil, Nat.min_self, Nat.zero_add, Nat.sub_zero, Nat.reduceAdd] at c25n; try simp only [ByteArray.size_data] at c25n; have c25m := eq_true c25n)
                                        try (have c25b5 : ¬ (9223372036854775807 < ((((xe15) ++ (⟨#[44, 32]⟩ : ByteArray)) ++ t124) ++ (⟨#[32]⟩ : ByteArray)).size + (xe24).size) := Nat.not_lt.2 c25; simp only [ByteArray.size_append, ByteArray.size_extract] at c25b5; simp only [ByteArray.size, List.size_toArray, List.length_cons, List.length_nil, Nat.min_self, Nat.zero_add, Nat.sub_zero, Nat.reduceAdd] at c25b5; try simp only [ByteArray.size_data] at c25b5; have c25b6 := eq_false c25b5)
                                        by_cases c26 : (((((xe15) ++ (⟨#[44, 32]⟩ : ByteArray)) ++ t124) ++ (⟨#[32]⟩ : ByteArray)) ++ (xe24)).size + 1 ≤ 9223372036854775807
                                        · rw [if_pos c26] at H
                                          have c26b0 := eq_true c26
                                          have c26b1 : decide ((((((xe15) ++ (⟨#[44, 32]⟩ : ByteArray)) ++ t124) ++ (⟨#[32]⟩ : ByteArray)) ++ (xe24)).size + 1 ≤ 9223372036854775807) = true := decide_eq_true c26
                                          try have c26b2 : (9223372036854775807 < (((((xe15) ++ (⟨#[44, 32]⟩ : ByteArray)) ++ t124) ++ (⟨#[32]⟩ : ByteArray)) ++ (xe24)).size + 1) = False := eq_false (Nat.not_lt.2 c26)
                                          try (have c26n := c26; simp only [ByteArray.size_append, ByteArray.size_extract] at c26n; simp only [ByteArray.size, List.size_toArray, List.length_cons, List.length_nil, Nat.min_self, Nat.zero_add, Nat.sub_zero, Nat.reduceAdd] at c26n; try simp only [ByteArray.size_data] at c26n; have c26m := eq_true c26n)
                                          try (have c26b5 : ¬ (9223372036854775807 < (((((xe15) ++ (⟨#[44, 32]⟩ : ByteArray)) ++ t124) ++ (⟨#[32]⟩ : ByteArray)) ++ (xe24)).size + 1) := Nat.not_lt.2 c26; simp only [ByteArray.size_append, ByteArray.size_extract] at c26b5; simp only [ByteArray.size, List.size_toArray, List.length_cons, List.length_nil, Nat.min_self, Nat.zero_add, Nat.sub_zero, Nat.reduceAdd] at c26b5; try simp only [ByteArray.size_data] at c26b5; have c26b6 := eq_false c26b5)
                                          replace H := Option.bind_eq_some_iff.mp H
                                          obtain ⟨t125, A270, H⟩ := H
                                          replace H : (if ((((((xe15) ++ (⟨#[44, 32]⟩ : ByteArray)) ++ t124) ++ (⟨#[32]⟩ : ByteArray)) ++ (xe24)) ++ (⟨#[32]⟩ : ByteArray)).size + t125.size ≤ 9223372036854775807 then ((ostlerref02_two.f (Int.tmod x8_2 100)).bind fun t126 => (if (((((((xe15) ++ (⟨#[44, 32]⟩ : ByteArray)) ++ t124) ++ (⟨#[32]⟩ : ByteArray)) ++ (xe24)) ++ (⟨#[32]⟩ : ByteArray)) ++ t125).size + t126.size ≤ 9223372036854775807 then (if ((((((((xe15) ++ (⟨#[44, 32]⟩ : ByteArray)) ++ t124) ++ (⟨#[32]⟩ : ByteArray)) ++ (xe24)) ++ (⟨#[32]⟩ : ByteArray)) ++ t125) ++ t126).size + 1 ≤ 9223372036854775807 then ((ostlerref02_two.f (wrap64 (Int.tdiv (Int.tmod a0 86400) 3600))).bind fun t127 => (if (((((((((xe15) ++ (⟨#[44, 32]⟩ : ByteArray)) ++ t124) ++ (⟨#[32]⟩ : ByteArray)) ++ (xe24)) ++ (⟨#[32]⟩ : ByteArray)) ++ t125) ++ t126) ++ (⟨#[32]⟩ : ByteArray)).size + t127.size ≤ 9223372036854775807 then (if ((((((((((xe15) ++ (⟨#[44, 32]⟩ : ByteArray)) ++ t124) ++ (⟨#[32]⟩ : ByteArray)) ++ (xe24)) ++ (⟨#[32]⟩ : ByteArray)) ++ t125) ++ t126) ++ (⟨#[32]⟩ : ByteArray)) ++ t127).size + 1 ≤ 9223372036854775807 then ((ostlerref02_two.f (Int.tmod (wrap64 (Int.tdiv (Int.tmod a0 86400) 60)) 60)).bind fun t128 => (if (((((((((((xe15) ++ (⟨#[44, 32]⟩ : ByteArray)) ++ t124) ++ (⟨#[32]⟩ : ByteArray)) ++ (xe24)) ++ (⟨#[32]⟩ : ByteArray)) ++ t125) ++ t126) ++ (⟨#[32]⟩ : ByteArray)) ++ t127) ++ (⟨#[58]⟩ : ByteArray)).size + t128.size ≤ 9223372036854775807 then (if ((((((((((((xe15) ++ (⟨#[44, 32]⟩ : ByteArray)) ++ t124) ++ (⟨#[32]⟩ : ByteArray)) ++ (xe24)) ++ (⟨#[32]⟩ : ByteArray)) ++ t125) ++ t126) ++ (⟨#[32]⟩ : ByteArray)) ++ t127) ++ (⟨#[58]⟩ : ByteArray)) ++ t128).size + 1 ≤ 9223372036854775807 then ((ostlerref02_two.f (Int.tmod (Int.tmod a0 86400) 60)).bind fun t129 => (if (((((((((((((xe15) ++ (⟨#[44, 32]⟩ : ByteArray)) ++ t124) ++ (⟨#[32]⟩ : ByteArray)) ++ (xe24)) ++ (⟨#[32]⟩ : ByteArray)) ++ t125) ++ t126) ++ (⟨#[32]⟩ : ByteArray)) ++ t127) ++ (⟨#[58]⟩ : ByteArray)) ++ t128) ++ (⟨#[58]⟩ : ByteArray)).size + t129.size ≤ 9223372036854775807 then (if ((((((((((((((xe15) ++ (⟨#[44, 32]⟩ : ByteArray)) ++ t124) ++ (⟨#[32]⟩ : ByteArray)) ++ (xe24)) ++ (⟨#[32]⟩ : ByteArray)) ++ t125) ++ t126) ++ (⟨#[32]⟩ : ByteArray)) ++ t127) ++ (⟨#[58]⟩ : ByteArray)) ++ t128) ++ (⟨#[58]⟩ : ByteArray)) ++ t129).size + 4 ≤ 9223372036854775807 then (some (((((((((((((((xe15) ++ (⟨#[44, 32]⟩ : ByteArray)) ++ t124) ++ (⟨#[32]⟩ : ByteArray)) ++ (xe24)) ++ (⟨#[32]⟩ : ByteArray)) ++ t125) ++ t126) ++ (⟨#[32]⟩ : ByteArray)) ++ t127) ++ (⟨#[58]⟩ : ByteArray)) ++ t128) ++ (⟨#[58]⟩ : ByteArray)) ++ t129) ++ (⟨#[32, 71, 77, 84]⟩ : ByteArray), 0)) else (none)) else (none))) else (none)) else (none))) else (none)) else (none))) else (none)) else (none))) else (none)) = some (r1, r2) := H
                                          have A27 := Aside0.mk A270
                                          clear A270
                                          by_cases c28 : ((((((xe15) ++ (⟨#[44, 32]⟩ : ByteArray)) ++ t124) ++ (⟨#[32]⟩ : ByteArray)) ++ (xe24)) ++ (⟨#[32]⟩ : ByteArray)).size + t125.size ≤ 9223372036854775807
                                          · rw [if_pos c28] at H
                                            have c28b0 := eq_true c28
                                            have c28b1 : decide (((((((xe15) ++ (⟨#[44, 32]⟩ : ByteArray)) ++ t124) ++ (⟨#[32]⟩ : ByteArray)) ++ (xe24)) ++ (⟨#[32]⟩ : ByteArray)).size + t125.size ≤ 9223372036854775807) = true := decide_eq_true c28
                                            try have c28b2 : (9223372036854775807 < ((((((xe15) ++ (⟨#[44, 32]⟩ : ByteArray)) ++ t124) ++ (⟨#[32]⟩ : ByteArray)) ++ (xe24)) ++ (⟨#[32]⟩ : ByteArray)).size + t125.size) = False := eq_false (Nat.not_lt.2 c28)
                                            try (have c28n := c28; simp only [ByteArray.size_append, ByteArray.size_extract] at c28n; simp only [ByteArray.size, List.size_toArray, List.length_cons, List.length_nil, Nat.min_self, Nat.zero_add, Nat.sub_zero, Nat.reduceAdd] at c28n; try simp only [ByteArray.size_data] at c28n; have c28m := eq_true c28n)
                                            try (have c28b5 : ¬ (9223372036854775807 < ((((((xe15) ++ (⟨#[44, 32]⟩ : ByteArray)) ++ t124) ++ (⟨#[32]⟩ : ByteArray)) ++ (xe24)) ++ (⟨#[32]⟩ : ByteArray)).size + t125.size) := Nat.not_lt.2 c28; simp only [ByteArray.size_append, ByteArray.size_extract] at c28b5; simp only [ByteArray.size, List.size_toArray, List.length_cons, List.length_nil, Nat.min_self, Nat.zero_add, Nat.sub_zero, Nat.reduceAdd] at c28b5; try simp only [ByteArray.size_data] at c28b5; have c28b6 := eq_false c28b5)
                                            replace H := Option.bind_eq_some_iff.mp H
                                            obtain ⟨t126, A290, H⟩ := H
                                            replace H : (if (((((((xe15) ++ (⟨#[44, 32]⟩ : ByteArray)) ++ t124) ++ (⟨#[32]⟩ : ByteArray)) ++ (xe24)) ++ (⟨#[32]⟩ : ByteArray)) ++ t125).size + t126.size ≤ 9223372036854775807 then (if ((((((((xe15) ++ (⟨#[44, 32]⟩ : ByteArray)) ++ t124) ++ (⟨#[32]⟩ : ByteArray)) ++ (xe24)) ++ (⟨#[32]⟩ : ByteArray)) ++ t125) ++ t126).size + 1 ≤ 9223372036854775807 then ((ostlerref02_two.f (wrap64 (Int.tdiv (Int.tmod a0 86400) 3600))).bind fun t127 => (if (((((((((xe15) ++ (⟨#[44, 32]⟩ : ByteArray)) ++ t124) ++ (⟨#[32]⟩ : ByteArray)) ++ (xe24)) ++ (⟨#[32]⟩ : ByteArray)) ++ t125) ++ t126) ++ (⟨#[32]⟩ : ByteArray)).size + t127.size ≤ 9223372036854775807 then (if ((((((((((xe15) ++ (⟨#[44, 32]⟩ : ByteArray)) ++ t124) ++ (⟨#[32]⟩ : ByteArray)) ++ (xe24)) ++ (⟨#[32]⟩ : ByteArray)) ++ t125) ++ t126) ++ (⟨#[32]⟩ : ByteArray)) ++ t127).size + 1 ≤ 9223372036854775807 then ((ostlerref02_two.f (Int.tmod (wrap64 (Int.tdiv (Int.tmod a0 86400) 60)) 60)).bind fun t128 => (if (((((((((((xe15) ++ (⟨#[44, 32]⟩ : ByteArray)) ++ t124) ++ (⟨#[32]⟩ : ByteArray)) ++ (xe24)) ++ (⟨#[32]⟩ : ByteArray)) ++ t125) ++ t126) ++ (⟨#[32]⟩ : ByteArray)) ++ t127) ++ (⟨#[58]⟩ : ByteArray)).size + t128.size ≤ 9223372036854775807 then (if ((((((((((((xe15) ++ (⟨#[44, 32]⟩ : ByteArray)) ++ t124) ++ (⟨#[32]⟩ : ByteArray)) ++ (xe24)) ++ (⟨#[32]⟩ : ByteArray)) ++ t125) ++ t126) ++ (⟨#[32]⟩ : ByteArray)) ++ t127) ++ (⟨#[58]⟩ : ByteArray)) ++ t128).size + 1 ≤ 9223372036854775807 then ((ostlerref02_two.f (Int.tmod (Int.tmod a0 86400) 60)).bind fun t129 => (if (((((((((((((xe15) ++ (⟨#[44, 32]⟩ : ByteArray)) ++ t124) ++ (⟨#[32]⟩ : ByteArray)) ++ (xe24)) ++ (⟨#[32]⟩ : ByteArray)) ++ t125) ++ t126) ++ (⟨#[32]⟩ : ByteArray)) ++ t127) ++ (⟨#[58]⟩ : ByteArray)) ++ t128) ++ (⟨#[58]⟩ : ByteArray)).size + t129.size ≤ 9223372036854775807 then (if ((((((((((((((xe15) ++ (⟨#[44, 32]⟩ : ByteArray)) ++ t124) ++ (⟨#[32]⟩ : ByteArray)) ++ (xe24)) ++ (⟨#[32]⟩ : ByteArray)) ++ t125) ++ t126) ++ (⟨#[32]⟩ : ByteArray)) ++ t127) ++ (⟨#[58]⟩ : ByteArray)) ++ t128) ++ (⟨#[58]⟩ : ByteArray)) ++ t129).size + 4 ≤ 9223372036854775807 then (some (((((((((((((((xe15) ++ (⟨#[44, 32]⟩ : ByteArray)) ++ t124) ++ (⟨#[32]⟩ : ByteArray)) ++ (xe24)) ++ (⟨#[32]⟩ : ByteArray)) ++ t125) ++ t126) ++ (⟨#[32]⟩ : ByteArray)) ++ t127) ++ (⟨#[58]⟩ : ByteArray)) ++ t128) ++ (⟨#[58]⟩ : ByteArray)) ++ t129) ++ (⟨#[32, 71, 77, 84]⟩ : ByteArray), 0)) else (none)) else (none))) else (none)) else (none))) else (none)) else (none))) else (none)) else (none)) = some (r1, r2) := H
                                            have A29 := Aside0.mk A290
                                            clear A290
                                            by_cases c30 : (((((((xe15) ++ (⟨#[44, 32]⟩ : ByteArray)) ++ t124) ++ (⟨#[32]⟩ : ByteArray)) ++ (xe24)) ++ (⟨#[32]⟩ : ByteArray)) ++ t125).size + t126.size ≤ 9223372036854775807
                                            · rw [if_pos c30] at H
                                              have c30b0 := eq_true c30
                                              have c30b1 : decide ((((((((xe15) ++ (⟨#[44, 32]⟩ : ByteArray)) ++ t124) ++ (⟨#[32]⟩ : ByteArray)) ++ (xe24)) ++ (⟨#[32]⟩ : ByteArray)) ++ t125).size + t126.size ≤ 9223372036854775807) = true := decide_eq_true c30
                                              try have c30b2 : (9223372036854775807 < (((((((xe15) ++ (⟨#[44, 32]⟩ : ByteArray)) ++ t124) ++ (⟨#[32]⟩ : ByteArray)) ++ (xe24)) ++ (⟨#[32]⟩ : ByteArray)) ++ t125).size + t126.size) = False := eq_false (Nat.not_lt.2 c30)
                                              try (have c30n := c30; simp only [ByteArray.size_append, ByteArray.size_extract] at c30n; simp only [ByteArray.size, List.size_toArray, List.length_cons, List.length_nil, Nat.min_self, Nat.zero_add, Nat.sub_zero, Nat.reduceAdd] at c30n; try simp only [ByteArray.size_data] at c30n; have c30m := eq_true c30n)
                                              try (have c30b5 : ¬ (9223372036854775807 < (((((((xe15) ++ (⟨#[44, 32]⟩ : ByteArray)) ++ t124) ++ (⟨#[32]⟩ : ByteArray)) ++ (xe24)) ++ (⟨#[32]⟩ : ByteArray)) ++ t125).size + t126.size) := Nat.not_lt.2 c30; simp only [ByteArray.size_append, ByteArray.size_extract] at c30b5; simp only [ByteArray.size, List.size_toArray, List.length_cons, List.length_nil, Nat.min_self, Nat.zero_add, Nat.sub_zero, Nat.reduceAdd] at c30b5; try simp only [ByteArray.size_data] at c30b5; have c30b6 := eq_false c30b5)
                                              by_cases c31 : ((((((((xe15) ++ (⟨#[44, 32]⟩ : ByteArray)) ++ t124) ++ (⟨#[32]⟩ : ByteArray)) ++ (xe24)) ++ (⟨#[32]⟩ : ByteArray)) ++ t125) ++ t126).size + 1 ≤ 9223372036854775807
                                              · rw [if_pos c31] at H
                                                have c31b0 := eq_true c31
                                                have c31b1 : decide (((((((((xe15) ++ (⟨#[44, 32]⟩ : ByteArray)) ++ t124) ++ (⟨#[32]⟩ : ByteArray)) ++ (xe24)) ++ (⟨#[32]⟩ : ByteArray)) ++ t125) ++ t126).size + 1 ≤ 9223372036854775807) = true := decide_eq_true c31
                                                try have c31b2 : (9223372036854775807 < ((((((((xe15) ++ (⟨#[44, 32]⟩ : ByteArray)) ++ t124) ++ (⟨#[32]⟩ : ByteArray)) ++ (xe24)) ++ (⟨#[32]⟩ : ByteArray)) ++ t125) ++ t126).size + 1) = False := eq_false (Nat.not_lt.2 c31)
                                                try (have c31n := c31; simp only [ByteArray.size_append, ByteArray.size_extract] at c31n; simp only [ByteArray.size, List.size_toArray, List.length_cons, List.length_nil, Nat.min_self, Nat.zero_add, Nat.sub_zero, Nat.reduceAdd] at c31n; try simp only [ByteArray.size_data] at c31n; have c31m := eq_true c31n)
                                                try (have c31b5 : ¬ (9223372036854775807 < ((((((((xe15) ++ (⟨#[44, 32]⟩ : ByteArray)) ++ t124) ++ (⟨#[32]⟩ : ByteArray)) ++ (xe24)) ++ (⟨#[32]⟩ : ByteArray)) ++ t125) ++ t126).size + 1) := Nat.not_lt.2 c31; simp only [ByteArray.size_append, ByteArray.size_extract] at c31b5; simp only [ByteArray.size, List.size_toArray, List.length_cons, List.length_nil, Nat.min_self, Nat.zero_add, Nat.sub_zero, Nat.reduceAdd] at c31b5; try simp only [ByteArray.size_data] at c31b5; have c31b6 := eq_false c31b5)
                                                replace H := Option.bind_eq_some_iff.mp H
                                                obtain ⟨t127, A320, H⟩ := H
                                                replace H : (if (((((((((xe15) ++ (⟨#[44, 32]⟩ : ByteArray)) ++ t124) ++ (⟨#[32]⟩ : ByteArray)) ++ (xe24)) ++ (⟨#[32]⟩ : ByteArray)) ++ t125) ++ t126) ++ (⟨#[32]⟩ : ByteArray)).size + t127.size ≤ 9223372036854775807 then (if ((((((((((xe15) ++ (⟨#[44, 32]⟩ : ByteArray)) ++ t124) ++ (⟨#[32]⟩ : ByteArray)) ++ (xe24)) ++ (⟨#[32]⟩ : ByteArray)) ++ t125) ++ t126) ++ (⟨#[32]⟩ : ByteArray)) ++ t127).size + 1 ≤ 9223372036854775807 then ((ostlerref02_two.f (Int.tmod (wrap64 (Int.tdiv (Int.tmod a0 86400) 60)) 60)).bind fun t128 => (if (((((((((((xe15) ++ (⟨#[44, 32]⟩ : ByteArray)) ++ t124) ++ (⟨#[32]⟩ : ByteArray)) ++ (xe24)) ++ (⟨#[32]⟩ : ByteArray)) ++ t125) ++ t126) ++ (⟨#[32]⟩ : ByteArray)) ++ t127) ++ (⟨#[58]⟩ : ByteArray)).size + t128.size ≤ 9223372036854775807 then (if ((((((((((((xe15) ++ (⟨#[44, 32]⟩ : ByteArray)) ++ t124) ++ (⟨#[32]⟩ : ByteArray)) ++ (xe24)) ++ (⟨#[32]⟩ : ByteArray)) ++ t125) ++ t126) ++ (⟨#[32]⟩ : ByteArray)) ++ t127) ++ (⟨#[58]⟩ : ByteArray)) ++ t128).size + 1 ≤ 9223372036854775807 then ((ostlerref02_two.f (Int.tmod (Int.tmod a0 86400) 60)).bind fun t129 => (if (((((((((((((xe15) ++ (⟨#[44, 32]⟩ : ByteArray)) ++ t124) ++ (⟨#[32]⟩ : ByteArray)) ++ (xe24)) ++ (⟨#[32]⟩ : ByteArray)) ++ t125) ++ t126) ++ (⟨#[32]⟩ : ByteArray)) ++ t127) ++ (⟨#[58]⟩ : ByteArray)) ++ t128) ++ (⟨#[58]⟩ : ByteArray)).size + t129.size ≤ 9223372036854775807 then (if ((((((((((((((xe15) ++ (⟨#[44, 32]⟩ : ByteArray)) ++ t124) ++ (⟨#[32]⟩ : ByteArray)) ++ (xe24)) ++ (⟨#[32]⟩ : ByteArray)) ++ t125) ++ t126) ++ (⟨#[32]⟩ : ByteArray)) ++ t127) ++ (⟨#[58]⟩ : ByteArray)) ++ t128) ++ (⟨#[58]⟩ : ByteArray)) ++ t129).size + 4 ≤ 9223372036854775807 then (some (((((((((((((((xe15) ++ (⟨#[44, 32]⟩ : ByteArray)) ++ t124) ++ (⟨#[32]⟩ : ByteArray)) ++ (xe24)) ++ (⟨#[32]⟩ : ByteArray)) ++ t125) ++ t126) ++ (⟨#[32]⟩ : ByteArray)) ++ t127) ++ (⟨#[58]⟩ : ByteArray)) ++ t128) ++ (⟨#[58]⟩ : ByteArray)) ++ t129) ++ (⟨#[32, 71, 77, 84]⟩ : ByteArray), 0)) else (none)) else (none))) else (none)) else (none))) else (none)) else (none)) = some (r1, r2) := H
                                                have A32 := Aside0.mk A320
                                                clear A320
                                                by_cases c33 : (((((((((xe15) ++ (⟨#[44, 32]⟩ : ByteArray)) ++ t124) ++ (⟨#[32]⟩ : ByteArray)) ++ (xe24)) ++ (⟨#[32]⟩ : ByteArray)) ++ t125) ++ t126) ++ (⟨#[32]⟩ : ByteArray)).size + t127.size ≤ 9223372036854775807
                                                · rw [if_pos c33] at H
                                                  have c33b0 := eq_true c33
                                                  have c33b1 : decide ((((((((((xe15) ++ (⟨#[44, 32]⟩ : ByteArray)) ++ t124) ++ (⟨#[32]⟩ : ByteArray)) ++ (xe24)) ++ (⟨#[32]⟩ : ByteArray)) ++ t125) ++ t126) ++ (⟨#[32]⟩ : ByteArray)).size + t127.size ≤ 9223372036854775807) = true := decide_eq_true c33
                                                  try have c33b2 : (9223372036854775807 < (((((((((xe15) ++ (⟨#[44, 32]⟩ : ByteArray)) ++ t124) ++ (⟨#[32]⟩ : ByteArray)) ++ (xe24)) ++ (⟨#[32]⟩ : ByteArray)) ++ t125) ++ t126) ++ (⟨#[32]⟩ : ByteArray)).size + t127.size) = False := eq_false (Nat.not_lt.2 c33)
                                                  try (have c33n := c33; simp only [ByteArray.size_append, ByteArray.size_extract] at c33n; simp only [ByteArray.size, List.size_toArray, List.length_cons, List.length_nil, Nat.min_self, Nat.zero_add, Nat.sub_zero, Nat.reduceAdd] at c33n; try simp only [ByteArray.size_data] at c33n; have c33m := eq_true c33n)
                                                  try (have c33b5 : ¬ (9223372036854775807 < (((((((((xe15) ++ (⟨#[44, 32]⟩ : ByteArray)) ++ t124) ++ (⟨#[32]⟩ : ByteArray)) ++ (xe24)) ++ (⟨#[32]⟩ : ByteArray)) ++ t125) ++ t126) ++ (⟨#[32]⟩ : ByteArray)).size + t127.size) := Nat.not_lt.2 c33; simp only [ByteArray.size_append, ByteArray.size_extract] at c33b5; simp only [ByteArray.size, List.size_toArray, List.length_cons, List.length_nil, Nat.min_self, Nat.zero_add, Nat.sub_zero, Nat.reduceAdd] at c33b5; try simp only [ByteArray.size_data] at c33b5; have c33b6 := eq_false c33b5)
                                                  by_cases c34 : ((((((((((xe15) ++ (⟨#[44, 32]⟩ : ByteArray)) ++ t124) ++ (⟨#[32]⟩ : ByteArray)) ++ (xe24)) ++ (⟨#[32]⟩ : ByteArray)) ++ t125) ++ t126) ++ (⟨#[32]⟩ : ByteArray)) ++ t127).size + 1 ≤ 9223372036854775807
                                                  · rw [if_pos c34] at H
                                                    have c34b0 := eq_true c34
                                                    have c34b1 : decide (((((((((((xe15) ++ (⟨#[44, 32]⟩ : ByteArray)) ++ t124) ++ (⟨#[32]⟩ : ByteArray)) ++ (xe24)) ++ (⟨#[32]⟩ : ByteArray)) ++ t125) ++ t126) ++ (⟨#[32]⟩ : ByteArray)) ++ t127).size + 1 ≤ 9223372036854775807) = true := decide_eq_true c34
                                                    try have c34b2 : (9223372036854775807 < ((((((((((xe15) ++ (⟨#[44, 32]⟩ : ByteArray)) ++ t124) ++ (⟨#[32]⟩ : ByteArray)) ++ (xe24)) ++ (⟨#[32]⟩ : ByteArray)) ++ t125) ++ t126) ++ (⟨#[32]⟩ : ByteArray)) ++ t127).size + 1) = False := eq_false (Nat.not_lt.2 c34)
                                                    try (have c34n := c34; simp only [ByteArray.size_append, ByteArray.size_extract] at c34n; simp only [ByteArray.size, List.size_toArray, List.length_cons, List.length_nil, Nat.min_self, Nat.zero_add, Nat.sub_zero, Nat.reduceAdd] at c34n; try simp only [ByteArray.size_data] at c34n; have c34m := eq_true c34n)
                                                    try (have c34b5 : ¬ (9223372036854775807 < ((((((((((xe15) ++ (⟨#[44, 32]⟩ : ByteArray)) ++ t124) ++ (⟨#[32]⟩ : ByteArray)) ++ (xe24)) ++ (⟨#[32]⟩ : ByteArray)) ++ t125) ++ t126) ++ (⟨#[32]⟩ : ByteArray)) ++ t127).size + 1) := Nat.not_lt.2 c34; simp only [ByteArray.size_append, ByteArray.size_extract] at c34b5; simp only [ByteArray.size, List.size_toArray, List.length_cons, List.length_nil, Nat.min_self, Nat.zero_add, Nat.sub_zero, Nat.reduceAdd] at c34b5; try simp only [ByteArray.size_data] at c34b5; have c34b6 := eq_false c34b5)
                                                    replace H := Option.bind_eq_some_iff.mp H
                                                    obtain ⟨t128, A350, H⟩ := H
                                                    replace H : (if (((((((((((xe15) ++ (⟨#[44, 32]⟩ : ByteArray)) ++ t124) ++ (⟨#[32]⟩ : ByteArray)) ++ (xe24)) ++ (⟨#[32]⟩ : ByteArray)) ++ t125) ++ t126) ++ (⟨#[32]⟩ : ByteArray)) ++ t127) ++ (⟨#[58]⟩ : ByteArray)).size + t128.size ≤ 9223372036854775807 then (if ((((((((((((xe15) ++ (⟨#[44, 32]⟩ : ByteArray)) ++ t124) ++ (⟨#[32]⟩ : ByteArray)) ++ (xe24)) ++ (⟨#[32]⟩ : ByteArray)) ++ t125) ++ t126) ++ (⟨#[32]⟩ : ByteArray)) ++ t127) ++ (⟨#[58]⟩ : ByteArray)) ++ t128).size + 1 ≤ 9223372036854775807 then ((ostlerref02_two.f (Int.tmod (Int.tmod a0 86400) 60)).bind fun t129 => (if (((((((((((((xe15) ++ (⟨#[44, 32]⟩ : ByteArray)) ++ t124) ++ (⟨#[32]⟩ : ByteArray)) ++ (xe24)) ++ (⟨#[32]⟩ : ByteArray)) ++ t125) ++ t126) ++ (⟨#[32]⟩ : ByteArray)) ++ t127) ++ (⟨#[58]⟩ : ByteArray)) ++ t128) ++ (⟨#[58]⟩ : ByteArray)).size + t129.size ≤ 9223372036854775807 then (if ((((((((((((((xe15) ++ (⟨#[44, 32]⟩ : ByteArray)) ++ t124) ++ (⟨#[32]⟩ : ByteArray)) ++ (xe24)) ++ (⟨#[32]⟩ : ByteArray)) ++ t125) ++ t126) ++ (⟨#[32]⟩ : ByteArray)) ++ t127) ++ (⟨#[58]⟩ : ByteArray)) ++ t128) ++ (⟨#[58]⟩ : ByteArray)) ++ t129).size + 4 ≤ 9223372036854775807 then (some (((((((((((((((xe15) ++ (⟨#[44, 32]⟩ : ByteArray)) ++ t124) ++ (⟨#[32]⟩ : ByteArray)) ++ (xe24)) ++ (⟨#[32]⟩ : ByteArray)) ++ t125) ++ t126) ++ (⟨#[32]⟩ : ByteArray)) ++ t127) ++ (⟨#[58]⟩ : ByteArray)) ++ t128) ++ (⟨#[58]⟩ : ByteArray)) ++ t129) ++ (⟨#[32, 71, 77, 84]⟩ : ByteArray), 0)) else (none)) else (none))) else (none)) else (none)) = some (r1, r2) := H
                                                    have A35 := Aside0.mk A350
                                                    clear A350
                                                    by_cases c36 : (((((((((((xe15) ++ (⟨#[44, 32]⟩ : ByteArray)) ++ t124) ++ (⟨#[32]⟩ : ByteArray)) ++ (xe24)) ++ (⟨#[32]⟩ : ByteArray)) ++ t125) ++ t126) ++ (⟨#[32]⟩ : ByteArray)) ++ t127) ++ (⟨#[58]⟩ : ByteArray)).size + t128.size ≤ 9223372036854775807
                                                    · rw [if_pos c36] at H
                                                      have c36b0 := eq_true c36
                                                      have c36b1 : decide ((((((((((((xe15) ++ (⟨#[44, 32]⟩ : ByteArray)) ++ t124) ++ (⟨#[32]⟩ : ByteArray)) ++ (xe24)) ++ (⟨#[32]⟩ : ByteArray)) ++ t125) ++ t126) ++ (⟨#[32]⟩ : ByteArray)) ++ t127) ++ (⟨#[58]⟩ : ByteArray)).size + t128.size ≤ 9223372036854775807) = true := decide_eq_true c36
                                                      try have c36b2 : (9223372036854775807 < (((((((((((xe15) ++ (⟨#[44, 32]⟩ : ByteArray)) ++ t124) ++ (⟨#[32]⟩ : ByteArray)) ++ (xe24)) ++ (⟨#[32]⟩ : ByteArray)) ++ t125) ++ t126) ++ (⟨#[32]⟩ : ByteArray)) ++ t127) ++ (⟨#[58]⟩ : ByteArray)).size + t128.size) = False := eq_false (Nat.not_lt.2 c36)
                                                      try (have c36n := c36; simp only [ByteArray.size_append, ByteArray.size_extract] at c36n; simp only [ByteArray.size, List.size_toArray, List.length_cons, List.length_nil, Nat.min_self, Nat.zero_add, Nat.sub_zero, Nat.reduceAdd] at c36n; try simp only [ByteArray.size_data] at c36n; have c36m := eq_true c36n)
                                                      try (have c36b5 : ¬ (9223372036854775807 < (((((((((((xe15) ++ (⟨#[44, 32]⟩ : ByteArray)) ++ t124) ++ (⟨#[32]⟩ : ByteArray)) ++ (xe24)) ++ (⟨#[32]⟩ : ByteArray)) ++ t125) ++ t126) ++ (⟨#[32]⟩ : ByteArray)) ++ t127) ++ (⟨#[58]⟩ : ByteArray)).size + t128.size) := Nat.not_lt.2 c36; simp only [ByteArray.size_append, ByteArray.size_extract] at c36b5; simp only [ByteArray.size, List.size_toArray, List.length_cons, List.length_nil, Nat.min_self, Nat.zero_add, Nat.sub_zero, Nat.reduceAdd] at c36b5; try simp only [ByteArray.size_data] at c36b5; have c36b6 := eq_false c36b5)
                                                      by_cases c37 : ((((((((((((xe15) ++ (⟨#[44, 32]⟩ : ByteArray)) ++ t124) ++ (⟨#[32]⟩ : ByteArray)) ++ (xe24)) ++ (⟨#[32]⟩ : ByteArray)) ++ t125) ++ t126) ++ (⟨#[32]⟩ : ByteArray)) ++ t127) ++ (⟨#[58]⟩ : ByteArray)) ++ t128).size + 1 ≤ 9223372036854775807
                                                      · rw [if_pos c37] at H
                                                        have c37b0 := eq_true c37
                                                        have c37b1 : decide (((((((((((((xe15) ++ (⟨#[44, 32]⟩ : ByteArray)) ++ t124) ++ (⟨#[32]⟩ : ByteArray)) ++ (xe24)) ++ (⟨#[32]⟩ : ByteArray)) ++ t125) ++ t126) ++ (⟨#[32]⟩ : ByteArray)) ++ t127) ++ (⟨#[58]⟩ : ByteArray)) ++ t128).size + 1 ≤ 9223372036854775807) = true := decide_eq_true c37
                                                        try have c37b2 : (9223372036854775807 < ((((((((((((xe15) ++ (⟨#[44, 32]⟩ : ByteArray)) ++ t124) ++ (⟨#[32]⟩ : ByteArray)) ++ (xe24)) ++ (⟨#[32]⟩ : ByteArray)) ++ t125) ++ t126) ++ (⟨#[32]⟩ : ByteArray)) ++ t127) ++ (⟨#[58]⟩ : ByteArray)) ++ t128).size + 1) = False := eq_false (Nat.not_lt.2 c37)
                                                        try (have c37n := c37; simp only [ByteArray.size_append, ByteArray.size_extract] at c37n; simp only [ByteArray.size, List.size_toArray, List.length_cons, List.length_nil, Nat.min_self, Nat.zero_add, Nat.sub_zero, Nat.reduceAdd] at c37n; try simp only [ByteArray.size_data] at c37n; have c37m := eq_true c37n)
                                                        try (have c37b5 : ¬ (9223372036854775807 < ((((((((((((xe15) ++ (⟨#[44, 32]⟩ : ByteArray)) ++ t124) ++ (⟨#[32]⟩ : ByteArray)) ++ (xe24)) ++ (⟨#[32]⟩ : ByteArray)) ++ t125) ++ t126) ++ (⟨#[32]⟩ : ByteArray)) ++ t127) ++ (⟨#[58]⟩ : ByteArray)) ++ t128).size + 1) := Nat.not_lt.2 c37; simp only [ByteArray.size_append, ByteArray.size_extract] at c37b5; simp only [ByteArray.size, List.size_toArray, List.length_cons, List.length_nil, Nat.min_self, Nat.zero_add, Nat.sub_zero, Nat.reduceAdd] at c37b5; try simp only [ByteArray.size_data] at c37b5; have c37b6 := eq_false c37b5)
                                                        replace H := Option.bind_eq_some_iff.mp H
                                                        obtain ⟨t129, A380, H⟩ := H
                                                        replace H : (if (((((((((((((xe15) ++ (⟨#[44, 32]⟩ : ByteArray)) ++ t124) ++ (⟨#[32]⟩ : ByteArray)) ++ (xe24)) ++ (⟨#[32]⟩ : ByteArray)) ++ t125) ++ t126) ++ (⟨#[32]⟩ : ByteArray)) ++ t127) ++ (⟨#[58]⟩ : ByteArray)) ++ t128) ++ (⟨#[58]⟩ : ByteArray)).size + t129.size ≤ 9223372036854775807 then (if ((((((((((((((xe15) ++ (⟨#[44, 32]⟩ : ByteArray)) ++ t124) ++ (⟨#[32]⟩ : ByteArray)) ++ (xe24)) ++ (⟨#[32]⟩ : ByteArray)) ++ t125) ++ t126) ++ (⟨#[32]⟩ : ByteArray)) ++ t127) ++ (⟨#[58]⟩ : ByteArray)) ++ t128) ++ (⟨#[58]⟩ : ByteArray)) ++ t129).size + 4 ≤ 9223372036854775807 then (some (((((((((((((((xe15) ++ (⟨#[44, 32]⟩ : ByteArray)) ++ t124) ++ (⟨#[32]⟩ : ByteArray)) ++ (xe24)) ++ (⟨#[32]⟩ : ByteArray)) ++ t125) ++ t126) ++ (⟨#[32]⟩ : ByteArray)) ++ t127) ++ (⟨#[58]⟩ : ByteArray)) ++ t128) ++ (⟨#[58]⟩ : ByteArray)) ++ t129) ++ (⟨#[32, 71, 77, 84]⟩ : ByteArray), 0)) else (none)) else (none)) = some (r1, r2) := H
                                                        have A38 := Aside0.mk A380
                                                        clear A380
                                                        try simp only [Int.tmod_tmod_of_dvd _ (show (60 : Int) ∣ 86400 by decide)] at A38
                                                        by_cases c39 : (((((((((((((xe15) ++ (⟨#[44, 32]⟩ : ByteArray)) ++ t124) ++ (⟨#[32]⟩ : ByteArray)) ++ (xe24)) ++ (⟨#[32]⟩ : ByteArray)) ++ t125) ++ t126) ++ (⟨#[32]⟩ : ByteArray)) ++ t127) ++ (⟨#[58]⟩ : ByteArray)) ++ t128) ++ (⟨#[58]⟩ : ByteArray)).size + t129.size ≤ 9223372036854775807
                                                        · rw [if_pos c39] at H
                                                          have c39b0 := eq_true c39
                                                          have c39b1 : decide ((((((((((((((xe15) ++ (⟨#[44, 32]⟩ : ByteArray)) ++ t124) ++ (⟨#[32]⟩ : ByteArray)) ++ (xe24)) ++ (⟨#[32]⟩ : ByteArray)) ++ t125) ++ t126) ++ (⟨#[32]⟩ : ByteArray)) ++ t127) ++ (⟨#[58]⟩ : ByteArray)) ++ t128) ++ (⟨#[58]⟩ : ByteArray)).size + t129.size ≤ 9223372036854775807) = true := decide_eq_true c39
                                                          try have c39b2 : (9223372036854775807 < (((((((((((((xe15) ++ (⟨#[44, 32]⟩ : ByteArray)) ++ t124) ++ (⟨#[32]⟩ : ByteArray)) ++ (xe24)) ++ (⟨#[32]⟩ : ByteArray)) ++ t125) ++ t126) ++ (⟨#[32]⟩ : ByteArray)) ++ t127) ++ (⟨#[58]⟩ : ByteArray)) ++ t128) ++ (⟨#[58]⟩ : ByteArray)).size + t129.size) = False := eq_false (Nat.not_lt.2 c39)
                                                          try (have c39n := c39; simp only [ByteArray.size_append, ByteArray.size_extract] at c39n; simp only [ByteArray.size, List.size_toArray, List.length_cons, List.length_nil, Nat.min_self, Nat.zero_add, Nat.sub_zero, Nat.reduceAdd] at c39n; try simp only [ByteArray.size_data] at c39n; have c39m := eq_true c39n)
                                                          try (have c39b5 : ¬ (9223372036854775807 < (((((((((((((xe15) ++ (⟨#[44, 32]⟩ : ByteArray)) ++ t124) ++ (⟨#[32]⟩ : ByteArray)) ++ (xe24)) ++ (⟨#[32]⟩ : ByteArray)) ++ t125) ++ t126) ++ (⟨#[32]⟩ : ByteArray)) ++ t127) ++ (⟨#[58]⟩ : ByteArray)) ++ t128) ++ (⟨#[58]⟩ : ByteArray)).size + t129.size) := Nat.not_lt.2 c39; simp only [ByteArray.size_append, ByteArray.size_extract] at c39b5; simp only [ByteArray.size, List.size_toArray, List.length_cons, List.length_nil, Nat.min_self, Nat.zero_add, Nat.sub_zero, Nat.reduceAdd] at c39b5; try simp only [ByteArray.size_data] at c39b5; have c39b6 := eq_false c39b5)
                                                          by_cases c40 : ((((((((((((((xe15) ++ (⟨#[44, 32]⟩ : ByteArray)) ++ t124) ++ (⟨#[32]⟩ : ByteArray)) ++ (xe24)) ++ (⟨#[32]⟩ : ByteArray)) ++ t125) ++ t126) ++ (⟨#[32]⟩ : ByteArray)) ++ t127) ++ (⟨#[58]⟩ : ByteArray)) ++ t128) ++ (⟨#[58]⟩ : ByteArray)) ++ t129).size + 4 ≤ 9223372036854775807
                                                          · rw [if_pos c40] at H
                                                            have c40b0 := eq_true c40
                                                            have c40b1 : decide (((((((((((((((xe15) ++ (⟨#[44, 32]⟩ : ByteArray)) ++ t124) ++ (⟨#[32]⟩ : ByteArray)) ++ (xe24)) ++ (⟨#[32]⟩ : ByteArray)) ++ t125) ++ t126) ++ (⟨#[32]⟩ : ByteArray)) ++ t127) ++ (⟨#[58]⟩ : ByteArray)) ++ t128) ++ (⟨#[58]⟩ : ByteArray)) ++ t129).size + 4 ≤ 9223372036854775807) = true := decide_eq_true c40
                                                            try have c40b2 : (9223372036854775807 < ((((((((((((((xe15) ++ (⟨#[44, 32]⟩ : ByteArray)) ++ t124) ++ (⟨#[32]⟩ : ByteArray)) ++ (xe24)) ++ (⟨#[32]⟩ : ByteArray)) ++ t125) ++ t126) ++ (⟨#[32]⟩ : ByteArray)) ++ t127) ++ (⟨#[58]⟩ : ByteArray)) ++ t128) ++ (⟨#[58]⟩ : ByteArray)) ++ t129).size + 4) = False := eq_false (Nat.not_lt.2 c40)
                                                            try (have c40n := c40; simp only [ByteArray.size_append, ByteArray.size_extract] at c40n; simp only [ByteArray.size, List.size_toArray, List.length_cons, List.length_nil, Nat.min_self, Nat.zero_add, Nat.sub_zero, Nat.reduceAdd] at c40n; try simp only [ByteArray.size_data] at c40n; have c40m := eq_true c40n)
                                                            try (have c40b5 : ¬ (9223372036854775807 < ((((((((((((((xe15) ++ (⟨#[44, 32]⟩ : ByteArray)) ++ t124) ++ (⟨#[32]⟩ : ByteArray)) ++ (xe24)) ++ (⟨#[32]⟩ : ByteArray)) ++ t125) ++ t126) ++ (⟨#[32]⟩ : ByteArray)) ++ t127) ++ (⟨#[58]⟩ : ByteArray)) ++ t128) ++ (⟨#[58]⟩ : ByteArray)) ++ t129).size + 4) := Nat.not_lt.2 c40; simp only [ByteArray.size_append, ByteArray.size_extract] at c40b5; simp only [ByteArray.size, List.size_toArray, List.length_cons, List.length_nil, Nat.min_self, Nat.zero_add, Nat.sub_zero, Nat.reduceAdd] at c40b5; try simp only [ByteArray.size_data] at c40b5; have c40b6 := eq_false c40b5)
                                                            simp only [Option.some.injEq, Prod.mk.injEq] at H
                                                            obtain ⟨rfl, rfl⟩ := H
                                                            try go_wp2_with (first | ((with_reducible refine gate_callee (f := 18) rfl ?_); refine goesL_ (some 44) rfl rfl Tryd.func18 (by kernel_rfl) rfl #[.int .i64 x8_2, .int .i64 x9_3] rfl (by (try simp only [List.map_toArray, List.map_cons, List.map_nil]); first | done | rfl | (simp only [List.length_drop, List.length_take]; rfl)) ?_; (with_reducible refine (ostlerref02_month.calls x8_2 x9_3 t122 _ A12.out).mono ?_); rintro e w' ⟨rfl, ⟨nd, rfl⟩⟩; refine ⟨_, rfl, ?_⟩))
                                                            (try (rw [drewN_self wr]; generalize hq_ : World.drewN wr _ = wr; have n0_ : Aside0 (Below w.heap.size w wr) := ⟨by rw [← hq_]; exact (by repeat (first | (with_reducible first | exact HB.out | apply below_alloc | apply pw_below_drewN | apply below_drew1) | exact HB.out))⟩; clear HB hq_; have HB := n0_; clear n0_))
                                                            have n0_ := Aside0.mk (below_drew1 HB.out)
                                                            clear HB
                                                            have HB := n0_
                                                            clear n0_
                                                            refine start_ (n := 25) (S := fun w' => True) (ds := []) #[false, false, false, false, false, false, false, false, false, false, false, false, false, false, false, false, false, false, false, false, false, false, false, false, false] (by kernel_rfl) rfl rfl trivial (fun hHeld => ?_); refine with_tabW ostlerref02_Format.tab16 ostlerref02_Format.bits16 (fun HT_ HW_ => ?_)
                                                            generalize wr.drew = w41 at HB hHeld ⊢
                                                            refine pure_ (i := 0) (N := some 53) (v := ?_) (a' := ?_) #[true, false, false, false, false, false, false, false, false, false, false, false, false, false, false, false, false, false, false, false, false, false, false, false, false] rfl rfl (any_of HT_.out (by kernel_rfl)) (fun _ _ _ h => h) (Or.inl ⟨by rfl, ?_⟩) ?_ ?_
                                                            rotate_left
                                                            · intro w'
                                                              go_simp
                                                              with_reducible rfl
                                                            rotate_left
                                                            · simp only [Act.put, List.setIfInBounds_toArray, List.set_cons_zero, List.set_cons_succ, i64_w, i32_w]
                                                              rfl
                                                            refine pure_ (i := 1) (N := some 54) (v := ?_) (a' := ?_) #[true, true, false, false, false, false, false, false, false, false, false, false, false, false, false, false, false, false, false, false, false, false, false, false, false] rfl rfl (any_of HT_.out (by kernel_rfl)) (fun _ _ _ h => h) (Or.inl ⟨by rfl, ?_⟩) ?_ ?_
                                                            rotate_left
                                                            · intro w'
                                                              go_simp
                                                              with_reducible rfl
                                                            rotate_left
                                                            · simp only [Act.put, List.setIfInBounds_toArray, List.set_cons_zero, List.set_cons_succ, i64_w, i32_w]
                                                              rfl
                                                            refine pure_ (i := 2) (N := some 55) (v := ?_) (a' := ?_) #[true, true, true, false, false, false, false, false, false, false, false, false, false, false, false, false, false, false, false, false, false, false, false, false, false] rfl rfl (any_of HT_.out (by kernel_rfl)) (fun _ _ _ h => h) (Or.inl ⟨by rfl, ?_⟩) ?_ ?_
                                                            rotate_left
                                                            · intro w'
                                                              go_simp
                                                              with_reducible rfl
                                                            rotate_left
                                                            · simp only [Act.put, List.setIfInBounds_toArray, List.set_cons_zero, List.set_cons_succ, i64_w, i32_w]
                                                              rfl
                                                            refine pure_ (i := 3) (N := some 56) (v := ?_) (a' := ?_) #[true, true, true, true, false, false, false, false, false, false, false, false, false, false, false, false, false, false, false, false, false, false, false, false, false] rfl rfl (any_of HT_.out (by kernel_rfl)) (fun _ _ _ h => h) (Or.inl ⟨by rfl, ?_⟩) ?_ ?_
                                                            rotate_left
                                                            · intro w'
                                                              go_simp
                                                              with_reducible rfl
                                                            rotate_left
                                                            · simp only [Act.put, List.setIfInBounds_toArray, List.set_cons_zero, List.set_cons_succ, i64_w, i32_w]
                                                              rfl
                                                            refine pure_ (i := 7) (N := some 60) (v := ?_) (a' := ?_) #[true, true, true, true, false, false, false, true, false, false, false, false, false, false, false, false, false, false, false, false, false, false, false, false, false] rfl rfl (any_of HT_.out (by kernel_rfl)) (fun _ _ _ h => h) (Or.inl ⟨by rfl, ?_⟩) ?_ ?_
                                                            rotate_left
                                                            · intro w'
                                                              go_simp
                                                              with_reducible rfl
                                                            rotate_left
                                                            · simp only [Act.put, List.setIfInBounds_toArray, List.set_cons_zero, List.set_cons_succ, i64_w, i32_w]
                                                              rfl
                                                            refine pure_ (i := 8) (N := some 61) (v := ?_) (a' := ?_) #[true, true, true, true, false, false, false, true, true, false, false, false, false, false, false, false, false, false, false, false, false, false, false, false, false] rfl rfl (any_of HT_.out (by kernel_rfl)) (fun _ _ _ h => h) (Or.inl ⟨by rfl, ?_⟩) ?_ ?_
                                                            rotate_left
                                                            · intro w'
                                                              go_simp
                                                              with_reducible rfl
                                                            rotate_left
                                                            · simp only [Act.put, List.setIfInBounds_toArray, List.set_cons_zero, List.set_cons_succ, i64_w, i32_w]
                                                              rfl
                                                            refine pure_ (i := 9) (N := some 62) (v := ?_) (a' := ?_) #[true, true, true, true, false, false, false, true, true, true, false, false, false, false, false, false, false, false, false, false, false, false, false, false, false] rfl rfl (any_of HT_.out (by kernel_rfl)) (fun _ _ _ h => h) (Or.inl ⟨by rfl, ?_⟩) ?_ ?_
                                                            rotate_left
                                                            · intro w'
                                                              go_simp
                                                              with_reducible rfl
                                                            rotate_left
                                                            · simp only [Act.put, List.setIfInBounds_toArray, List.set_cons_zero, List.set_cons_succ, i64_w, i32_w]
                                                              rfl
                                                            refine pure_ (i := 10) (N := some 63) (v := ?_) (a' := ?_) #[true, true, true, true, false, false, false, true, true, true, true, false, false, false, false, false, false, false, false, false, false, false, false, false, false] rfl rfl (any_of HT_.out (by kernel_rfl)) (fun _ _ _ h => h) (Or.inl ⟨by rfl, ?_⟩) ?_ ?_
                                                            rotate_left
                                                            · intro w'
                                                              go_simp
                                                              with_reducible rfl
                                                            rotate_left
                                                            · simp only [Act.put, List.setIfInBounds_toArray, List.set_cons_zero, List.set_cons_succ, i64_w, i32_w]
                                                              rfl
                                                            refine pure_ (i := 11) (N := some 64) (v := ?_) (a' := ?_) #[true, true, true, true, false, false, false, true, true, true, true, true, false, false, false, false, false, false, false, false, false, false, false, false, false] rfl rfl (any_of HT_.out (by kernel_rfl)) (fun _ _ _ h => h) (Or.inl ⟨by rfl, ?_⟩) ?_ ?_
                                                            rotate_left
                                                            · intro w'
                                                              go_simp
                                                              with_reducible rfl
                                                            rotate_left
                                                            · simp only [Act.put, List.setIfInBounds_toArray, List.set_cons_zero, List.set_cons_succ, i64_w, i32_w]
                                                              rfl
                                                            refine pure_ (i := 12) (N := some 65) (v := ?_) (a' := ?_) #[true, true, true, true, false, false, false, true, true, true, true, true, true, false, false, false, false, false, false, false, false, false, false, false, false] rfl rfl (any_of HT_.out (by kernel_rfl)) (fun _ _ _ h => h) (Or.inl ⟨by rfl, ?_⟩) ?_ ?_
                                                            rotate_left
                                                            · intro w'
                                                              go_simp
                                                              with_reducible rfl
                                                            rotate_left
                                                            · simp only [Act.put, List.setIfInBounds_toArray, List.set_cons_zero, List.set_cons_succ, i64_w, i32_w]
                                                              rfl
                                                            refine pure_ (i := 13) (N := some 66) (v := ?_) (a' := ?_) #[true, true, true, true, false, false, false, true, true, true, true, true, true, true, false, false, false, false, false, false, false, false, false, false, false] rfl rfl (any_of HT_.out (by kernel_rfl)) (fun _ _ _ h => h) (Or.inl ⟨by rfl, ?_⟩) ?_ ?_
                                                            rotate_left
                                                            · intro w'
                                                              go_simp
                                                              with_reducible rfl
                                                            rotate_left
                                                            · simp only [Act.put, List.setIfInBounds_toArray, List.set_cons_zero, List.set_cons_succ, i64_w, i32_w]
                                                              rfl
                                                            refine pure_ (i := 16) (N := some 69) (v := ?_) (a' := ?_) #[true, true, true, true, false, false, false, true, true, true, true, true, true, true, false, false, true, false, false, false, false, false, false, false, false] rfl rfl (any_of HT_.out (by kernel_rfl)) (fun _ _ _ h => h) (Or.inl ⟨by rfl, ?_⟩) ?_ ?_
                                                            rotate_left
                                                            · intro w'
                                                              go_simp
                                                              with_reducible rfl
                                                            rotate_left
                                                            · simp only [Act.put, List.setIfInBounds_toArray, List.set_cons_zero, List.set_cons_succ, i64_w, i32_w]
                                                              rfl
                                                            refine pure_ (i := 17) (N := some 70) (v := ?_) (a' := ?_) #[true, true, true, true, false, false, false, true, true, true, true, true, true, true, false, false, true, true, false, false, false, false, false, false, false] rfl rfl (any_of HT_.out (by kernel_rfl)) (fun _ _ _ h => h) (Or.inl ⟨by rfl, ?_⟩) ?_ ?_
                                                            rotate_left
                                                            · intro w'
                                                              go_simp
                                                              with_reducible rfl
                                                            rotate_left
                                                            · simp only [Act.put, List.setIfInBounds_toArray, List.set_cons_zero, List.set_cons_succ, i64_w, i32_w]
                                                              rfl
                                                            refine pure_ (i := 20) (N := some 73) (v := ?_) (a' := ?_) #[true, true, true, true, false, false, false, true, true, true, true, true, true, true, false, false, true, true, false, false, true, false, false, false, false] rfl rfl (any_of HT_.out (by kernel_rfl)) (fun _ _ _ h => h) (Or.inl ⟨by rfl, ?_⟩) ?_ ?_
                                                            rotate_left
                                                            · intro w'
                                                              go_simp
                                                              with_reducible rfl
                                                            rotate_left
                                                            · simp only [Act.put, List.setIfInBounds_toArray, List.set_cons_zero, List.set_cons_succ, i64_w, i32_w]
                                                              rfl
                                                            refine pure_ (i := 21) (N := some 74) (v := ?_) (a' := ?_) #[true, true, true, true, false, false, false, true, true, true, true, true, true, true, false, false, true, true, false, false, true, true, false, false, false] rfl rfl (any_of HT_.out (by kernel_rfl)) (fun _ _ _ h => h) (Or.inl ⟨by rfl, ?_⟩) ?_ ?_
                                                            rotate_left
                                                            · intro w'
                                                              go_simp
                                                              with_reducible rfl
                                                            rotate_left
                                                            · simp only [Act.put, List.setIfInBounds_toArray, List.set_cons_zero, List.set_cons_succ, i64_w, i32_w]
                                                              rfl
                                                            refine one_ (i := 4) (N := some 57) #[true, true, true, true, true, false, false, true, true, true, true, true, true, true, false, false, true, true, false, false, true, true, false, false, false] rfl rfl (one_of HT_.out (by kernel_rfl)) (by decide) (fun K hK => ?_)
                                                            refine goes_ Tryd.func19 (by kernel_rfl) rfl #[.int .i64 (wrap64 (x4_3 + 1))] (by rfl) rfl rfl (by (try simp only [List.map_toArray, List.map_cons, List.map_nil]); first | done | rfl | (simp only [List.length_drop, List.length_take]; rfl)) ?_
                                                            with_reducible refine (ostlerref02_two.calls (wrap64 (x4_3 + 1)) t124 _ A17.out).mono ?_
                                                            rintro e w42 ⟨rfl, hb⟩
                                                            refine ⟨_, rfl, ?_⟩
                                                            have n0_ := Aside0.mk (below_step (by repeat (first | (with_reducible first | exact HB.out | apply below_alloc | apply pw_below_drewN | apply below_drew1) | exact HB.out)) hb)
                                                            clear HB
                                                            have HB := n0_
                                                            clear n0_
                                                            (try clear hb)
                                                            (try clear hb2)
                                                            (try clear hk)
                                                            (try clear hi)
                                                            refine hK.out _ _ trivial (fun hHeld => ?_)
                                                            clear hK K
                                                            refine norm_ (a' := ?_) ?_ ?_
                                                            rotate_left
                                                            · show Act.put _ (some 57) _ = _
                                                              simp only [Act.put, List.setIfInBounds_toArray, List.set_cons_zero, List.set_cons_succ, i64_w, i32_w]
                                                              rfl
                                                            refine pure_ (i := 5) (N := some 58) (v := ?_) (a' := ?_) #[true, true, true, true, true, true, false, true, true, true, true, true, true, true, false, false, true, true, false, false, true, true, false, false, false] rfl rfl (any_of HT_.out (by kernel_rfl)) (fun _ _ _ h => h) (Or.inl ⟨by rfl, ?_⟩) ?_ ?_
                                                            rotate_left
                                                            · intro w'
                                                              go_simp
                                                              with_reducible rfl
                                                            rotate_left
                                                            · simp only [Act.put, List.setIfInBounds_toArray, List.set_cons_zero, List.set_cons_succ, i64_w, i32_w]
                                                              rfl
                                                            refine pure_ (i := 6) (N := some 59) (v := ?_) (a' := ?_) #[true, true, true, true, true, true, true, true, true, true, true, true, true, true, false, false, true, true, false, false, true, true, false, false, false] rfl rfl (any_of HT_.out (by kernel_rfl)) (fun _ _ _ h => h) (Or.inl ⟨by rfl, ?_⟩) ?_ ?_
                                                            rotate_left
                                                            · intro w'
                                                              go_simp
                                                              with_reducible rfl
                                                            rotate_left
                                                            · simp only [Act.put, List.setIfInBounds_toArray, List.set_cons_zero, List.set_cons_succ, i64_w, i32_w]
                                                              rfl
                                                            refine pure_ (i := 14) (N := some 67) (v := ?_) (a' := ?_) #[true, true, true, true, true, true, true, true, true, true, true, true, true, true, true, false, true, true, false, false, true, true, false, false, false] rfl rfl (any_of HT_.out (by kernel_rfl)) (fun _ _ _ h => h) (Or.inl ⟨by rfl, ?_⟩) ?_ ?_
                                                            rotate_left
                                                            · intro w'
                                                              go_simp
                                                              with_reducible rfl
                                                            rotate_left
                                                            · simp only [Act.put, List.setIfInBounds_toArray, List.set_cons_zero, List.set_cons_succ, i64_w, i32_w]
                                                              rfl
                                                            refine pure_ (i := 15) (N := some 68) (v := ?_) (a' := ?_) #[true, true, true, true, true, true, true, true, true, true, true, true, true, true, true, true, true, true, false, false, true, true, false, false, false] rfl rfl (any_of HT_.out (by kernel_rfl)) (fun _ _ _ h => h) (Or.inl ⟨by rfl, ?_⟩) ?_ ?_
                                                            rotate_left
                                                            · intro w'
                                                              go_simp
                                                              with_reducible rfl
                                                            rotate_left
                                                            · simp only [Act.put, List.setIfInBounds_toArray, List.set_cons_zero, List.set_cons_succ, i64_w, i32_w]
                                                              rfl
                                                            refine one_ (i := 18) (N := some 71) #[true, true, true, true, true, true, true, true, true, true, true, true, true, true, true, true, true, true, true, false, true, true, false, false, false] rfl rfl (one_of HT_.out (by kernel_rfl)) (by decide) (fun K hK => ?_)
                                                            refine goes_ Tryd.func19 (by kernel_rfl) rfl #[.int .i64 (wrap64 (Int.tdiv x8_2 100))] (by rfl) rfl rfl (by (try simp only [List.map_toArray, List.map_cons, List.map_nil]); first | done | rfl | (simp only [List.length_drop, List.length_take]; rfl)) ?_
                                                            with_reducible refine (ostlerref02_two.calls (wrap64 (Int.tdiv x8_2 100)) t125 _ A27.out).mono ?_
                                                            rintro e w43 ⟨rfl, hb⟩
                                                            refine ⟨_, rfl, ?_⟩
                                                            have n0_ := Aside0.mk (below_step (by repeat (first | (with_reducible first | exact HB.out | apply below_alloc | apply pw_below_drewN | apply below_drew1) | exact HB.out)) hb)
                                                            clear HB
                                                            have HB := n0_
                                                            clear n0_
                                                            (try clear hb)
                                                            (try clear hb2)
                                                            (try clear hk)
                                                            (try clear hi)
                                                            refine hK.out _ _ trivial (fun hHeld => ?_)
                                                            clear hK K
                                                            refine norm_ (a' := ?_) ?_ ?_
                                                            rotate_left
                                                            · show Act.put _ (some 71) _ = _
                                                              simp only [Act.put, List.setIfInBounds_toArray, List.set_cons_zero, List.set_cons_succ, i64_w, i32_w]
                                                              rfl
                                                            refine pure_ (i := 19) (N := some 72) (v := ?_) (a' := ?_) #[true, true, true, true, true, true, true, true, true, true, true, true, true, true, true, true, true, true, true, true, true, true, false, false, false] rfl rfl (any_of HT_.out (by kernel_rfl)) (fun _ _ _ h => h) (Or.inl ⟨by rfl, ?_⟩) ?_ ?_
                                                            rotate_left
                                                            · intro w'
                                                              go_simp
                                                              with_reducible rfl
                                                            rotate_left
                                                            · simp only [Act.put, List.setIfInBounds_toArray, List.set_cons_zero, List.set_cons_succ, i64_w, i32_w]
                                                              rfl
                                                            refine one_ (i := 22) (N := some 75) #[true, true, true, true, true, true, true, true, true, true, true, true, true, true, true, true, true, true, true, true, true, true, true, false, false] rfl rfl (one_of HT_.out (by kernel_rfl)) (by decide) (fun K hK => ?_)
                                                            refine goes_ Tryd.func19 (by kernel_rfl) rfl #[.int .i64 (Int.tmod x8_2 100)] (by rfl) rfl rfl (by (try simp only [List.map_toArray, List.map_cons, List.map_nil]); first | done | rfl | (simp only [List.length_drop, List.length_take]; rfl)) ?_
                                                            with_reducible refine (ostlerref02_two.calls (Int.tmod x8_2 100) t126 _ A29.out).mono ?_
                                                            rintro e w44 ⟨rfl, hb⟩
                                                            refine ⟨_, rfl, ?_⟩
                                                            have n0_ := Aside0.mk (below_step (by repeat (first | (with_reducible first | exact HB.out | apply below_alloc | apply pw_below_drewN | apply below_drew1) | exact HB.out)) hb)
                                                            clear HB
                                                            have HB := n0_
                                                            clear n0_
                                                            (try clear hb)
                                                            (try clear hb2)
                                                            (try clear hk)
                                                            (try clear hi)
                                                            refine hK.out _ _ trivial (fun hHeld => ?_)
                                                            clear hK K
                                                            refine norm_ (a' := ?_) ?_ ?_
                                                            rotate_left
                                                            · show Act.put _ (some 75) _ = _
                                                              simp only [Act.put, List.setIfInBounds_toArray, List.set_cons_zero, List.set_cons_succ, i64_w, i32_w]
                                                              rfl
                                                            refine pure_ (i := 23) (N := some 76) (v := ?_) (a' := ?_) #[true, true, true, true, true, true, true, true, true, true, true, true, true, true, true, true, true, true, true, true, true, true, true, true, false] rfl rfl (any_of HT_.out (by kernel_rfl)) (fun _ _ _ h => h) (Or.inl ⟨by rfl, ?_⟩) ?_ ?_
                                                            rotate_left
                                                            · intro w'
                                                              go_simp
                                                              with_reducible rfl
                                                            rotate_left
                                                            · simp only [Act.put, List.setIfInBounds_toArray, List.set_cons_zero, List.set_cons_succ, i64_w, i32_w]
                                                              rfl
                                                            refine pure_ (i := 24) (N := some 11) (v := ?_) (a' := ?_) #[true, true, true, true, true, true, true, true, true, true, true, true, true, true, true, true, true, true, true, true, true, true, true, true, true] rfl rfl (any_of HT_.out (by kernel_rfl)) (fun _ _ _ h => h) (Or.inl ⟨by rfl, ?_⟩) ?_ ?_
                                                            rotate_left
                                                            · intro w'
                                                              go_simp
                                                              with_reducible rfl
                                                            rotate_left
                                                            · simp only [Act.put, List.setIfInBounds_toArray, List.set_cons_zero, List.set_cons_succ, i64_w, i32_w]
                                                              rfl
                                                            refine done_ (done_of HT_.out (by kernel_rfl)) ?_
                                                            try go_wp2_with (first | ((with_reducible refine gate_callee (f := 19) rfl ?_); refine goesL_ (some 81) rfl rfl Tryd.func19 (by kernel_rfl) rfl #[.int .i64 (wrap64 (Int.tdiv (Int.tmod a0 86400) 3600))] rfl (by (try simp only [List.map_toArray, List.map_cons, List.map_nil]); first | done | rfl | (simp only [List.length_drop, List.length_take]; rfl)) ?_; (with_reducible refine (ostlerref02_two.calls (wrap64 (Int.tdiv (Int.tmod a0 86400) 3600)) t127 _ A32.out).mono ?_); rintro e w45 ⟨rfl, hb⟩; refine ⟨_, rfl, ?_⟩; have n0_ := Aside0.mk (below_step (by repeat (first | (with_reducible first | exact HB.out | apply below_alloc | apply pw_below_drewN | apply below_drew1) | exact HB.out)) hb); clear HB; have HB := n0_; clear n0_; (try clear hb); (try clear hb2); (try clear hk); (try clear hi)) | ((with_reducible refine gate_callee (f := 19) rfl ?_); refine goesL_ (some 87) rfl rfl Tryd.func19 (by kernel_rfl) rfl #[.int .i64 (Int.tmod (wrap64 (Int.tdiv (Int.tmod a0 86400) 60)) 60)] rfl (by (try simp only [List.map_toArray, List.map_cons, List.map_nil]); first | done | rfl | (simp only [List.length_drop, List.length_take]; rfl)) ?_; (with_reducible refine (ostlerref02_two.calls (Int.tmod (wrap64 (Int.tdiv (Int.tmod a0 86400) 60)) 60) t128 _ A35.out).mono ?_); rintro e w46 ⟨rfl, hb⟩; refine ⟨_, rfl, ?_⟩; have n0_ := Aside0.mk (below_step (by repeat (first | (with_reducible first | exact HB.out | apply below_alloc | apply pw_below_drewN | apply below_drew1) | exact HB.out)) hb); clear HB; have HB := n0_; clear n0_; (try clear hb); (try clear hb2); (try clear hk); (try clear hi)) | ((with_reducible refine gate_callee (f := 19) rfl ?_); refine goesL_ (some 92) rfl rfl Tryd.func19 (by kernel_rfl) rfl #[.int .i64 (Int.tmod a0 60)] rfl (by (try simp only [List.map_toArray, List.map_cons, List.map_nil]); first | done | rfl | (simp only [List.length_drop, List.length_take]; rfl)) ?_; (with_reducible refine (ostlerref02_two.calls (Int.tmod a0 60) t129 _ A38.out).mono ?_); rintro e w47 ⟨rfl, hb⟩; refine ⟨_, rfl, ?_⟩; have n0_ := Aside0.mk (below_step (by repeat (first | (with_reducible first | exact HB.out | apply below_alloc | apply pw_below_drewN | apply below_drew1) | exact HB.out)) hb); clear HB; have HB := n0_; clear n0_; (try clear hb); (try clear hb2); (try clear hk); (try clear hi)))
                                                            go_ret2
                                                            exact ⟨by first | rfl | (simp [errW_none, errW_some] <;> rfl) | (simp only [← hji5, ← hji20]; first | rfl | (simp [errW_none, errW_some] <;> rfl)) | (simp [*, errW_none, errW_some] <;> rfl), by repeat (first | (with_reducible first | exact HB.out | apply below_alloc | apply pw_below_drewN | apply below_drew1) | exact HB.out)⟩
                                                          · rw [if_neg c40] at H
                                                            exact absurd H (by simp)
                                                        · rw [if_neg c39] at H
                                                          exact absurd H (by simp)
                                                      · rw [if_neg c37] at H
                                                        exact absurd H (by simp)
                                                    · rw [if_neg c36] at H
                                                      exact absurd H (by simp)
                                                  · rw [if_neg c34] at H
                                                    exact absurd H (by simp)
                                                · rw [if_neg c33] at H
                                                  exact absurd H (by simp)
                                              · rw [if_neg c31] at H
                                                exact absurd H (by simp)
                                            · rw [if_neg c30] at H
                                              exact absurd H (by simp)
                                          · rw [if_neg c28] at H
                                            exact absurd H (by simp)
                                        · rw [if_neg c26] at H
                                          exact absurd H (by simp)
                                      · rw [if_neg c25] at H
                                        exact absurd H (by simp)
                                    · rw [if_neg c23] at H
                                      exact absurd H (by simp)
                                  · rw [if_neg c22] at H
                                    exact absurd H (by simp)
                                · rw [if_neg c21] at H
                                  exact absurd H (by simp)
                              · rw [if_neg c19] at H
                                exact absurd H (by simp)
                            · rw [if_neg c18] at H
                              exact absurd H (by simp)
                          · rw [if_neg c16] at H
                            exact absurd H (by simp)
            · rw [if_neg c8] at H
              exact absurd H (by simp)
          · rw [if_neg c7] at H
            exact absurd H (by simp)
        · rw [if_neg c6] at H
          exact absurd H (by simp)

end Go.Proofs.YtbbcnmdifiblfaaDoor.PP
