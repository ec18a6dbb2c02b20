-- Written by a program of this session (a changed copy of the kit's print) out of the translation. Not trusted: Lean checks it.
import Derived.Test.YtbndichleiameaaDoorPPx0
import Derived.Test.YtbndichleiameaaDoorPPx1
import Derived.Test.YtbndichleiameaaDoorPPx6
import Derived.Test.YtbndichleiameaaDoorPPxEostlerlaw10awake
import Derived.Test.YtbndichleiameaaDoorPPx10
namespace Go.Proofs.YtbndichleiameaaDoor.PP
open Go.RowKit Go.Proofs.YtbndichleiameaaDoorW.PrintWords Go.Proofs.YtbndichleiameaaDoorW.PrintLast Go.Proofs.YtbndichleiameaaDoorW.PrintMore
attribute [local go_sem] max2_int min2_int max_two min_two max_three min_three max_four min_four   -- for this text's walks alone
set_option linter.unusedVariables false
set_option linter.unusedSimpArgs false

attribute [local go_sem high] eqA24
/-! ### ostlerref10_Parse: function 11 -/
mutual
def ostlerref10_Parse.l0 : Nat → List ByteArray → Int → Int → Bool → Option (Int × Bool)
  | 0, _, _, _, _ => none
  | k + 1, x4, x5, x127000, x127001 => if x5 < (x4.length : Int) then (if 0 ≤ x5 then (ostlerref10_Parse.l1 k x4 x5 (rdOf ByteArray.empty x4 x5) 0 x127000 x127001) else (none)) else (some (x127000, x127001))
def ostlerref10_Parse.l1 : Nat → List ByteArray → Int → ByteArray → Int → Int → Bool → Option (Int × Bool)
  | 0, _, _, _, _, _, _ => none
  | k + 1, x4, x5, x6, x7, x127000, x127001 => if x7 < (x6.size : Int) then (if 0 ≤ x7 then (if (bt x6 x7) = 59 then (if x7 ≤ (x6.size : Int) then (ostlerref10_Parse.l1 k x4 x5 (x6.extract 0 (x7 : Int).toNat) (wrap64 (x7 + 1)) x127000 x127001) else (none)) else (ostlerref10_Parse.l1 k x4 x5 x6 (wrap64 (x7 + 1)) x127000 x127001)) else (none)) else ((ostlerref01_Trim.f k x6).bind fun t131 => (if t131.toList = ([105] : List UInt8) then (ostlerref10_Parse.j2 k x4 x5 t131 t131 (t131.toList == ([105] : List UInt8)) x127000 x127001) else (ostlerref10_Parse.j2 k x4 x5 t131 t131 (t131.toList == ([105, 61, 63, 49] : List UInt8)) x127000 x127001)))
def ostlerref10_Parse.j2 : Nat → List ByteArray → Int → ByteArray → ByteArray → Bool → Int → Bool → Option (Int × Bool)
  | 0, _, _, _, _, _, _, _ => none
  | k + 1, x4, x5, x6, x36, x37, x127000, x127001 => if x37 = true then (ostlerref10_Parse.l0 k x4 (wrap64 (x5 + 1)) x127000 true) else (if x36.toList = ([105, 61, 63, 48] : List UInt8) then (ostlerref10_Parse.l0 k x4 (wrap64 (x5 + 1)) x127000 false) else (if x36.toList = ([117, 61, 48] : List UInt8) then (if 2 < (x6.size : Int) then (ostlerref10_Parse.l0 k x4 (wrap64 (x5 + 1)) (((bt x6 2) - 48) % 256) x127001) else (none)) else (if x36.toList = ([117, 61, 49] : List UInt8) then (if 2 < (x6.size : Int) then (ostlerref10_Parse.l0 k x4 (wrap64 (x5 + 1)) (((bt x6 2) - 48) % 256) x127001) else (none)) else (if x36.toList = ([117, 61, 50] : List UInt8) then (if 2 < (x6.size : Int) then (ostlerref10_Parse.l0 k x4 (wrap64 (x5 + 1)) (((bt x6 2) - 48) % 256) x127001) else (none)) else (if x36.toList = ([117, 61, 51] : List UInt8) then (if 2 < (x6.size : Int) then (ostlerref10_Parse.l0 k x4 (wrap64 (x5 + 1)) (((bt x6 2) - 48) % 256) x127001) else (none)) else (if x36.toList = ([117, 61, 52] : List UInt8) then (if 2 < (x6.size : Int) then (ostlerref10_Parse.l0 k x4 (wrap64 (x5 + 1)) (((bt x6 2) - 48) % 256) x127001) else (none)) else (if x36.toList = ([117, 61, 53] : List UInt8) then (if 2 < (x6.size : Int) then (ostlerref10_Parse.l0 k x4 (wrap64 (x5 + 1)) (((bt x6 2) - 48) % 256) x127001) else (none)) else (if x36.toList = ([117, 61, 54] : List UInt8) then (if 2 < (x6.size : Int) then (ostlerref10_Parse.l0 k x4 (wrap64 (x5 + 1)) (((bt x6 2) - 48) % 256) x127001) else (none)) else (if x36.toList = ([117, 61, 55] : List UInt8) then (if 2 < (x6.size : Int) then (ostlerref10_Parse.l0 k x4 (wrap64 (x5 + 1)) (((bt x6 2) - 48) % 256) x127001) else (none)) else (ostlerref10_Parse.l0 k x4 (wrap64 (x5 + 1)) x127000 x127001))))))))))
end
def ostlerref10_Parse.f (k : Nat) (a0 : ByteArray) : Option (Int × Bool) := (ostlerref01_List.f k a0).bind fun t127 => (ostlerref10_Parse.l0 k t127 0 3 false)
theorem ostlerref10_Parse.mono_l : ∀ k, (∀ y0 y1 y2 y3, LeO (ostlerref10_Parse.l0 k y0 y1 y2 y3) (ostlerref10_Parse.l0 (k + 1) y0 y1 y2 y3)) ∧ (∀ y0 y1 y2 y3 y4 y5, LeO (ostlerref10_Parse.l1 k y0 y1 y2 y3 y4 y5) (ostlerref10_Parse.l1 (k + 1) y0 y1 y2 y3 y4 y5)) ∧ (∀ y0 y1 y2 y3 y4 y5 y6, LeO (ostlerref10_Parse.j2 k y0 y1 y2 y3 y4 y5 y6) (ostlerref10_Parse.j2 (k + 1) y0 y1 y2 y3 y4 y5 y6))
  | 0 => ⟨fun _ _ _ _ r h => by simp [ostlerref10_Parse.l0] at h, fun _ _ _ _ _ _ r h => by simp [ostlerref10_Parse.l1] at h, fun _ _ _ _ _ _ _ r h => by simp [ostlerref10_Parse.j2] at h⟩
  | k + 1 => by
    obtain ⟨ih0, ih1, ih2⟩ := ostlerref10_Parse.mono_l k
    refine ⟨?_, ?_, ?_⟩
    · intro y0 y1 y2 y3
      unfold ostlerref10_Parse.l0
      repeat' first
      | (with_reducible exact ih0 _ _ _ _)
      | (with_reducible exact ih1 _ _ _ _ _ _)
      | (with_reducible exact ih2 _ _ _ _ _ _ _)
      | (with_reducible exact ostlerref01_List.mono _ _)
      | (with_reducible exact ostlerref01_Trim.mono _ _)
      | (with_reducible exact LeO.refl _)
      | (with_reducible exact LeO.none _)
      | (with_reducible refine LeO.ite ?_ ?_)
      | (with_reducible refine LeO.bind ?_ (fun _ => ?_))
      | exact ih0 _ _ _ _
      | exact ih1 _ _ _ _ _ _
      | exact ih2 _ _ _ _ _ _ _
      | exact ostlerref01_List.mono _ _
      | exact ostlerref01_Trim.mono _ _
      | exact LeO.none _
      | refine LeO.ite ?_ ?_
      | refine LeO.bind ?_ (fun _ => ?_)
    · intro y0 y1 y2 y3 y4 y5
      unfold ostlerref10_Parse.l1
      repeat' first
      | (with_reducible exact ih0 _ _ _ _)
      | (with_reducible exact ih1 _ _ _ _ _ _)
      | (with_reducible exact ih2 _ _ _ _ _ _ _)
      | (with_reducible exact ostlerref01_List.mono _ _)
      | (with_reducible exact ostlerref01_Trim.mono _ _)
      | (with_reducible exact LeO.refl _)
      | (with_reducible exact LeO.none _)
      | (with_reducible refine LeO.ite ?_ ?_)
      | (with_reducible refine LeO.bind ?_ (fun _ => ?_))
      | exact ih0 _ _ _ _
      | exact ih1 _ _ _ _ _ _
      | exact ih2 _ _ _ _ _ _ _
      | exact ostlerref01_List.mono _ _
      | exact ostlerref01_Trim.mono _ _
      | exact LeO.none _
      | refine LeO.ite ?_ ?_
      | refine LeO.bind ?_ (fun _ => ?_)
    · intro y0 y1 y2 y3 y4 y5 y6
      unfold ostlerref10_Parse.j2
      repeat' first
      | (with_reducible exact ih0 _ _ _ _)
      | (with_reducible exact ih1 _ _ _ _ _ _)
      | (with_reducible exact ih2 _ _ _ _ _ _ _)
      | (with_reducible exact ostlerref01_List.mono _ _)
      | (with_reducible exact ostlerref01_Trim.mono _ _)
      | (with_reducible exact LeO.refl _)
      | (with_reducible exact LeO.none _)
      | (with_reducible refine LeO.ite ?_ ?_)
      | (with_reducible refine LeO.bind ?_ (fun _ => ?_))
      | exact ih0 _ _ _ _
      | exact ih1 _ _ _ _ _ _
      | exact ih2 _ _ _ _ _ _ _
      | exact ostlerref01_List.mono _ _
      | exact ostlerref01_Trim.mono _ _
      | exact LeO.none _
      | refine LeO.ite ?_ ?_
      | refine LeO.bind ?_ (fun _ => ?_)
theorem ostlerref10_Parse.mono : ∀ a0 k, LeO (ostlerref10_Parse.f k a0) (ostlerref10_Parse.f (k + 1) a0) := by
  intro a0 k
  obtain ⟨ih0, ih1, ih2⟩ := ostlerref10_Parse.mono_l k
  unfold ostlerref10_Parse.f
  repeat' first
      | (with_reducible exact ih0 _ _ _ _)
      | (with_reducible exact ih1 _ _ _ _ _ _)
      | (with_reducible exact ih2 _ _ _ _ _ _ _)
      | (with_reducible exact ostlerref01_List.mono _ _)
      | (with_reducible exact ostlerref01_Trim.mono _ _)
      | (with_reducible exact LeO.refl _)
      | (with_reducible exact LeO.none _)
      | (with_reducible refine LeO.ite ?_ ?_)
      | (with_reducible refine LeO.bind ?_ (fun _ => ?_))
      | exact ih0 _ _ _ _
      | exact ih1 _ _ _ _ _ _
      | exact ih2 _ _ _ _ _ _ _
      | exact ostlerref01_List.mono _ _
      | exact ostlerref01_Trim.mono _ _
      | exact LeO.none _
      | refine LeO.ite ?_ ?_
      | refine LeO.bind ?_ (fun _ => ?_)
set_option maxHeartbeats 8000000 in
set_option maxRecDepth 100000 in
theorem ostlerref10_Parse.calls (k : Nat) (a0 : ByteArray) (r1 : Int) (r2 : Bool) (w : World) (h : ostlerref10_Parse.f k a0 = some (r1, r2)) :
    Calls Tryd.prog 11 #[.string a0] w fun e w' => e = .returned (.agg #[.int .i64 r1, .bool r2]) ∧ Below w.heap.size w w' := by
  have hu24 := Tryd.underlying24
  have HB := Aside0.mk (Below.refl w.heap.size w)
  have H : ((ostlerref01_List.f k a0).bind fun t127 => (ostlerref10_Parse.l0 k t127 0 3 false)) = some (r1, r2) := h
  clear h
  replace H := Option.bind_eq_some_iff.mp H
  obtain ⟨t127, A20, H⟩ := H
  replace H : (ostlerref10_Parse.l0 k t127 0 3 false) = some (r1, r2) := H
  have A2 := Aside0.mk A20
  clear A20
  have H' := Aside0.mk H
  clear H
  go_enter Tryd.func11, Tryd.ntmps11
  go_wp2_with (first | ((with_reducible refine gate_dst (N := 2) rfl ?_); refine box_event ?hg (N := 2) ?hd (cs := #[.int .i64 0, .bool false]) (t := 24) ?hr ?_; (case hd => rfl); (case hg => rfl); (case hr => first | (go_simp; done) | (go_simp; rfl)); intro gb125 hg w3 hbox hb; have n0_ := Aside0.mk (below_step (by repeat (first | (with_reducible first | exact HB.out | apply below_alloc | apply pw_below_drewN | apply below_drew1) | exact HB.out)) hb); have n1_ := Aside0.mk (hbox); have n2_ := Aside0.mk ((by rw [hg]; exact (below_size (by repeat (first | (with_reducible first | exact HB.out | apply below_alloc | apply pw_below_drewN | apply below_drew1) | exact HB.out))) : w.heap.size ≤ gb125)); have n3_ := Aside0.mk ((by rw [hg]; exact (below_size (by repeat (first | (with_reducible first | exact HB.out | apply below_alloc | apply pw_below_drewN | apply below_drew1) | exact HB.out))) : w.heap.size ≤ gb125)); clear HB; have HB := n0_; have BK125 := n1_; have GW125 := n2_; have GE125 := n3_; clear n0_ n1_ n2_ n3_; clear hb hbox hg) | ((with_reducible refine gate_dst (N := 3) rfl ?_); refine box_event ?hg (N := 3) ?hd (cs := #[.int .i64 0, .bool false]) (t := 24) ?hr ?_; (case hd => rfl); (case hg => rfl); (case hr => first | (go_simp; done) | (go_simp; rfl)); intro gb126 hg w4 hbox hb; have n0_ := Aside0.mk (blk_below (g := gb125) (o := .cells #[.int .i64 0, .bool false] 24 (0, 0)) (by (with_reducible repeat (first | refine blk_drewN ?_ _ | refine blk_drew ?_ | refine blk_alloc ?_ _)); exact BK125.out) hb); have n1_ := Aside0.mk (below_step (by repeat (first | (with_reducible first | exact HB.out | apply below_alloc | apply pw_below_drewN | apply below_drew1 | refine below_set ?_ GE125.out) | exact HB.out)) hb); have n2_ := Aside0.mk (hbox); have n3_ := Aside0.mk ((by rw [hg]; exact (below_size (by repeat (first | (with_reducible first | exact HB.out | apply below_alloc | apply pw_below_drewN | apply below_drew1 | refine below_set ?_ GE125.out) | exact HB.out))) : w.heap.size ≤ gb126)); have n4_ := Aside0.mk ((by rw [hg]; exact (below_size (by repeat (first | (with_reducible first | exact HB.out | apply below_alloc | apply pw_below_drewN | apply below_drew1 | refine below_set ?_ GE125.out) | exact HB.out))) : w.heap.size ≤ gb126)); have n5_ := Aside0.mk ((by rw [hg]; exact Nat.ne_of_lt (blk_lt (g := gb125) (o := .cells #[.int .i64 0, .bool false] 24 (0, 0)) (by (with_reducible repeat (first | refine blk_drewN ?_ _ | refine blk_drew ?_ | refine blk_alloc ?_ _)); exact BK125.out)) : gb125 ≠ gb126)); have n6_ := Aside0.mk ((by rw [hg]; exact Nat.ne_of_gt (blk_lt (g := gb125) (o := .cells #[.int .i64 0, .bool false] 24 (0, 0)) (by (with_reducible repeat (first | refine blk_drewN ?_ _ | refine blk_drew ?_ | refine blk_alloc ?_ _)); exact BK125.out)) : gb126 ≠ gb125)); clear BK125; clear HB; have BK125 := n0_; have HB := n1_; have BK126 := n2_; have GW126 := n3_; have GE126 := n4_; have NB125_126 := n5_; have NB126_125 := n6_; clear n0_ n1_ n2_ n3_ n4_ n5_ n6_; clear hb hbox hg; have hnb5 := NB126_125.out; have hnc5 := NB125_126.out; have hcz6_0 : w4.cell? ⟨gb126, 0, none⟩ = some (.int .i64 0) := (blk_cell BK126.out 0).trans rfl; have hcz6_1 : w4.cell? ⟨gb126, 1, none⟩ = some (.bool false) := (blk_cell BK126.out 1).trans rfl; have hfz6_0 := blk_frozen BK126.out 0; have hfz6_1 := blk_frozen BK126.out 1) | ((with_reducible refine gate_callee (f := 27) rfl ?_); refine goesL_ (some 10) rfl rfl Tryd.func27 (by kernel_rfl) rfl #[.string a0] rfl (by (try simp only [List.map_toArray, List.map_cons, List.map_nil]); first | done | rfl | (simp only [List.length_drop, List.length_take]; rfl)) ?_; (with_reducible refine (ostlerref01_List.calls k a0 t127 _ A2.out).mono ?_); rintro e w7 ⟨v128, rfl, ho0, hb⟩; refine ⟨_, rfl, ?_⟩; have n0_ := Aside0.mk (Kd.R_lower ho0 (below_size (by repeat (first | (with_reducible first | exact HB.out | apply below_alloc | apply pw_below_drewN | apply below_drew1 | refine below_set ?_ GE125.out | refine below_set ?_ GE126.out) | exact HB.out)))); have n1_ := Aside0.mk (blk_below (g := gb125) (o := .cells #[.int .i64 0, .bool false] 24 (0, 0)) (by (with_reducible repeat (first | refine blk_drewN ?_ _ | refine blk_drew ?_ | refine blk_alloc ?_ _)); refine blk_far ?_ NB125_126.out _; (with_reducible repeat (first | refine blk_drewN ?_ _ | refine blk_drew ?_ | refine blk_alloc ?_ _)); refine blk_far ?_ NB125_126.out _; (with_reducible repeat (first | refine blk_drewN ?_ _ | refine blk_drew ?_ | refine blk_alloc ?_ _)); exact BK125.out) hb); have n2_ := Aside0.mk (blk_below (g := gb126) (o := .cells #[.int .i64 3, .bool false] 24 (0, 0)) (by (with_reducible repeat (first | refine blk_drewN ?_ _ | refine blk_drew ?_ | refine blk_alloc ?_ _)); refine blk_put (cs := #[.int .i64 3, .bool false]) ?_ 1 _ rfl; (with_reducible repeat (first | refine blk_drewN ?_ _ | refine blk_drew ?_ | refine blk_alloc ?_ _)); refine blk_put (cs := #[.int .i64 0, .bool false]) ?_ 0 _ rfl; (with_reducible repeat (first | refine blk_drewN ?_ _ | refine blk_drew ?_ | refine blk_alloc ?_ _)); exact BK126.out) hb); have n3_ := Aside0.mk (below_step (by repeat (first | (with_reducible first | exact HB.out | apply below_alloc | apply pw_below_drewN | apply below_drew1 | refine below_set ?_ GE125.out | refine below_set ?_ GE126.out) | exact HB.out)) hb); clear BK125; clear BK126; clear HB; have HO129 := n0_; have BK125 := n1_; have BK126 := n2_; have HB := n3_; clear n0_ n1_ n2_ n3_; (try clear hb); (try clear hb2); (try clear hk); (try clear hi); (try clear ho0)))
  go_loopg [5] k (fun kq v5 w' => ∃ (x5_1 : Int) (x127000_1 : Int) (x127001_1 : Bool), v5 = .int .i64 x5_1 ∧ Aside0 (ostlerref10_Parse.l0 kq t127 x5_1 x127000_1 x127001_1 = some (r1, r2)) ∧ Aside0 (kq ≤ k) ∧ Aside0 (Kd.R Kd.string 9 w' w.heap.size (fun _ => True) v128 t127) ∧ Aside0 (w'.heap[gb125]? = some (.cells #[.int .i64 0, .bool false] 24 (0, 0))) ∧ Aside0 (w'.heap[gb126]? = some (.cells #[.int .i64 x127000_1, .bool x127001_1] 24 (0, 0))) ∧ Aside0 (Below w.heap.size w w'))
  case atStart => exact ⟨(0), (3), (false), (by first | rfl | (simp; done) | (simp [*]; done) | (simp [bne_nil_]; done) | (simp only [ByteArray.size_append, Int.natCast_add]; rfl)), H', ⟨Nat.le_refl _⟩, ⟨by (with_reducible repeat (first | apply Kd.R_alloc | apply Kd.R_drewN | apply Kd.R_drew)); exact HO129.out⟩, ⟨by (with_reducible repeat (first | refine blk_drewN ?_ _ | refine blk_drew ?_ | refine blk_alloc ?_ _)); exact BK125.out⟩, ⟨by (with_reducible repeat (first | refine blk_drewN ?_ _ | refine blk_drew ?_ | refine blk_alloc ?_ _)); exact BK126.out⟩, ⟨by repeat (first | (with_reducible first | exact HB.out | apply below_alloc | apply pw_below_drewN | apply below_drew1 | refine below_set ?_ GE125.out | refine below_set ?_ GE126.out) | exact HB.out)⟩⟩
  case round =>
    clear H'
    try clear c1
    try clear c2
    try clear p2
    try clear c5
    try clear hcz6_0
    try clear hcz6_1
    try clear hfz6_0
    try clear hfz6_1
    obtain ⟨x5_1, x127000_1, x127001_1, rfl, HA, HK1, HO_4, BK125, BK126, HB⟩ := hrel
    cases gk with
    | zero => exact absurd HA.out (by simp [ostlerref10_Parse.l0])
    | succ k1 =>
      have H := HA.out
      clear HA
      simp only [ostlerref10_Parse.l0] at H
      by_cases c8 : x5_1 < (t127.length : Int)
      · rw [if_pos c8] at H
        have c8b0 : decide (x5_1 < (t127.length : Int)) = true := decide_eq_true c8
        clear c8
        by_cases c9 : 0 ≤ x5_1
        · rw [if_pos c9] at H
          have c9b0 : decide (0 ≤ x5_1) = true := decide_eq_true c9
          clear c9
          have H' := Aside0.mk H
          clear H
          obtain ⟨Ao10, co10, eo10⟩ := Kd.R_slice HO_4.out
          subst eo10
          have p130 : 0 ≤ (x5_1 : Int) := of_decide_eq_true (by first | (with_reducible assumption) | assumption)
          have q130 : x5_1 < (t127.length : Int) := of_decide_eq_true (by first | (with_reducible assumption) | assumption)
          obtain ⟨ad130, e130, hx130_0⟩ := Kd.at_string (Kd.R_reads' HO_4.out).2.2 x5_1 p130 q130
          cases e130
          replace p130 := eq_true p130
          replace q130 := eq_true q130
          go_wp2
          go_loopg [6, 7] k1 (fun kq v6 v7 w' => ∃ (x6_2 : ByteArray) (x7_2 : Int), v6 = .string x6_2 ∧ v7 = .int .i64 x7_2 ∧ Aside0 (ostlerref10_Parse.l1 kq t127 x5_1 x6_2 x7_2 x127000_1 x127001_1 = some (r1, r2)) ∧ Aside0 (kq ≤ k1) ∧ Aside0 (Kd.R Kd.string 9 w' w.heap.size (fun _ => True) (.slice (some ad130) t127.length co10) t127) ∧ Aside0 (w'.heap[gb125]? = some (.cells #[.int .i64 0, .bool false] 24 (0, 0))) ∧ Aside0 (w'.heap[gb126]? = some (.cells #[.int .i64 x127000_1, .bool x127001_1] 24 (0, 0))) ∧ Aside0 (Below w.heap.size w w'))
          case atStart => exact ⟨(rdOf ByteArray.empty t127 x5_1), (0), (by first | rfl | (simp; done) | (simp [*]; done) | (simp [bne_nil_]; done) | (simp only [ByteArray.size_append, Int.natCast_add]; rfl)), (by first | rfl | (simp; done) | (simp [*]; done) | (simp [bne_nil_]; done) | (simp only [ByteArray.size_append, Int.natCast_add]; rfl)), H', ⟨Nat.le_refl _⟩, ⟨by (with_reducible repeat (first | apply Kd.R_alloc | apply Kd.R_drewN | apply Kd.R_drew)); exact HO_4.out⟩, ⟨by (with_reducible repeat (first | refine blk_drewN ?_ _ | refine blk_drew ?_ | refine blk_alloc ?_ _)); exact BK125.out⟩, ⟨by (with_reducible repeat (first | refine blk_drewN ?_ _ | refine blk_drew ?_ | refine blk_alloc ?_ _)); exact BK126.out⟩, ⟨by repeat (first | (with_reducible first | exact HB.out | apply below_alloc | apply pw_below_drewN | apply below_drew1 | refine below_set ?_ GE125.out | refine below_set ?_ GE126.out) | exact HB.out)⟩⟩
          case round =>
            clear H'
            try clear c1
            try clear p1
            try clear q1
            try clear hx1
            try clear c2
            try clear p2
            try clear c5
            try clear c8
            try clear c8b0
            try clear c9
            try clear c9b0
            try clear hcz6_0
            try clear hcz6_1
            try clear hfz6_0
            try clear hfz6_1
            try clear hx130_0
            try clear p130
            try clear p2
            try clear q130
            obtain ⟨x6_2, x7_2, rfl, rfl, HA, HK2, HO_4, BK125, BK126, HB⟩ := hrel
            cases gk with
            | zero => exact absurd HA.out (by simp [ostlerref10_Parse.l1])
            | succ k2 =>
              have H := HA.out
              clear HA
              simp only [ostlerref10_Parse.l1] at H
              by_cases c11 : x7_2 < (x6_2.size : Int)
              · rw [if_pos c11] at H
                have c11b0 : decide (x7_2 < (x6_2.size : Int)) = true := decide_eq_true c11
                clear c11
                by_cases c12 : 0 ≤ x7_2
                · rw [if_pos c12] at H
                  have c12b0 : decide (0 ≤ x7_2) = true := decide_eq_true c12
                  clear c12
                  by_cases c14 : (bt x6_2 x7_2) = 59
                  · rw [if_pos c14] at H
                    have c14b0 : ((bt x6_2 x7_2) == 59) = true := beq_iff_eq.mpr c14
                    have c14b1 : ((bt x6_2 x7_2) != 59) = false := bne_eq_false_iff_eq.mpr c14
                    clear c14
                    have c15b0 := eq_true (of_decide_eq_true (by first | (with_reducible assumption) | assumption) : 0 ≤ x7_2)
                    by_cases c16 : x7_2 ≤ (x6_2.size : Int)
                    · rw [if_pos c16] at H
                      have c16b0 := eq_true c16
                      have c16b1 : decide (x7_2 ≤ (x6_2.size : Int)) = true := decide_eq_true c16
                      clear c16
                      have H' := Aside0.mk H
                      clear H
                      have p13 : 0 ≤ (x7_2 : Int) := of_decide_eq_true (by first | (with_reducible assumption) | assumption)
                      have q13 : x7_2 < (x6_2.size : Int) := of_decide_eq_true (by first | (with_reducible assumption) | assumption)
                      have hx13 := bt_at x6_2 x7_2
                      replace p13 := eq_true p13
                      replace q13 := eq_true q13
                      go_wp2
                      go_roundg k2
                      case measure => have := HK1.out; have := HK2.out; omega
                      case rel => exact ⟨(x6_2.extract 0 (x7_2 : Int).toNat), (wrap64 (x7_2 + 1)), (by first | rfl | (simp; done) | (simp [*]; done) | (simp [bne_nil_]; done) | (simp only [ByteArray.size_append, Int.natCast_add]; rfl)), (by first | rfl | (simp; done) | (simp [*]; done) | (simp [bne_nil_]; done) | (simp only [ByteArray.size_append, Int.natCast_add]; rfl)), H', ⟨by have := HK1.out; have := HK2.out; omega⟩, ⟨by (with_reducible repeat (first | apply Kd.R_alloc | apply Kd.R_drewN | apply Kd.R_drew)); exact HO_4.out⟩, ⟨by (with_reducible repeat (first | refine blk_drewN ?_ _ | refine blk_drew ?_ | refine blk_alloc ?_ _)); exact BK125.out⟩, ⟨by (with_reducible repeat (first | refine blk_drewN ?_ _ | refine blk_drew ?_ | refine blk_alloc ?_ _)); exact BK126.out⟩, ⟨by repeat (first | (with_reducible first | exact HB.out | apply below_alloc | apply pw_below_drewN | apply below_drew1 | refine below_set ?_ GE125.out | refine below_set ?_ GE126.out) | exact HB.out)⟩⟩
                    · rw [if_neg c16] at H
                      exact absurd H (by simp)
                  · rw [if_neg c14] at H
                    have c14b0 : ((bt x6_2 x7_2) == 59) = false := beq_eq_false_iff_ne.mpr c14
                    have c14b1 : ((bt x6_2 x7_2) != 59) = true := bne_iff_ne.mpr c14
                    have H' := Aside0.mk H
                    clear H
                    have p13 : 0 ≤ (x7_2 : Int) := of_decide_eq_true (by first | (with_reducible assumption) | assumption)
                    have q13 : x7_2 < (x6_2.size : Int) := of_decide_eq_true (by first | (with_reducible assumption) | assumption)
                    have hx13 := bt_at x6_2 x7_2
                    replace p13 := eq_true p13
                    replace q13 := eq_true q13
                    go_wp2
                    go_roundg k2
                    case measure => have := HK1.out; have := HK2.out; omega
                    case rel => exact ⟨(x6_2), (wrap64 (x7_2 + 1)), (by first | rfl | (simp; done) | (simp [*]; done) | (simp [bne_nil_]; done) | (simp only [ByteArray.size_append, Int.natCast_add]; rfl)), (by first | rfl | (simp; done) | (simp [*]; done) | (simp [bne_nil_]; done) | (simp only [ByteArray.size_append, Int.natCast_add]; rfl)), H', ⟨by have := HK1.out; have := HK2.out; omega⟩, ⟨by (with_reducible repeat (first | apply Kd.R_alloc | apply Kd.R_drewN | apply Kd.R_drew)); exact HO_4.out⟩, ⟨by (with_reducible repeat (first | refine blk_drewN ?_ _ | refine blk_drew ?_ | refine blk_alloc ?_ _)); exact BK125.out⟩, ⟨by (with_reducible repeat (first | refine blk_drewN ?_ _ | refine blk_drew ?_ | refine blk_alloc ?_ _)); exact BK126.out⟩, ⟨by repeat (first | (with_reducible first | exact HB.out | apply below_alloc | apply pw_below_drewN | apply below_drew1 | refine below_set ?_ GE125.out | refine below_set ?_ GE126.out) | exact HB.out)⟩⟩
                · rw [if_neg c12] at H
                  exact absurd H (by simp)
              · rw [if_neg c11] at H
                have c11b0 : decide (x7_2 < (x6_2.size : Int)) = false := decide_eq_false c11
                clear c11
                replace H := Option.bind_eq_some_iff.mp H
                obtain ⟨t131, A170, H⟩ := H
                replace H : (if t131.toList = ([105] : List UInt8) then (ostlerref10_Parse.j2 k2 t127 x5_1 t131 t131 (t131.toList == ([105] : List UInt8)) x127000_1 x127001_1) else (ostlerref10_Parse.j2 k2 t127 x5_1 t131 t131 (t131.toList == ([105, 61, 63, 49] : List UInt8)) x127000_1 x127001_1)) = some (r1, r2) := H
                have A17 := Aside0.mk A170
                clear A170
                have HC18 := Aside0.mk H
                clear H
                go_upto_if 37 with (first | ((with_reducible refine gate_callee (f := 28) rfl ?_); refine goesL_ (some 35) rfl rfl Tryd.func28 (by kernel_rfl) rfl #[.string x6_2] rfl (by (try simp only [List.map_toArray, List.map_cons, List.map_nil]); first | done | rfl | (simp only [List.length_drop, List.length_take]; rfl)) ?_; (with_reducible refine (ostlerref01_Trim.calls k2 x6_2 t131 _ A17.out).mono ?_); rintro e w' ⟨rfl, ⟨nd, rfl⟩⟩; refine ⟨_, rfl, ?_⟩))
                (try simp only [Act.put, List.setIfInBounds_toArray, List.set_cons_zero, List.set_cons_succ])
                go_cut [37] (fun v37 wc => ∃ (kq : Nat) (x37_17 : Bool), v37 = .bool x37_17 ∧ Aside0 (ostlerref10_Parse.j2 kq t127 x5_1 t131 t131 x37_17 x127000_1 x127001_1 = some (r1, r2)) ∧ Aside0 (kq ≤ k2) ∧ Aside0 (Kd.R Kd.string 9 wc w.heap.size (fun _ => True) (.slice (some ad130) t127.length co10) t127) ∧ Aside0 (wc.heap[gb125]? = some (.cells #[.int .i64 0, .bool false] 24 (0, 0))) ∧ Aside0 (wc.heap[gb126]? = some (.cells #[.int .i64 x127000_1, .bool x127001_1] 24 (0, 0))) ∧ Aside0 (Below w.heap.size w wc))
                case first =>
                  have H := HC18.out
                  clear HC18
                  by_cases c19 : t131.toList = ([105] : List UInt8)
                  · rw [if_pos c19] at H
                    have c19b0 : (t131.toList == ([105] : List UInt8)) = true := beq_iff_eq.mpr c19
                    have c19b1 : (t131.toList != ([105] : List UInt8)) = false := bne_eq_false_iff_eq.mpr c19
                    clear c19
                    (first | rw [c19b0] | (simp only [i64_w, i32_w]; rw [c19b0]) | skip)
                    have H' := Aside0.mk H
                    clear H
                    go_wp2
                    go_meet
                    case rel => exact ⟨_, ((t131.toList == ([105] : List UInt8))), (by first | rfl | (simp; done) | (simp [*]; done) | (simp [bne_nil_]; done) | (simp only [ByteArray.size_append, Int.natCast_add]; rfl)), H', ⟨by have := HK1.out; have := HK2.out; first | omega | exact Nat.le_refl _⟩, ⟨by (with_reducible repeat (first | apply Kd.R_alloc | apply Kd.R_drewN | apply Kd.R_drew)); exact HO_4.out⟩, ⟨by (with_reducible repeat (first | refine blk_drewN ?_ _ | refine blk_drew ?_ | refine blk_alloc ?_ _)); exact BK125.out⟩, ⟨by (with_reducible repeat (first | refine blk_drewN ?_ _ | refine blk_drew ?_ | refine blk_alloc ?_ _)); exact BK126.out⟩, ⟨by repeat (first | (with_reducible first | exact HB.out | apply below_alloc | apply pw_below_drewN | apply below_drew1 | refine below_set ?_ GE125.out | refine below_set ?_ GE126.out) | exact HB.out)⟩⟩
                  · rw [if_neg c19] at H
                    have c19b0 : (t131.toList == ([105] : List UInt8)) = false := beq_eq_false_iff_ne.mpr c19
                    have c19b1 : (t131.toList != ([105] : List UInt8)) = true := bne_iff_ne.mpr c19
                    (first | rw [c19b0] | (simp only [i64_w, i32_w]; rw [c19b0]) | skip)
                    have H' := Aside0.mk H
                    clear H
                    go_wp2
                    go_meet
                    case rel => exact ⟨_, ((t131.toList == ([105, 61, 63, 49] : List UInt8))), (by first | rfl | (simp; done) | (simp [*]; done) | (simp [bne_nil_]; done) | (simp only [ByteArray.size_append, Int.natCast_add]; rfl)), H', ⟨by have := HK1.out; have := HK2.out; first | omega | exact Nat.le_refl _⟩, ⟨by (with_reducible repeat (first | apply Kd.R_alloc | apply Kd.R_drewN | apply Kd.R_drew)); exact HO_4.out⟩, ⟨by (with_reducible repeat (first | refine blk_drewN ?_ _ | refine blk_drew ?_ | refine blk_alloc ?_ _)); exact BK125.out⟩, ⟨by (with_reducible repeat (first | refine blk_drewN ?_ _ | refine blk_drew ?_ | refine blk_alloc ?_ _)); exact BK126.out⟩, ⟨by repeat (first | (with_reducible first | exact HB.out | apply below_alloc | apply pw_below_drewN | apply below_drew1 | refine below_set ?_ GE125.out | refine below_set ?_ GE126.out) | exact HB.out)⟩⟩
                case rest =>
                  clear HC18
                  try clear c1
                  try clear p1
                  try clear q1
                  try clear hx1
                  try clear c2
                  try clear p2
                  try clear c5
                  try clear p6
                  try clear c8
                  try clear c8b0
                  try clear c9
                  try clear c9b0
                  try clear c11
                  try clear c11b0
                  try clear c12
                  try clear c12b0
                  try clear p13
                  try clear q13
                  try clear hx13
                  try clear c14
                  try clear c14b0
                  try clear c14b1
                  try clear c15
                  try clear c15b0
                  try clear c16
                  try clear c16b0
                  try clear c16b1
                  try clear c19
                  try clear c19b0
                  try clear c19b1
                  try clear hcz6_0
                  try clear hcz6_1
                  try clear hfz6_0
                  try clear hfz6_1
                  try clear hx130_0
                  try clear p1
                  try clear p13
                  try clear p130
                  try clear p2
                  try clear q1
                  try clear q13
                  try clear q130
                  obtain ⟨kq, x37_17, rfl, HA, HJ17, HO_4, BK125, BK126, HB⟩ := hcut
                  cases kq with
                  | zero => exact absurd HA.out (by simp [ostlerref10_Parse.j2])
                  | succ kj17 =>
                    have H := HA.out
                    clear HA
                    simp only [ostlerref10_Parse.j2] at H
                    by_cases c20 : x37_17 = true
                    · subst c20
                      have H1 : (ostlerref10_Parse.l0 kj17 t127 (wrap64 (x5_1 + 1)) x127000_1 true) = some (r1, r2) := by rw [if_pos rfl] at H; exact H
                      clear H
                      have H := H1
                      clear H1
                      have H' := Aside0.mk H
                      clear H
                      have hnb21 := NB126_125.out
                      have hnc21 := NB125_126.out
                      have hcz22_0 : wc.cell? ⟨gb126, 0, none⟩ = some (.int .i64 x127000_1) := (blk_cell BK126.out 0).trans rfl
                      have hcz22_1 : wc.cell? ⟨gb126, 1, none⟩ = some (.bool x127001_1) := (blk_cell BK126.out 1).trans rfl
                      have hfz22_0 := blk_frozen BK126.out 0
                      have hfz22_1 := blk_frozen BK126.out 1
                      go_wp2
                      go_roundg kj17
                      case measure => have := HK1.out; have := HK2.out; have := HJ17.out; omega
                      case rel => exact ⟨(wrap64 (x5_1 + 1)), (x127000_1), (true), (by first | rfl | (simp; done) | (simp [*]; done) | (simp [bne_nil_]; done) | (simp only [ByteArray.size_append, Int.natCast_add]; rfl)), H', ⟨by have := HK1.out; have := HK2.out; have := HJ17.out; omega⟩, ⟨by (with_reducible repeat (first | apply Kd.R_alloc | apply Kd.R_drewN | apply Kd.R_drew)); exact Kd.R_mono (Kd.R_far (p := ⟨gb126, 1, none⟩) (Kd.R_types HO_4.out BK126.out (by decide)) (fun _ hk => hk.2) (.bool true)) (fun _ hk => trivial)⟩, ⟨by (with_reducible repeat (first | refine blk_drewN ?_ _ | refine blk_drew ?_ | refine blk_alloc ?_ _)); refine blk_far ?_ NB125_126.out _; (with_reducible repeat (first | refine blk_drewN ?_ _ | refine blk_drew ?_ | refine blk_alloc ?_ _)); exact BK125.out⟩, ⟨by (with_reducible repeat (first | refine blk_drewN ?_ _ | refine blk_drew ?_ | refine blk_alloc ?_ _)); refine blk_put (cs := #[.int .i64 x127000_1, .bool x127001_1]) ?_ 1 _ rfl; (with_reducible repeat (first | refine blk_drewN ?_ _ | refine blk_drew ?_ | refine blk_alloc ?_ _)); exact BK126.out⟩, ⟨by repeat (first | (with_reducible first | exact HB.out | apply below_alloc | apply pw_below_drewN | apply below_drew1 | refine below_set ?_ GE125.out | refine below_set ?_ GE126.out) | exact HB.out)⟩⟩
                    · replace c20 := Bool.eq_false_iff.mpr c20
                      subst c20
                      have H1 : (if t131.toList = ([105, 61, 63, 48] : List UInt8) then (ostlerref10_Parse.l0 kj17 t127 (wrap64 (x5_1 + 1)) x127000_1 false) else (if t131.toList = ([117, 61, 48] : List UInt8) then (if 2 < (t131.size : Int) then (ostlerref10_Parse.l0 kj17 t127 (wrap64 (x5_1 + 1)) (((bt t131 2) - 48) % 256) x127001_1) else (none)) else (if t131.toList = ([117, 61, 49] : List UInt8) then (if 2 < (t131.size : Int) then (ostlerref10_Parse.l0 kj17 t127 (wrap64 (x5_1 + 1)) (((bt t131 2) - 48) % 256) x127001_1) else (none)) else (if t131.toList = ([117, 61, 50] : List UInt8) then (if 2 < (t131.size : Int) then (ostlerref10_Parse.l0 kj17 t127 (wrap64 (x5_1 + 1)) (((bt t131 2) - 48) % 256) x127001_1) else (none)) else (if t131.toList = ([117, 61, 51] : List UInt8) then (if 2 < (t131.size : Int) then (ostlerref10_Parse.l0 kj17 t127 (wrap64 (x5_1 + 1)) (((bt t131 2) - 48) % 256) x127001_1) else (none)) else (if t131.toList = ([117, 61, 52] : List UInt8) then (if 2 < (t131.size : Int) then (ostlerref10_Parse.l0 kj17 t127 (wrap64 (x5_1 + 1)) (((bt t131 2) - 48) % 256) x127001_1) else (none)) else (if t131.toList = ([117, 61, 53] : List UInt8) then (if 2 < (t131.size : Int) then (ostlerref10_Parse.l0 kj17 t127 (wrap64 (x5_1 + 1)) (((bt t131 2) - 48) % 256) x127001_1) else (none)) else (if t131.toList = ([117, 61, 54] : List UInt8) then (if 2 < (t131.size : Int) then (ostlerref10_Parse.l0 kj17 t127 (wrap64 (x5_1 + 1)) (((bt t131 2) - 48) % 256) x127001_1) else (none)) else (if t131.toList = ([117, 61, 55] : List UInt8) then (if 2 < (t131.size : Int) then (ostlerref10_Parse.l0 kj17 t127 (wrap64 (x5_1 + 1)) (((bt t131 2) - 48) % 256) x127001_1) else (none)) else (ostlerref10_Parse.l0 kj17 t127 (wrap64 (x5_1 + 1)) x127000_1 x127001_1)))))))))) = some (r1, r2) := by rw [if_neg (show ¬ (false = true) by decide)] at H; exact H
                      clear H
                      have H := H1
                      clear H1
                      by_cases c23 : t131.toList = ([105, 61, 63, 48] : List UInt8)
                      · rw [if_pos c23] at H
                        have c23b0 : (t131.toList == ([105, 61, 63, 48] : List UInt8)) = true := beq_iff_eq.mpr c23
                        have c23b1 : (t131.toList != ([105, 61, 63, 48] : List UInt8)) = false := bne_eq_false_iff_eq.mpr c23
                        clear c23
                        have H' := Aside0.mk H
                        clear H
                        have hnb24 := NB126_125.out
                        have hnc24 := NB125_126.out
                        have hcz25_0 : wc.cell? ⟨gb126, 0, none⟩ = some (.int .i64 x127000_1) := (blk_cell BK126.out 0).trans rfl
                        have hcz25_1 : wc.cell? ⟨gb126, 1, none⟩ = some (.bool x127001_1) := (blk_cell BK126.out 1).trans rfl
                        have hfz25_0 := blk_frozen BK126.out 0
                        have hfz25_1 := blk_frozen BK126.out 1
                        go_wp2
                        go_roundg kj17
                        case measure => have := HK1.out; have := HK2.out; have := HJ17.out; omega
                        case rel => exact ⟨(wrap64 (x5_1 + 1)), (x127000_1), (false), (by first | rfl | (simp; done) | (simp [*]; done) | (simp [bne_nil_]; done) | (simp only [ByteArray.size_append, Int.natCast_add]; rfl)), H', ⟨by have := HK1.out; have := HK2.out; have := HJ17.out; omega⟩, ⟨by (with_reducible repeat (first | apply Kd.R_alloc | apply Kd.R_drewN | apply Kd.R_drew)); exact Kd.R_mono (Kd.R_far (p := ⟨gb126, 1, none⟩) (Kd.R_types HO_4.out BK126.out (by decide)) (fun _ hk => hk.2) (.bool false)) (fun _ hk => trivial)⟩, ⟨by (with_reducible repeat (first | refine blk_drewN ?_ _ | refine blk_drew ?_ | refine blk_alloc ?_ _)); refine blk_far ?_ NB125_126.out _; (with_reducible repeat (first | refine blk_drewN ?_ _ | refine blk_drew ?_ | refine blk_alloc ?_ _)); exact BK125.out⟩, ⟨by (with_reducible repeat (first | refine blk_drewN ?_ _ | refine blk_drew ?_ | refine blk_alloc ?_ _)); refine blk_put (cs := #[.int .i64 x127000_1, .bool x127001_1]) ?_ 1 _ rfl; (with_reducible repeat (first | refine blk_drewN ?_ _ | refine blk_drew ?_ | refine blk_alloc ?_ _)); exact BK126.out⟩, ⟨by repeat (first | (with_reducible first | exact HB.out | apply below_alloc | apply pw_below_drewN | apply below_drew1 | refine below_set ?_ GE125.out | refine below_set ?_ GE126.out) | exact HB.out)⟩⟩
                      · rw [if_neg c23] at H
                        have c23b0 : (t131.toList == ([105, 61, 63, 48] : List UInt8)) = false := beq_eq_false_iff_ne.mpr c23
                        have c23b1 : (t131.toList != ([105, 61, 63, 48] : List UInt8)) = true := bne_iff_ne.mpr c23
                        by_cases c26 : t131.toList = ([117, 61, 48] : List UInt8)
                        · rw [if_pos c26] at H
                          have c26b0 : (t131.toList == ([117, 61, 48] : List UInt8)) = true := beq_iff_eq.mpr c26
                          have c26b1 : (t131.toList != ([117, 61, 48] : List UInt8)) = false := bne_eq_false_iff_eq.mpr c26
                          clear c26
                          by_cases c27 : 2 < (t131.size : Int)
                          · rw [if_pos c27] at H
                            have c27b0 : decide (2 < (t131.size : Int)) = true := decide_eq_true c27
                            have c27b1 : decide (2 < t131.size) = true := decide_eq_true (by omega)
                            clear c27
                            have H' := Aside0.mk H
                            clear H
                            have p28 : 0 ≤ (2 : Int) := (by omega)
                            have q28 : 2 < t131.size := (by have : (2 : Int) < (t131.size : Int) := of_decide_eq_true (by first | (with_reducible assumption) | assumption); omega)
                            have hx28 : ∀ h : 2 < t131.size, ((t131[2]'h).toNat : Int) = bt t131 2 := bt_at t131 2
                            clear p28
                            have qi28 : (2 < (t131.size : Int)) = True := eq_true (of_decide_eq_true (by first | (with_reducible assumption) | assumption))
                            replace q28 := eq_true q28
                            have hnb29 := NB126_125.out
                            have hnc29 := NB125_126.out
                            have hcz30_0 : wc.cell? ⟨gb126, 0, none⟩ = some (.int .i64 x127000_1) := (blk_cell BK126.out 0).trans rfl
                            have hcz30_1 : wc.cell? ⟨gb126, 1, none⟩ = some (.bool x127001_1) := (blk_cell BK126.out 1).trans rfl
                            have hfz30_0 := blk_frozen BK126.out 0
                            have hfz30_1 := blk_frozen BK126.out 1
                            go_wp2
                            go_roundg kj17
                            case measure => have := HK1.out; have := HK2.out; have := HJ17.out; omega
                            case rel => exact ⟨(wrap64 (x5_1 + 1)), (((bt t131 2) - 48) % 256), (x127001_1), (by first | rfl | (simp; done) | (simp [*]; done) | (simp [bne_nil_]; done) | (simp only [ByteArray.size_append, Int.natCast_add]; rfl)), H', ⟨by have := HK1.out; have := HK2.out; have := HJ17.out; omega⟩, ⟨by (with_reducible repeat (first | apply Kd.R_alloc | apply Kd.R_drewN | apply Kd.R_drew)); exact Kd.R_mono (Kd.R_far (p := ⟨gb126, 0, none⟩) (Kd.R_types HO_4.out BK126.out (by decide)) (fun _ hk => hk.2) (.int .i64 (((bt t131 2) - 48) % 256))) (fun _ hk => trivial)⟩, ⟨by (with_reducible repeat (first | refine blk_drewN ?_ _ | refine blk_drew ?_ | refine blk_alloc ?_ _)); refine blk_far ?_ NB125_126.out _; (with_reducible repeat (first | refine blk_drewN ?_ _ | refine blk_drew ?_ | refine blk_alloc ?_ _)); exact BK125.out⟩, ⟨by (with_reducible repeat (first | refine blk_drewN ?_ _ | refine blk_drew ?_ | refine blk_alloc ?_ _)); refine blk_put (cs := #[.int .i64 x127000_1, .bool x127001_1]) ?_ 0 _ rfl; (with_reducible repeat (first | refine blk_drewN ?_ _ | refine blk_drew ?_ | refine blk_alloc ?_ _)); exact BK126.out⟩, ⟨by repeat (first | (with_reducible first | exact HB.out | apply below_alloc | apply pw_below_drewN | apply below_drew1 | refine below_set ?_ GE125.out | refine below_set ?_ GE126.out) | exact HB.out)⟩⟩
                          · rw [if_neg c27] at H
                            exact absurd H (by simp)
                        · rw [if_neg c26] at H
                          have c26b0 : (t131.toList == ([117, 61, 48] : List UInt8)) = false := beq_eq_false_iff_ne.mpr c26
                          have c26b1 : (t131.toList != ([117, 61, 48] : List UInt8)) = true := bne_iff_ne.mpr c26
                          by_cases c31 : t131.toList = ([117, 61, 49] : List UInt8)
                          · rw [if_pos c31] at H
                            have c31b0 : (t131.toList == ([117, 61, 49] : List UInt8)) = true := beq_iff_eq.mpr c31
                            have c31b1 : (t131.toList != ([117, 61, 49] : List UInt8)) = false := bne_eq_false_iff_eq.mpr c31
                            clear c31
                            by_cases c32 : 2 < (t131.size : Int)
                            · rw [if_pos c32] at H
                              have c32b0 : decide (2 < (t131.size : Int)) = true := decide_eq_true c32
                              have c32b1 : decide (2 < t131.size) = true := decide_eq_true (by omega)
                              clear c32
                              have H' := Aside0.mk H
                              clear H
                              have p33 : 0 ≤ (2 : Int) := (by omega)
                              have q33 : 2 < t131.size := (by have : (2 : Int) < (t131.size : Int) := of_decide_eq_true (by first | (with_reducible assumption) | assumption); omega)
                              have hx33 : ∀ h : 2 < t131.size, ((t131[2]'h).toNat : Int) = bt t131 2 := bt_at t131 2
                              clear p33
                              have qi33 : (2 < (t131.size : Int)) = True := eq_true (of_decide_eq_true (by first | (with_reducible assumption) | assumption))
                              replace q33 := eq_true q33
                              have hnb34 := NB126_125.out
                              have hnc34 := NB125_126.out
                              have hcz35_0 : wc.cell? ⟨gb126, 0, none⟩ = some (.int .i64 x127000_1) := (blk_cell BK126.out 0).trans rfl
                              have hcz35_1 : wc.cell? ⟨gb126, 1, none⟩ = some (.bool x127001_1) := (blk_cell BK126.out 1).trans rfl
                              have hfz35_0 := blk_frozen BK126.out 0
                              have hfz35_1 := blk_frozen BK126.out 1
                              go_wp2
                              go_roundg kj17
                              case measure => have := HK1.out; have := HK2.out; have := HJ17.out; omega
                              case rel => exact ⟨(wrap64 (x5_1 + 1)), (((bt t131 2) - 48) % 256), (x127001_1), (by first | rfl | (simp; done) | (simp [*]; done) | (simp [bne_nil_]; done) | (simp only [ByteArray.size_append, Int.natCast_add]; rfl)), H', ⟨by have := HK1.out; have := HK2.out; have := HJ17.out; omega⟩, ⟨by (with_reducible repeat (first | apply Kd.R_alloc | apply Kd.R_drewN | apply Kd.R_drew)); exact Kd.R_mono (Kd.R_far (p := ⟨gb126, 0, none⟩) (Kd.R_types HO_4.out BK126.out (by decide)) (fun _ hk => hk.2) (.int .i64 (((bt t131 2) - 48) % 256))) (fun _ hk => trivial)⟩, ⟨by (with_reducible repeat (first | refine blk_drewN ?_ _ | refine blk_drew ?_ | refine blk_alloc ?_ _)); refine blk_far ?_ NB125_126.out _; (with_reducible repeat (first | refine blk_drewN ?_ _ | refine blk_drew ?_ | refine blk_alloc ?_ _)); exact BK125.out⟩, ⟨by (with_reducible repeat (first | refine blk_drewN ?_ _ | refine blk_drew ?_ | refine blk_alloc ?_ _)); refine blk_put (cs := #[.int .i64 x127000_1, .bool x127001_1]) ?_ 0 _ rfl; (with_reducible repeat (first | refine blk_drewN ?_ _ | refine blk_drew ?_ | refine blk_alloc ?_ _)); exact BK126.out⟩, ⟨by repeat (first | (with_reducible first | exact HB.out | apply below_alloc | apply pw_below_drewN | apply below_drew1 | refine below_set ?_ GE125.out | refine below_set ?_ GE126.out) | exact HB.out)⟩⟩
                            · rw [if_neg c32] at H
                              exact absurd H (by simp)
                          · rw [if_neg c31] at H
                            have c31b0 : (t131.toList == ([117, 61, 49] : List UInt8)) = false := beq_eq_false_iff_ne.mpr c31
                            have c31b1 : (t131.toList != ([117, 61, 49] : List UInt8)) = true := bne_iff_ne.mpr c31
                            by_cases c36 : t131.toList = ([117, 61, 50] : List UInt8)
                            · rw [if_pos c36] at H
                              have c36b0 : (t131.toList == ([117, 61, 50] : List UInt8)) = true := beq_iff_eq.mpr c36
                              have c36b1 : (t131.toList != ([117, 61, 50] : List UInt8)) = false := bne_eq_false_iff_eq.mpr c36
                              clear c36
                              by_cases c37 : 2 < (t131.size : Int)
                              · rw [if_pos c37] at H
                                have c37b0 : decide (2 < (t131.size : Int)) = true := decide_eq_true c37
                                have c37b1 : decide (2 < t131.size) = true := decide_eq_true (by omega)
                                clear c37
                                have H' := Aside0.mk H
                                clear H
                                have p38 : 0 ≤ (2 : Int) := (by omega)
                                have q38 : 2 < t131.size := (by have : (2 : Int) < (t131.size : Int) := of_decide_eq_true (by first | (with_reducible assumption) | assumption); omega)
                                have hx38 : ∀ h : 2 < t131.size, ((t131[2]'h).toNat : Int) = bt t131 2 := bt_at t131 2
                                clear p38
                                have qi38 : (2 < (t131.size : Int)) = True := eq_true (of_decide_eq_true (by first | (with_reducible assumption) | assumption))
                                replace q38 := eq_true q38
                                have hnb39 := NB126_125.out
                                have hnc39 := NB125_126.out
                                have hcz40_0 : wc.cell? ⟨gb126, 0, none⟩ = some (.int .i64 x127000_1) := (blk_cell BK126.out 0).trans rfl
                                have hcz40_1 : wc.cell? ⟨gb126, 1, none⟩ = some (.bool x127001_1) := (blk_cell BK126.out 1).trans rfl
                                have hfz40_0 := blk_frozen BK126.out 0
                                have hfz40_1 := blk_frozen BK126.out 1
                                go_wp2
                                go_roundg kj17
                                case measure => have := HK1.out; have := HK2.out; have := HJ17.out; omega
                                case rel => exact ⟨(wrap64 (x5_1 + 1)), (((bt t131 2) - 48) % 256), (x127001_1), (by first | rfl | (simp; done) | (simp [*]; done) | (simp [bne_nil_]; done) | (simp only [ByteArray.size_append, Int.natCast_add]; rfl)), H', ⟨by have := HK1.out; have := HK2.out; have := HJ17.out; omega⟩, ⟨by (with_reducible repeat (first | apply Kd.R_alloc | apply Kd.R_drewN | apply Kd.R_drew)); exact Kd.R_mono (Kd.R_far (p := ⟨gb126, 0, none⟩) (Kd.R_types HO_4.out BK126.out (by decide)) (fun _ hk => hk.2) (.int .i64 (((bt t131 2) - 48) % 256))) (fun _ hk => trivial)⟩, ⟨by (with_reducible repeat (first | refine blk_drewN ?_ _ | refine blk_drew ?_ | refine blk_alloc ?_ _)); refine blk_far ?_ NB125_126.out _; (with_reducible repeat (first | refine blk_drewN ?_ _ | refine blk_drew ?_ | refine blk_alloc ?_ _)); exact BK125.out⟩, ⟨by (with_reducible repeat (first | refine blk_drewN ?_ _ | refine blk_drew ?_ | refine blk_alloc ?_ _)); refine blk_put (cs := #[.int .i64 x127000_1, .bool x127001_1]) ?_ 0 _ rfl; (with_reducible repeat (first | refine blk_drewN ?_ _ | refine blk_drew ?_ | refine blk_alloc ?_ _)); exact BK126.out⟩, ⟨by repeat (first | (with_reducible first | exact HB.out | apply below_alloc | apply pw_below_drewN | apply below_drew1 | refine below_set ?_ GE125.out | refine below_set ?_ GE126.out) | exact HB.out)⟩⟩
                              · rw [if_neg c37] at H
                                exact absurd H (by simp)
                            · rw [if_neg c36] at H
                              have c36b0 : (t131.toList == ([117, 61, 50] : List UInt8)) = false := beq_eq_false_iff_ne.mpr c36
                              have c36b1 : (t131.toList != ([117, 61, 50] : List UInt8)) = true := bne_iff_ne.mpr c36
                              by_cases c41 : t131.toList = ([117, 61, 51] : List UInt8)
                              · rw [if_pos c41] at H
                                have c41b0 : (t131.toList == ([117, 61, 51] : List UInt8)) = true := beq_iff_eq.mpr c41
                                have c41b1 : (t131.toList != ([117, 61, 51] : List UInt8)) = false := bne_eq_false_iff_eq.mpr c41
                                clear c41
                                by_cases c42 : 2 < (t131.size : Int)
                                · rw [if_pos c42] at H
                                  have c42b0 : decide (2 < (t131.size : Int)) = true := decide_eq_true c42
                                  have c42b1 : decide (2 < t131.size) = true := decide_eq_true (by omega)
                                  clear c42
                                  have H' := Aside0.mk H
                                  clear H
                                  have p43 : 0 ≤ (2 : Int) := (by omega)
                                  have q43 : 2 < t131.size := (by have : (2 : Int) < (t131.size : Int) := of_decide_eq_true (by first | (with_reducible assumption) | assumption); omega)
                                  have hx43 : ∀ h : 2 < t131.size, ((t131[2]'h).toNat : Int) = bt t131 2 := bt_at t131 2
                                  clear p43
                                  have qi43 : (2 < (t131.size : Int)) = True := eq_true (of_decide_eq_true (by first | (with_reducible assumption) | assumption))
                                  replace q43 := eq_true q43
                                  have hnb44 := NB126_125.out
                                  have hnc44 := NB125_126.out
                                  have hcz45_0 : wc.cell? ⟨gb126, 0, none⟩ = some (.int .i64 x127000_1) := (blk_cell BK126.out 0).trans rfl
                                  have hcz45_1 : wc.cell? ⟨gb126, 1, none⟩ = some (.bool x127001_1) := (blk_cell BK126.out 1).trans rfl
                                  have hfz45_0 := blk_frozen BK126.out 0
                                  have hfz45_1 := blk_frozen BK126.out 1
                                  go_wp2
                                  go_roundg kj17
                                  case measure => have := HK1.out; have := HK2.out; have := HJ17.out; omega
                                  case rel => exact ⟨(wrap64 (x5_1 + 1)), (((bt t131 2) - 48) % 256), (x127001_1), (by first | rfl | (simp; done) | (simp [*]; done) | (simp [bne_nil_]; done) | (simp only [ByteArray.size_append, Int.natCast_add]; rfl)), H', ⟨by have := HK1.out; have := HK2.out; have := HJ17.out; omega⟩, ⟨by (with_reducible repeat (first | apply Kd.R_alloc | apply Kd.R_drewN | apply Kd.R_drew)); exact Kd.R_mono (Kd.R_far (p := ⟨gb126, 0, none⟩) (Kd.R_types HO_4.out BK126.out (by decide)) (fun _ hk => hk.2) (.int .i64 (((bt t131 2) - 48) % 256))) (fun _ hk => trivial)⟩, ⟨by (with_reducible repeat (first | refine blk_drewN ?_ _ | refine blk_drew ?_ | refine blk_alloc ?_ _)); refine blk_far ?_ NB125_126.out _; (with_reducible repeat (first | refine blk_drewN ?_ _ | refine blk_drew ?_ | refine blk_alloc ?_ _)); exact BK125.out⟩, ⟨by (with_reducible repeat (first | refine blk_drewN ?_ _ | refine blk_drew ?_ | refine blk_alloc ?_ _)); refine blk_put (cs := #[.int .i64 x127000_1, .bool x127001_1]) ?_ 0 _ rfl; (with_reducible repeat (first | refine blk_drewN ?_ _ | refine blk_drew ?_ | refine blk_alloc ?_ _)); exact BK126.out⟩, ⟨by repeat (first | (with_reducible first | exact HB.out | apply below_alloc | apply pw_below_drewN | apply below_drew1 | refine below_set ?_ GE125.out | refine below_set ?_ GE126.out) | exact HB.out)⟩⟩
                                · rw [if_neg c42] at H
                                  exact absurd H (by simp)
                              · rw [if_neg c41] at H
                                have c41b0 : (t131.toList == ([117, 61, 51] : List UInt8)) = false := beq_eq_false_iff_ne.mpr c41
                                have c41b1 : (t131.toList != ([117, 61, 51] : List UInt8)) = true := bne_iff_ne.mpr c41
                                by_cases c46 : t131.toList = ([117, 61, 52] : List UInt8)
                                · rw [if_pos c46] at H
                                  have c46b0 : (t131.toList == ([117, 61, 52] : List UInt8)) = true := beq_iff_eq.mpr c46
                                  have c46b1 : (t131.toList != ([117, 61, 52] : List UInt8)) = false := bne_eq_false_iff_eq.mpr c46
                                  clear c46
                                  by_cases c47 : 2 < (t131.size : Int)
                                  · rw [if_pos c47] at H
                                    have c47b0 : decide (2 < (t131.size : Int)) = true := decide_eq_true c47
                                    have c47b1 : decide (2 < t131.size) = true := decide_eq_true (by omega)
                                    clear c47
                                    have H' := Aside0.mk H
                                    clear H
                                    have p48 : 0 ≤ (2 : Int) := (by omega)
                                    have q48 : 2 < t131.size := (by have : (2 : Int) < (t131.size : Int) := of_decide_eq_true (by first | (with_reducible assumption) | assumption); omega)
                                    have hx48 : ∀ h : 2 < t131.size, ((t131[2]'h).toNat : Int) = bt t131 2 := bt_at t131 2
                                    clear p48
                                    have qi48 : (2 < (t131.size : Int)) = True := eq_true (of_decide_eq_true (by first | (with_reducible assumption) | assumption))
                                    replace q48 := eq_true q48
                                    have hnb49 := NB126_125.out
                                    have hnc49 := NB125_126.out
                                    have hcz50_0 : wc.cell? ⟨gb126, 0, none⟩ = some (.int .i64 x127000_1) := (blk_cell BK126.out 0).trans rfl
                                    have hcz50_1 : wc.cell? ⟨gb126, 1, none⟩ = some (.bool x127001_1) := (blk_cell BK126.out 1).trans rfl
                                    have hfz50_0 := blk_frozen BK126.out 0
                                    have hfz50_1 := blk_frozen BK126.out 1
                                    go_wp2
                                    go_roundg kj17
                                    case measure => have := HK1.out; have := HK2.out; have := HJ17.out; omega
                                    case rel => exact ⟨(wrap64 (x5_1 + 1)), (((bt t131 2) - 48) % 256), (x127001_1), (by first | rfl | (simp; done) | (simp [*]; done) | (simp [bne_nil_]; done) | (simp only [ByteArray.size_append, Int.natCast_add]; rfl)), H', ⟨by have := HK1.out; have := HK2.out; have := HJ17.out; omega⟩, ⟨by (with_reducible repeat (first | apply Kd.R_alloc | apply Kd.R_drewN | apply Kd.R_drew)); exact Kd.R_mono (Kd.R_far (p := ⟨gb126, 0, none⟩) (Kd.R_types HO_4.out BK126.out (by decide)) (fun _ hk => hk.2) (.int .i64 (((bt t131 2) - 48) % 256))) (fun _ hk => trivial)⟩, ⟨by (with_reducible repeat (first | refine blk_drewN ?_ _ | refine blk_drew ?_ | refine blk_alloc ?_ _)); refine blk_far ?_ NB125_126.out _; (with_reducible repeat (first | refine blk_drewN ?_ _ | refine blk_drew ?_ | refine blk_alloc ?_ _)); exact BK125.out⟩, ⟨by (with_reducible repeat (first | refine blk_drewN ?_ _ | refine blk_drew ?_ | refine blk_alloc ?_ _)); refine blk_put (cs := #[.int .i64 x127000_1, .bool x127001_1]) ?_ 0 _ rfl; (with_reducible repeat (first | refine blk_drewN ?_ _ | refine blk_drew ?_ | refine blk_alloc ?_ _)); exact BK126.out⟩, ⟨by repeat (first | (with_reducible first | exact HB.out | apply below_alloc | apply pw_below_drewN | apply below_drew1 | refine below_set ?_ GE125.out | refine below_set ?_ GE126.out) | exact HB.out)⟩⟩
                                  · rw [if_neg c47] at H
                                    exact absurd H (by simp)
                                · rw [if_neg c46] at H
                                  have c46b0 : (t131.toList == ([117, 61, 52] : List UInt8)) = false := beq_eq_false_iff_ne.mpr c46
                                  have c46b1 : (t131.toList != ([117, 61, 52] : List UInt8)) = true := bne_iff_ne.mpr c46
                                  by_cases c51 : t131.toList = ([117, 61, 53] : List UInt8)
                                  · rw [if_pos c51] at H
                                    have c51b0 : (t131.toList == ([117, 61, 53] : List UInt8)) = true := beq_iff_eq.mpr c51
                                    have c51b1 : (t131.toList != ([117, 61, 53] : List UInt8)) = false := bne_eq_false_iff_eq.mpr c51
                                    clear c51
                                    by_cases c52 : 2 < (t131.size : Int)
                                    · rw [if_pos c52] at H
                                      have c52b0 : decide (2 < (t131.size : Int)) = true := decide_eq_true c52
                                      have c52b1 : decide (2 < t131.size) = true := decide_eq_true (by omega)
                                      clear c52
                                      have H' := Aside0.mk H
                                      clear H
                                      have p53 : 0 ≤ (2 : Int) := (by omega)
                                      have q53 : 2 < t131.size := (by have : (2 : Int) < (t131.size : Int) := of_decide_eq_true (by first | (with_reducible assumption) | assumption); omega)
                                      have hx53 : ∀ h : 2 < t131.size, ((t131[2]'h).toNat : Int) = bt t131 2 := bt_at t131 2
                                      clear p53
                                      have qi53 : (2 < (t131.size : Int)) = True := eq_true (of_decide_eq_true (by first | (with_reducible assumption) | assumption))
                                      replace q53 := eq_true q53
                                      have hnb54 := NB126_125.out
                                      have hnc54 := NB125_126.out
                                      have hcz55_0 : wc.cell? ⟨gb126, 0, none⟩ = some (.int .i64 x127000_1) := (blk_cell BK126.out 0).trans rfl
                                      have hcz55_1 : wc.cell? ⟨gb126, 1, none⟩ = some (.bool x127001_1) := (blk_cell BK126.out 1).trans rfl
                                      have hfz55_0 := blk_frozen BK126.out 0
                                      have hfz55_1 := blk_frozen BK126.out 1
                                      go_wp2
                                      go_roundg kj17
                                      case measure => have := HK1.out; have := HK2.out; have := HJ17.out; omega
                                      case rel => exact ⟨(wrap64 (x5_1 + 1)), (((bt t131 2) - 48) % 256), (x127001_1), (by first | rfl | (simp; done) | (simp [*]; done) | (simp [bne_nil_]; done) | (simp only [ByteArray.size_append, Int.natCast_add]; rfl)), H', ⟨by have := HK1.out; have := HK2.out; have := HJ17.out; omega⟩, ⟨by (with_reducible repeat (first | apply Kd.R_alloc | apply Kd.R_drewN | apply Kd.R_drew)); exact Kd.R_mono (Kd.R_far (p := ⟨gb126, 0, none⟩) (Kd.R_types HO_4.out BK126.out (by decide)) (fun _ hk => hk.2) (.int .i64 (((bt t131 2) - 48) % 256))) (fun _ hk => trivial)⟩, ⟨by (with_reducible repeat (first | refine blk_drewN ?_ _ | refine blk_drew ?_ | refine blk_alloc ?_ _)); refine blk_far ?_ NB125_126.out _; (with_reducible repeat (first | refine blk_drewN ?_ _ | refine blk_drew ?_ | refine blk_alloc ?_ _)); exact BK125.out⟩, ⟨by (with_reducible repeat (first | refine blk_drewN ?_ _ | refine blk_drew ?_ | refine blk_alloc ?_ _)); refine blk_put (cs := #[.int .i64 x127000_1, .bool x127001_1]) ?_ 0 _ rfl; (with_reducible repeat (first | refine blk_drewN ?_ _ | refine blk_drew ?_ | refine blk_alloc ?_ _)); exact BK126.out⟩, ⟨by repeat (first | (with_reducible first | exact HB.out | apply below_alloc | apply pw_below_drewN | apply below_drew1 | refine below_set ?_ GE125.out | refine below_set ?_ GE126.out) | exact HB.out)⟩⟩
                                    · rw [if_neg c52] at H
                                      exact absurd H (by simp)
                                  · rw [if_neg c51] at H
                                    have c51b0 : (t131.toList == ([117, 61, 53] : List UInt8)) = false := beq_eq_false_iff_ne.mpr c51
                                    have c51b1 : (t131.toList != ([117, 61, 53] : List UInt8)) = true := bne_iff_ne.mpr c51
                                    by_cases c56 : t131.toList = ([117, 61, 54] : List UInt8)
                                    · rw [if_pos c56] at H
                                      have c56b0 : (t131.toList == ([117, 61, 54] : List UInt8)) = true := beq_iff_eq.mpr c56
                                      have c56b1 : (t131.toList != ([117, 61, 54] : List UInt8)) = false := bne_eq_false_iff_eq.mpr c56
                                      clear c56
                                      by_cases c57 : 2 < (t131.size : Int)
                                      · rw [if_pos c57] at H
                                        have c57b0 : decide (2 < (t131.size : Int)) = true := decide_eq_true c57
                                        have c57b1 : decide (2 < t131.size) = true := decide_eq_true (by omega)
                                        clear c57
                                        have H' := Aside0.mk H
                                        clear H
                                        have p58 : 0 ≤ (2 : Int) := (by omega)
                                        have q58 : 2 < t131.size := (by have : (2 : Int) < (t131.size : Int) := of_decide_eq_true (by first | (with_reducible assumption) | assumption); omega)
                                        have hx58 : ∀ h : 2 < t131.size, ((t131[2]'h).toNat : Int) = bt t131 2 := bt_at t131 2
                                        clear p58
                                        have qi58 : (2 < (t131.size : Int)) = True := eq_true (of_decide_eq_true (by first | (with_reducible assumption) | assumption))
                                        replace q58 := eq_true q58
                                        have hnb59 := NB126_125.out
                                        have hnc59 := NB125_126.out
                                        have hcz60_0 : wc.cell? ⟨gb126, 0, none⟩ = some (.int .i64 x127000_1) := (blk_cell BK126.out 0).trans rfl
                                        have hcz60_1 : wc.cell? ⟨gb126, 1, none⟩ = some (.bool x127001_1) := (blk_cell BK126.out 1).trans rfl
                                        have hfz60_0 := blk_frozen BK126.out 0
                                        have hfz60_1 := blk_frozen BK126.out 1
                                        go_wp2
                                        go_roundg kj17
                                        case measure => have := HK1.out; have := HK2.out; have := HJ17.out; omega
                                        case rel => exact ⟨(wrap64 (x5_1 + 1)), (((bt t131 2) - 48) % 256), (x127001_1), (by first | rfl | (simp; done) | (simp [*]; done) | (simp [bne_nil_]; done) | (simp only [ByteArray.size_append, Int.natCast_add]; rfl)), H', ⟨by have := HK1.out; have := HK2.out; have := HJ17.out; omega⟩, ⟨by (with_reducible repeat (first | apply Kd.R_alloc | apply Kd.R_drewN | apply Kd.R_drew)); exact Kd.R_mono (Kd.R_far (p := ⟨gb126, 0, none⟩) (Kd.R_types HO_4.out BK126.out (by decide)) (fun _ hk => hk.2) (.int .i64 (((bt t131 2) - 48) % 256))) (fun _ hk => trivial)⟩, ⟨by (with_reducible repeat (first | refine blk_drewN ?_ _ | refine blk_drew ?_ | refine blk_alloc ?_ _)); refine blk_far ?_ NB125_126.out _; (with_reducible repeat (first | refine blk_drewN ?_ _ | refine blk_drew ?_ | refine blk_alloc ?_ _)); exact BK125.out⟩, ⟨by (with_reducible repeat (first | refine blk_drewN ?_ _ | refine blk_drew ?_ | refine blk_alloc ?_ _)); refine blk_put (cs := #[.int .i64 x127000_1, .bool x127001_1]) ?_ 0 _ rfl; (with_reducible repeat (first | refine blk_drewN ?_ _ | refine blk_drew ?_ | refine blk_alloc ?_ _)); exact BK126.out⟩, ⟨by repeat (first | (with_reducible first | exact HB.out | apply below_alloc | apply pw_below_drewN | apply below_drew1 | refine below_set ?_ GE125.out | refine below_set ?_ GE126.out) | exact HB.out)⟩⟩
                                      · rw [if_neg c57] at H
                                        exact absurd H (by simp)
                                    · rw [if_neg c56] at H
                                      have c56b0 : (t131.toList == ([117, 61, 54] : List UInt8)) = false := beq_eq_false_iff_ne.mpr c56
                                      have c56b1 : (t131.toList != ([117, 61, 54] : List UInt8)) = true := bne_iff_ne.mpr c56
                                      by_cases c61 : t131.toList = ([117, 61, 55] : List UInt8)
                                      · rw [if_pos c61] at H
                                        have c61b0 : (t131.toList == ([117, 61, 55] : List UInt8)) = true := beq_iff_eq.mpr c61
                                        have c61b1 : (t131.toList != ([117, 61, 55] : List UInt8)) = false := bne_eq_false_iff_eq.mpr c61
                                        clear c61
                                        by_cases c62 : 2 < (t131.size : Int)
                                        · rw [if_pos c62] at H
                                          have c62b0 : decide (2 < (t131.size : Int)) = true := decide_eq_true c62
                                          have c62b1 : decide (2 < t131.size) = true := decide_eq_true (by omega)
                                          clear c62
                                          have H' := Aside0.mk H
                                          clear H
                                          have p63 : 0 ≤ (2 : Int) := (by omega)
                                          have q63 : 2 < t131.size := (by have : (2 : Int) < (t131.size : Int) := of_decide_eq_true (by first | (with_reducible assumption) | assumption); omega)
                                          have hx63 : ∀ h : 2 < t131.size, ((t131[2]'h).toNat : Int) = bt t131 2 := bt_at t131 2
                                          clear p63
                                          have qi63 : (2 < (t131.size : Int)) = True := eq_true (of_decide_eq_true (by first | (with_reducible assumption) | assumption))
                                          replace q63 := eq_true q63
                                          have hnb64 := NB126_125.out
                                          have hnc64 := NB125_126.out
                                          have hcz65_0 : wc.cell? ⟨gb126, 0, none⟩ = some (.int .i64 x127000_1) := (blk_cell BK126.out 0).trans rfl
                                          have hcz65_1 : wc.cell? ⟨gb126, 1, none⟩ = some (.bool x127001_1) := (blk_cell BK126.out 1).trans rfl
                                          have hfz65_0 := blk_frozen BK126.out 0
                                          have hfz65_1 := blk_frozen BK126.out 1
                                          go_wp2
                                          go_roundg kj17
                                          case measure => have := HK1.out; have := HK2.out; have := HJ17.out; omega
                                          case rel => exact ⟨(wrap64 (x5_1 + 1)), (((bt t131 2) - 48) % 256), (x127001_1), (by first | rfl | (simp; done) | (simp [*]; done) | (simp [bne_nil_]; done) | (simp only [ByteArray.size_append, Int.natCast_add]; rfl)), H', ⟨by have := HK1.out; have := HK2.out; have := HJ17.out; omega⟩, ⟨by (with_reducible repeat (first | apply Kd.R_alloc | apply Kd.R_drewN | apply Kd.R_drew)); exact Kd.R_mono (Kd.R_far (p := ⟨gb126, 0, none⟩) (Kd.R_types HO_4.out BK126.out (by decide)) (fun _ hk => hk.2) (.int .i64 (((bt t131 2) - 48) % 256))) (fun _ hk => trivial)⟩, ⟨by (with_reducible repeat (first | refine blk_drewN ?_ _ | refine blk_drew ?_ | refine blk_alloc ?_ _)); refine blk_far ?_ NB125_126.out _; (with_reducible repeat (first | refine blk_drewN ?_ _ | refine blk_drew ?_ | refine blk_alloc ?_ _)); exact BK125.out⟩, ⟨by (with_reducible repeat (first | refine blk_drewN ?_ _ | refine blk_drew ?_ | refine blk_alloc ?_ _)); refine blk_put (cs := #[.int .i64 x127000_1, .bool x127001_1]) ?_ 0 _ rfl; (with_reducible repeat (first | refine blk_drewN ?_ _ | refine blk_drew ?_ | refine blk_alloc ?_ _)); exact BK126.out⟩, ⟨by repeat (first | (with_reducible first | exact HB.out | apply below_alloc | apply pw_below_drewN | apply below_drew1 | refine below_set ?_ GE125.out | refine below_set ?_ GE126.out) | exact HB.out)⟩⟩
                                        · rw [if_neg c62] at H
                                          exact absurd H (by simp)
                                      · rw [if_neg c61] at H
                                        have c61b0 : (t131.toList == ([117, 61, 55] : List UInt8)) = false := beq_eq_false_iff_ne.mpr c61
                                        have c61b1 : (t131.toList != ([117, 61, 55] : List UInt8)) = true := bne_iff_ne.mpr c61
                                        have H' := Aside0.mk H
                                        clear H
                                        go_wp2
                                        go_roundg kj17
                                        case measure => have := HK1.out; have := HK2.out; have := HJ17.out; omega
                                        case rel => exact ⟨(wrap64 (x5_1 + 1)), (x127000_1), (x127001_1), (by first | rfl | (simp; done) | (simp [*]; done) | (simp [bne_nil_]; done) | (simp only [ByteArray.size_append, Int.natCast_add]; rfl)), H', ⟨by have := HK1.out; have := HK2.out; have := HJ17.out; omega⟩, ⟨by (with_reducible repeat (first | apply Kd.R_alloc | apply Kd.R_drewN | apply Kd.R_drew)); exact HO_4.out⟩, ⟨by (with_reducible repeat (first | refine blk_drewN ?_ _ | refine blk_drew ?_ | refine blk_alloc ?_ _)); exact BK125.out⟩, ⟨by (with_reducible repeat (first | refine blk_drewN ?_ _ | refine blk_drew ?_ | refine blk_alloc ?_ _)); exact BK126.out⟩, ⟨by repeat (first | (with_reducible first | exact HB.out | apply below_alloc | apply pw_below_drewN | apply below_drew1 | refine below_set ?_ GE125.out | refine below_set ?_ GE126.out) | exact HB.out)⟩⟩
        · rw [if_neg c9] at H
          exact absurd H (by simp)
      · rw [if_neg c8] at H
        have c8b0 : decide (x5_1 < (t127.length : Int)) = false := decide_eq_false c8
        clear c8
        simp only [Option.some.injEq, Prod.mk.injEq] at H
        obtain ⟨rfl, rfl⟩ := H
        obtain ⟨Ao66, co66, eo66⟩ := Kd.R_slice HO_4.out
        subst eo66
        have hnb67 := NB126_125.out
        have hnc67 := NB125_126.out
        have hcz68_0 : wr.cell? ⟨gb126, 0, none⟩ = some (.int .i64 x127000_1) := (blk_cell BK126.out 0).trans rfl
        have hcz68_1 : wr.cell? ⟨gb126, 1, none⟩ = some (.bool x127001_1) := (blk_cell BK126.out 1).trans rfl
        have hfz68_0 := blk_frozen BK126.out 0
        have hfz68_1 := blk_frozen BK126.out 1
        have hcz69_0 : wr.cell? ⟨gb125, 0, none⟩ = some (.int .i64 0) := (blk_cell BK125.out 0).trans rfl
        have hcz69_1 : wr.cell? ⟨gb125, 1, none⟩ = some (.bool false) := (blk_cell BK125.out 1).trans rfl
        have hfz69_0 := blk_frozen BK125.out 0
        have hfz69_1 := blk_frozen BK125.out 1
        go_wp2
        refine bodyPost_ret (results_cell_row rfl _ _ gb125 24 #[.int .i64 x127000_1, .bool x127001_1] (0, 0) _ rfl (by (with_reducible repeat (first | refine blk_drewN ?_ _ | refine blk_drew ?_ | refine blk_alloc ?_ _)); refine blk_put (cs := #[.int .i64 x127000_1, .bool false]) ?_ 1 _ rfl; (with_reducible repeat (first | refine blk_drewN ?_ _ | refine blk_drew ?_ | refine blk_alloc ?_ _)); refine blk_put (cs := #[.int .i64 0, .bool false]) ?_ 0 _ rfl; (with_reducible repeat (first | refine blk_drewN ?_ _ | refine blk_drew ?_ | refine blk_alloc ?_ _)); exact BK125.out) Tryd.underlying24 rfl (by kernel_rfl)) rfl ?_
        exact ⟨by first | rfl | (simp [errW_none, errW_some] <;> rfl) | (simp [*, errW_none, errW_some] <;> rfl), by repeat (first | (with_reducible first | exact HB.out | apply below_alloc | apply pw_below_drewN | apply below_drew1 | refine below_set ?_ GE125.out | refine below_set ?_ GE126.out) | exact HB.out)⟩

/-! ### ostlerlaw10_PrioParses: function 3 -/
def ostlerlaw10_PrioParses.f (k : Nat) (a0 : ByteArray) : Option (Bool) := (ostlerlaw10_awake.f).bind fun t132 => (if t132 = true then ((prio_Parse.f k a0).bind fun bt133 => ((ostlerref10_Parse.f k a0).bind fun bt135 => (some (bt133.1 == bt135.1 && (bt133.2 == bt135.2))))) else (some false))
theorem ostlerlaw10_PrioParses.mono : ∀ a0 k, LeO (ostlerlaw10_PrioParses.f k a0) (ostlerlaw10_PrioParses.f (k + 1) a0) := by
  intro a0 k
  unfold ostlerlaw10_PrioParses.f
  repeat' first
      | (with_reducible exact ostlerref10_Parse.mono _ _)
      | (with_reducible exact prio_Parse.mono _ _)
      | (with_reducible exact LeO.refl _)
      | (with_reducible exact LeO.none _)
      | (with_reducible refine LeO.ite ?_ ?_)
      | (with_reducible refine LeO.bind ?_ (fun _ => ?_))
      | exact ostlerref10_Parse.mono _ _
      | exact prio_Parse.mono _ _
      | exact LeO.none _
      | refine LeO.ite ?_ ?_
      | refine LeO.bind ?_ (fun _ => ?_)
set_option maxHeartbeats 8000000 in
set_option maxRecDepth 100000 in
theorem ostlerlaw10_PrioParses.calls (k : Nat) (a0 : ByteArray) (r : Bool) (w : World) (hG : GI w) (h : ostlerlaw10_PrioParses.f k a0 = some r) :
    Calls Tryd.prog 3 #[.string a0] w fun e w' => e = .returned (.bool r) ∧ Below w.heap.size w w' := by
  have HB := Aside0.mk (Below.refl w.heap.size w)
  have HG := Aside0.mk hG
  clear hG
  have H : ((ostlerlaw10_awake.f).bind fun t132 => (if t132 = true then ((prio_Parse.f k a0).bind fun bt133 => ((ostlerref10_Parse.f k a0).bind fun bt135 => (some (bt133.1 == bt135.1 && (bt133.2 == bt135.2))))) else (some false))) = some r := h
  clear h
  replace H := Option.bind_eq_some_iff.mp H
  obtain ⟨t132, A20, H⟩ := H
  replace H : (if t132 = true then ((prio_Parse.f k a0).bind fun bt133 => ((ostlerref10_Parse.f k a0).bind fun bt135 => (some (bt133.1 == bt135.1 && (bt133.2 == bt135.2))))) else (some false)) = some r := H
  have A2 := Aside0.mk A20
  clear A20
  by_cases c3 : t132 = true
  · subst c3
    have H1 : ((prio_Parse.f k a0).bind fun bt133 => ((ostlerref10_Parse.f k a0).bind fun bt135 => (some (bt133.1 == bt135.1 && (bt133.2 == bt135.2))))) = some r := by rw [if_pos rfl] at H; exact H
    clear H
    have H := H1
    clear H1
    replace H := Option.bind_eq_some_iff.mp H
    obtain ⟨⟨t133, t134⟩, A40, H⟩ := H
    replace H : ((ostlerref10_Parse.f k a0).bind fun bt135 => (some (t133 == bt135.1 && (t134 == bt135.2)))) = some r := H
    have A4 := Aside0.mk A40
    clear A40
    replace H := Option.bind_eq_some_iff.mp H
    obtain ⟨⟨t135, t136⟩, A50, H⟩ := H
    replace H : (some (t133 == t135 && (t134 == t136))) = some r := H
    have A5 := Aside0.mk A50
    clear A50
    obtain rfl := Option.some.inj H
    go_enter Tryd.func3, Tryd.ntmps3
    go_wp2_with (first | ((with_reducible refine gate_callee (f := 9) rfl ?_); refine goesL_ (some 3) rfl rfl Tryd.func9 (by kernel_rfl) rfl #[] rfl (by (try simp only [List.map_toArray, List.map_cons, List.map_nil]); first | done | rfl | (simp only [List.length_drop, List.length_take]; rfl)) ?_; (with_reducible refine (ostlerlaw10_awake.calls  true _ ?side1 A2.out).mono ?_); (case side1 => exact GI.below HG.out (by repeat (first | (with_reducible first | exact HB.out | apply below_alloc | apply pw_below_drewN | apply below_drew1) | exact HB.out))); rintro e w6 ⟨rfl, hb⟩; refine ⟨_, rfl, ?_⟩; have n0_ := Aside0.mk (below_step (by repeat (first | (with_reducible first | exact HB.out | apply below_alloc | apply pw_below_drewN | apply below_drew1) | exact HB.out)) hb); clear HB; have HB := n0_; clear n0_; (try clear hb); (try clear hb2); (try clear hk); (try clear hi)) | (go_at_call 10; (with_reducible refine (prio_Parse.calls k a0 t133 t134 _ ?side1 A4.out).mono ?_); (case side1 => exact GI.below HG.out (by repeat (first | (with_reducible first | exact HB.out | apply below_alloc | apply pw_below_drewN | apply below_drew1) | exact HB.out))); rintro e w7 ⟨rfl, hb⟩; have n0_ := Aside0.mk (below_step (by repeat (first | (with_reducible first | exact HB.out | apply below_alloc | apply pw_below_drewN | apply below_drew1) | exact HB.out)) hb); clear HB; have HB := n0_; clear n0_; (try clear hb); (try clear hb2); (try clear hk); (try clear hi)) | (go_at_call 11; (with_reducible refine (ostlerref10_Parse.calls k a0 t135 t136 _ A5.out).mono ?_); rintro e w8 ⟨rfl, hb⟩; have n0_ := Aside0.mk (below_step (by repeat (first | (with_reducible first | exact HB.out | apply below_alloc | apply pw_below_drewN | apply below_drew1) | exact HB.out)) hb); clear HB; have HB := n0_; clear n0_; (try clear hb); (try clear hb2); (try clear hk); (try clear hi)))
    go_ret
    exact ⟨by first | rfl | (simp [errW_none, errW_some] <;> rfl) | (simp [*, errW_none, errW_some] <;> rfl), by repeat (first | (with_reducible first | exact HB.out | apply below_alloc | apply pw_below_drewN | apply below_drew1) | exact HB.out)⟩
  · replace c3 := Bool.eq_false_iff.mpr c3
    subst c3
    have H1 : (some false) = some r := by rw [if_neg (show ¬ (false = true) by decide)] at H; exact H
    clear H
    have H := H1
    clear H1
    obtain rfl := Option.some.inj H
    go_enter Tryd.func3, Tryd.ntmps3
    go_wp2_with (first | ((with_reducible refine gate_callee (f := 9) rfl ?_); refine goesL_ (some 3) rfl rfl Tryd.func9 (by kernel_rfl) rfl #[] rfl (by (try simp only [List.map_toArray, List.map_cons, List.map_nil]); first | done | rfl | (simp only [List.length_drop, List.length_take]; rfl)) ?_; (with_reducible refine (ostlerlaw10_awake.calls  false _ ?side1 A2.out).mono ?_); (case side1 => exact GI.below HG.out (by repeat (first | (with_reducible first | exact HB.out | apply below_alloc | apply pw_below_drewN | apply below_drew1) | exact HB.out))); rintro e w9 ⟨rfl, hb⟩; refine ⟨_, rfl, ?_⟩; have n0_ := Aside0.mk (below_step (by repeat (first | (with_reducible first | exact HB.out | apply below_alloc | apply pw_below_drewN | apply below_drew1) | exact HB.out)) hb); clear HB; have HB := n0_; clear n0_; (try clear hb); (try clear hb2); (try clear hk); (try clear hi)))
    go_ret
    exact ⟨by first | rfl | (simp [errW_none, errW_some] <;> rfl) | (simp [*, errW_none, errW_some] <;> rfl), by repeat (first | (with_reducible first | exact HB.out | apply below_alloc | apply pw_below_drewN | apply below_drew1) | exact HB.out)⟩

/-- THE ONE PURE STATEMENT of ostlerlaw10_PrioParses: yours. -/
def ostlerlaw10_PrioParses.Pure : Prop := ∀ (a0 : ByteArray), a0.size ≤ 140737488351232 → ∃ k, ostlerlaw10_PrioParses.f k a0 = some true
theorem ostlerlaw10_PrioParses.walk (P : ostlerlaw10_PrioParses.Pure) (a0 : ByteArray) (w : World) (hG : GI w) (w0 : a0.size ≤ 140737488351232) :
    Calls Tryd.prog 3 #[.string a0] w fun e w' => e = .returned (.bool true) ∧ Below w.heap.size w w' := by
  obtain ⟨k, h⟩ := P a0 w0
  refine (ostlerlaw10_PrioParses.calls k a0 true w hG h).mono ?_
  rintro e w' ⟨rfl, hd⟩
  exact ⟨rfl, hd⟩

end Go.Proofs.YtbndichleiameaaDoor.PP
