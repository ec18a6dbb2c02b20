-- Written by a program of this session (a changed copy of the kit's print) out of the translation. Not trusted: Lean checks it.
import Derived.Test.YtgeekchnolahhaaDoorPPx0
import Derived.Test.YtgeekchnolahhaaDoorPPxEtextLower
import Derived.Test.YtgeekchnolahhaaDoorPPx12
import Derived.Test.YtgeekchnolahhaaDoorPPx24
namespace Go.Proofs.YtgeekchnolahhaaDoor.PP
open Go.RowKit Go.Proofs.YtgeekchnolahhaaDoorW.PrintWords Go.Proofs.YtgeekchnolahhaaDoorW.PrintLast Go.Proofs.YtgeekchnolahhaaDoorW.PrintMore
attribute [local go_sem] max2_int min2_int max_two min_two max_three min_three max_four min_four   -- for this text's walks alone
set_option linter.unusedVariables false
set_option linter.unusedSimpArgs false

/-! ### msg_List: function 13 -/
mutual
def msg_List.j0 : Nat → Int → Bool → Int → List (S30) → ByteArray → List (S30) → Option ((List (S30)))
  | 0, _, _, _, _, _, _ => none
  | k + 1, x3, x14, x251000, x251001, x251002, x251003 => if x14 = true then (msg_List.j1 k 500 x251000 x251001 x251002 x251003) else (msg_List.j1 k x3 x251000 x251001 x251002 x251003)
def msg_List.j1 : Nat → Int → Int → List (S30) → ByteArray → List (S30) → Option ((List (S30)))
  | 0, _, _, _, _, _ => none
  | k + 1, x3, x251000, x251001, x251002, x251003 => (text_Decimal.f x3).bind fun t251 => ((msg_Strip.f k x251001).bind fun t255 => (msg_List.l0 k (([(⟨(⟨#[58, 115, 116, 97, 116, 117, 115]⟩ : ByteArray), t251⟩ : S30)] : List (S30))) t255 (t255.length : Int) 0))
def msg_List.l0 : Nat → List (S30) → List (S30) → Int → Int → Option ((List (S30)))
  | 0, _, _, _, _ => none
  | k + 1, x4, x21, x22, x23 => if x23 < x22 then (if 0 ≤ x23 then (if x23 < (x21.length : Int) then ((text_Lower.f ((rd_T30 x21 x23).f0)).bind fun t260 => (if x4.length < 4398046511104 then (msg_List.l0 k (x4 ++ [(⟨t260, (rd_T30 x21 x23).f1⟩ : S30)]) x21 x22 (wrap64 (x23 + 1))) else (none))) else (none)) else (none)) else (some x4)
end
def msg_List.f (k : Nat) (a0_0 : Int) (l0_1 : List (S30)) (a0_2 : ByteArray) (l0_3 : List (S30)) : Option ((List (S30))) := if a0_0 < 100 then (msg_List.j0 k a0_0 true a0_0 l0_1 a0_2 l0_3) else (msg_List.j0 k a0_0 (decide (a0_0 > 999)) a0_0 l0_1 a0_2 l0_3)
theorem msg_List.mono_l : ∀ k, (∀ y0 y1 y2 y3 y4 y5, LeO (msg_List.j0 k y0 y1 y2 y3 y4 y5) (msg_List.j0 (k + 1) y0 y1 y2 y3 y4 y5)) ∧ (∀ y0 y1 y2 y3 y4, LeO (msg_List.j1 k y0 y1 y2 y3 y4) (msg_List.j1 (k + 1) y0 y1 y2 y3 y4)) ∧ (∀ y0 y1 y2 y3, LeO (msg_List.l0 k y0 y1 y2 y3) (msg_List.l0 (k + 1) y0 y1 y2 y3))
  | 0 => ⟨fun _ _ _ _ _ _ r h => by simp [msg_List.j0] at h, fun _ _ _ _ _ r h => by simp [msg_List.j1] at h, fun _ _ _ _ r h => by simp [msg_List.l0] at h⟩
  | k + 1 => by
    obtain ⟨ih0, ih1, ih2⟩ := msg_List.mono_l k; refine ⟨?_, ?_, ?_⟩
    · intro y0 y1 y2 y3 y4 y5
      unfold msg_List.j0
      repeat' first
      | (with_reducible exact ih0 _ _ _ _ _ _)
      | (with_reducible exact ih1 _ _ _ _ _)
      | (with_reducible exact ih2 _ _ _ _)
      | (with_reducible exact msg_Strip.mono _ _)
      | (with_reducible exact LeO.refl _)
      | (with_reducible exact LeO.none _)
      | (with_reducible refine LeO.ite ?_ ?_)
      | (with_reducible refine LeO.bind ?_ (fun _ => ?_))
      | exact ih0 _ _ _ _ _ _
      | exact ih1 _ _ _ _ _
      | exact ih2 _ _ _ _
      | exact msg_Strip.mono _ _
      | exact LeO.none _
      | refine LeO.ite ?_ ?_
      | refine LeO.bind ?_ (fun _ => ?_)
    · intro y0 y1 y2 y3 y4
      unfold msg_List.j1
      repeat' first
      | (with_reducible exact ih0 _ _ _ _ _ _)
      | (with_reducible exact ih1 _ _ _ _ _)
      | (with_reducible exact ih2 _ _ _ _)
      | (with_reducible exact msg_Strip.mono _ _)
      | (with_reducible exact LeO.refl _)
      | (with_reducible exact LeO.none _)
      | (with_reducible refine LeO.ite ?_ ?_)
      | (with_reducible refine LeO.bind ?_ (fun _ => ?_))
      | exact ih0 _ _ _ _ _ _
      | exact ih1 _ _ _ _ _
      | exact ih2 _ _ _ _
      | exact msg_Strip.mono _ _
      | exact LeO.none _
      | refine LeO.ite ?_ ?_
      | refine LeO.bind ?_ (fun _ => ?_)
    · intro y0 y1 y2 y3
      unfold msg_List.l0
      repeat' first
      | (with_reducible exact ih0 _ _ _ _ _ _)
      | (with_reducible exact ih1 _ _ _ _ _)
      | (with_reducible exact ih2 _ _ _ _)
      | (with_reducible exact msg_Strip.mono _ _)
      | (with_reducible exact LeO.refl _)
      | (with_reducible exact LeO.none _)
      | (with_reducible refine LeO.ite ?_ ?_)
      | (with_reducible refine LeO.bind ?_ (fun _ => ?_))
      | exact ih0 _ _ _ _ _ _
      | exact ih1 _ _ _ _ _
      | exact ih2 _ _ _ _
      | exact msg_Strip.mono _ _
      | exact LeO.none _
      | refine LeO.ite ?_ ?_
      | refine LeO.bind ?_ (fun _ => ?_)
theorem msg_List.mono : ∀ a0 a1 a2 a3 k, LeO (msg_List.f k a0 a1 a2 a3) (msg_List.f (k + 1) a0 a1 a2 a3) := by
  intro a0 a1 a2 a3 k
  obtain ⟨ih0, ih1, ih2⟩ := msg_List.mono_l k
  unfold msg_List.f
  repeat' first
      | (with_reducible exact ih0 _ _ _ _ _ _)
      | (with_reducible exact ih1 _ _ _ _ _)
      | (with_reducible exact ih2 _ _ _ _)
      | (with_reducible exact msg_Strip.mono _ _)
      | (with_reducible exact LeO.refl _)
      | (with_reducible exact LeO.none _)
      | (with_reducible refine LeO.ite ?_ ?_)
      | (with_reducible refine LeO.bind ?_ (fun _ => ?_))
      | exact ih0 _ _ _ _ _ _
      | exact ih1 _ _ _ _ _
      | exact ih2 _ _ _ _
      | exact msg_Strip.mono _ _
      | exact LeO.none _
      | refine LeO.ite ?_ ?_
      | refine LeO.bind ?_ (fun _ => ?_)
def msg_List.T8 : Bool × List (List Nat × List Nat) := (true, [([], []), ([], []), ([1], [1]), ([2], [2]), ([], []), ([4], [4]), ([3, 5], [3, 5]), ([6], [6]), ([0, 7, 3], [0, 7]), ([8, 8, 0, 1, 2, 3, 4, 5, 6, 7, 8], [0, 8])])
def msg_List.B8 : List Nat := [0, 0, 2, 6, 0, 16, 62, 126, 255, 511]
theorem msg_List.tab8 : rtab .any (opsOf Tryd.f13 8) = msg_List.T8 := by kernel_rfl
theorem msg_List.bits8 : waitsOk msg_List.T8.2 msg_List.B8 = true := by kernel_rfl
set_option maxHeartbeats 8000000 in
set_option maxRecDepth 100000 in
theorem msg_List.calls (k : Nat) (a0_0 : Int) (A0_1 : Option Addr) (c0_1 : Nat) (l0_1 : List (S30)) (a0_2 : ByteArray) (A0_3 : Option Addr) (c0_3 : Nat) (l0_3 : List (S30)) (r : List (S30)) (w : World) (hG : GI w) (hr0_1 : Kd.C k30 w A0_1 l0_1.length l0_1) (hc0_1 : l0_1.length ≤ c0_1) (hr0_3 : Kd.C k30 w A0_3 l0_3.length l0_3) (hc0_3 : l0_3.length ≤ c0_3) (h : msg_List.f k a0_0 l0_1 a0_2 l0_3 = some r) :
    Calls Tryd.prog 13 #[.agg #[.int .i64 a0_0, .slice A0_1 l0_1.length c0_1, .string a0_2, .slice A0_3 l0_3.length c0_3]] w fun e w' => ∃ v0_ : Value, e = .returned (v0_) ∧ Kd.R k30 30 w' w.heap.size (fun _ => True) v0_ r ∧ Below w.heap.size w w' := by
  have hu40 := Tryd.underlying40
  have hu30 := Tryd.underlying30
  have HR0_1 := zM hr0_1
  have HC0_1 := zM hc0_1
  clear hr0_1 hc0_1
  have HR0_3 := zM hr0_3
  have HC0_3 := zM hc0_3
  clear hr0_3 hc0_3
  have HB := zM (Below.refl w.heap.size w)
  have HG := zM hG
  clear hG
  have H : (if a0_0 < 100 then (msg_List.j0 k a0_0 true a0_0 l0_1 a0_2 l0_3) else (msg_List.j0 k a0_0 (decide (a0_0 > 999)) a0_0 l0_1 a0_2 l0_3)) = some r := h
  clear h
  have HC2 := zM H
  clear H
  go_enter Tryd.func13, Tryd.ntmps13
  go_upto_region 2 with (first | ((with_reducible refine gate_dst (N := 1) rfl ?_); refine box_event ?hg (N := 1) ?hd (cs := #[.int .i64 a0_0, .slice A0_1 l0_1.length c0_1, .string a0_2, .slice A0_3 l0_3.length c0_3]) (t := 40) ?hr ?_; (case hd => rfl); (case hg => rfl); (case hr => first | (go_simp; done) | (go_simp; rfl)); intro gb250 hg w3 hbox hb; have n0_ := zM (zS (by repeat (first | (with_reducible first | exact HB.out | apply zG|apply zH|apply zI) | exact HB.out)) hb); have n1_ := zM (hbox); have n2_ := zM ((by rw [hg]; exact (below_size (by repeat (first | (with_reducible first | exact HB.out | apply zG|apply zH|apply zI) | exact HB.out))) : w.heap.size ≤ gb250)); have n3_ := zM ((by rw [hg]; exact (below_size (by repeat (first | (with_reducible first | exact HB.out | apply zG|apply zH|apply zI) | exact HB.out))) : w.heap.size ≤ gb250)); clear HB; have HB := n0_; have BK250 := n1_; have GW250 := n2_; have GE250 := n3_; clear n0_ n1_ n2_ n3_; clear hb hbox hg; have hcz4_0 : w3.cell? ⟨gb250, 0, none⟩ = some (.int .i64 a0_0) := (blk_cell BK250.out 0).trans rfl; have hcz4_1 : w3.cell? ⟨gb250, 1, none⟩ = some (.slice A0_1 l0_1.length c0_1) := (blk_cell BK250.out 1).trans rfl; have hcz4_2 : w3.cell? ⟨gb250, 2, none⟩ = some (.string a0_2) := (blk_cell BK250.out 2).trans rfl; have hcz4_3 : w3.cell? ⟨gb250, 3, none⟩ = some (.slice A0_3 l0_3.length c0_3) := (blk_cell BK250.out 3).trans rfl; have hfz4_0 := blk_frozen BK250.out 0; have hfz4_1 := blk_frozen BK250.out 1; have hfz4_2 := blk_frozen BK250.out 2; have hfz4_3 := blk_frozen BK250.out 3))
  (try simp only [Act.put, List.setIfInBounds_toArray, List.set_cons_zero, List.set_cons_succ])
  go_cut [14] (fun v14 wc => ∃ (kq : Nat) (x14_1 : Bool), v14 = .bool x14_1 ∧ Aside0 (msg_List.j0 kq a0_0 x14_1 a0_0 l0_1 a0_2 l0_3 = some r) ∧ Aside0 (kq ≤ k) ∧ Aside0 (wc.heap[gb250]? = some (.cells #[.int .i64 a0_0, (.slice A0_1 l0_1.length c0_1), .string a0_2, (.slice A0_3 l0_3.length c0_3)] 40 (0, 0))) ∧ Aside0 (Below w.heap.size w wc))
  case first =>
    have H := HC2.out; clear HC2; by_cases c5 : a0_0 < 100
    · rw [if_pos c5] at H
      have c5b0 : decide (a0_0 < 100) = true := decide_eq_true c5; clear c5; (first | rw [c5b0] | (simp only [i64_w, i32_w]; rw [c5b0]) | skip)
      have H' := zM H; clear H; go_wp2; go_meet
      case rel => exact ⟨_, (true), (by first | rfl | (simp; done) | (simp [*]; done) | (simp [bne_nil_]; done) | (simp only [ByteArray.size_append, Int.natCast_add]; rfl)), H', ⟨by first | omega | exact Nat.le_refl _⟩, ⟨by (with_reducible repeat (first|apply zA|apply zB|apply zC)); exact BK250.out⟩, ⟨by repeat (first | (with_reducible first | exact HB.out | apply zG|apply zH|apply zI | refine below_set ?_ GE250.out) | exact HB.out)⟩⟩
    · rw [if_neg c5] at H
      have c5b0 : decide (a0_0 < 100) = false := decide_eq_false c5; clear c5; (first | rw [c5b0] | (simp only [i64_w, i32_w]; rw [c5b0]) | skip)
      have H' := zM H; clear H; go_wp2; go_meet
      case rel => exact ⟨_, (decide (a0_0 > 999)), (by first | rfl | (simp; done) | (simp [*]; done) | (simp [bne_nil_]; done) | (simp only [ByteArray.size_append, Int.natCast_add]; rfl)), H', ⟨by first | omega | exact Nat.le_refl _⟩, ⟨by (with_reducible repeat (first|apply zA|apply zB|apply zC)); exact BK250.out⟩, ⟨by repeat (first | (with_reducible first | exact HB.out | apply zG|apply zH|apply zI | refine below_set ?_ GE250.out) | exact HB.out)⟩⟩
  case rest =>
    clear HC2; (try clear c1); (try clear p2); (try clear c5); (try clear c5b0); (try clear hcz4_0); (try clear hcz4_1); (try clear hcz4_2); (try clear hcz4_3); (try clear hfz4_0); (try clear hfz4_1); (try clear hfz4_2); (try clear hfz4_3); obtain ⟨kq, x14_1, rfl, HA, HJ1, BK250, HB⟩ := hcut
    cases kq with
    | zero => exact absurd HA.out (by simp [msg_List.j0])
    | succ kj1 =>
      have H := HA.out; clear HA; simp only [msg_List.j0] at H; have HC6 := zM H; clear H; go_upto_if 14 with (fail)
      go_cut [3] (fun v3 wc => ∃ (kq : Nat) (x3_5 : Int), v3 = .int .i64 x3_5 ∧ Aside0 (msg_List.j1 kq x3_5 a0_0 l0_1 a0_2 l0_3 = some r) ∧ Aside0 (kq ≤ kj1) ∧ Aside0 (wc.heap[gb250]? = some (.cells #[.int .i64 a0_0, (.slice A0_1 l0_1.length c0_1), .string a0_2, (.slice A0_3 l0_3.length c0_3)] 40 (0, 0))) ∧ Aside0 (Below w.heap.size w wc))
      case first =>
        have H := HC6.out; clear HC6; by_cases c7 : x14_1 = true
        · subst c7
          have H1 : (msg_List.j1 kj1 500 a0_0 l0_1 a0_2 l0_3) = some r := by rw [if_pos rfl] at H; exact H
          clear H; have H := H1; clear H1; have H' := zM H; clear H; go_wp2; go_meet
          case rel => exact ⟨_, (500), (by first | rfl | (simp; done) | (simp [*]; done) | (simp [bne_nil_]; done) | (simp only [ByteArray.size_append, Int.natCast_add]; rfl)), H', ⟨by have := HJ1.out; first | omega | exact Nat.le_refl _⟩, ⟨by (with_reducible repeat (first|apply zA|apply zB|apply zC)); exact BK250.out⟩, ⟨by repeat (first | (with_reducible first | exact HB.out | apply zG|apply zH|apply zI | refine below_set ?_ GE250.out) | exact HB.out)⟩⟩
        · replace c7 := Bool.eq_false_iff.mpr c7
          subst c7; have H1 : (msg_List.j1 kj1 a0_0 a0_0 l0_1 a0_2 l0_3) = some r := by rw [if_neg (show ¬ (false = true) by decide)] at H; exact H
          clear H; have H := H1; clear H1; have H' := zM H; clear H; go_wp2; go_meet
          case rel => exact ⟨_, (a0_0), (by first | rfl | (simp; done) | (simp [*]; done) | (simp [bne_nil_]; done) | (simp only [ByteArray.size_append, Int.natCast_add]; rfl)), H', ⟨by have := HJ1.out; first | omega | exact Nat.le_refl _⟩, ⟨by (with_reducible repeat (first|apply zA|apply zB|apply zC)); exact BK250.out⟩, ⟨by repeat (first | (with_reducible first | exact HB.out | apply zG|apply zH|apply zI | refine below_set ?_ GE250.out) | exact HB.out)⟩⟩
      case rest =>
        clear HC6; (try clear c1); (try clear p2); (try clear c5); (try clear c5b0); (try clear c7); (try clear hcz4_0); (try clear hcz4_1); (try clear hcz4_2); (try clear hcz4_3); (try clear hfz4_0); (try clear hfz4_1); (try clear hfz4_2); (try clear hfz4_3); (try clear p2); obtain ⟨kq, x3_5, rfl, HA, HJ5, BK250, HB⟩ := hcut
        cases kq with
        | zero => exact absurd HA.out (by simp [msg_List.j1])
        | succ kj5 =>
          have H := HA.out; clear HA; simp only [msg_List.j1] at H; replace H := Option.bind_eq_some_iff.mp H; obtain ⟨t251, A80, H⟩ := H; replace H : ((msg_Strip.f kj5 l0_1).bind fun t255 => (msg_List.l0 kj5 (([(⟨(⟨#[58, 115, 116, 97, 116, 117, 115]⟩ : ByteArray), t251⟩ : S30)] : List (S30))) t255 (t255.length : Int) 0)) = some r := H; have A8 := zM A80; clear A80; obtain ⟨y252, hy252⟩ : ∃ y_ : List (S30), y_ = (([(⟨(⟨#[58, 115, 116, 97, 116, 117, 115]⟩ : ByteArray), t251⟩ : S30)] : List (S30))) := ⟨_, rfl⟩; replace H : ((msg_Strip.f kj5 l0_1).bind fun t255 => (msg_List.l0 kj5 y252 t255 (t255.length : Int) 0)) = some r := by first | (rw [hy252]; with_reducible exact H) | (have H2_ := (Option.bind_some _ _).symm.trans H; rw [hy252]; with_reducible exact H2_) | (have H2_ := (Option.bind_some _ _).symm.trans H; with_reducible exact H2_) | with_reducible exact H | (rw [hy252]; exact H) | exact H
          have Ny252 := zM hy252; clear hy252; replace H := Option.bind_eq_some_iff.mp H; obtain ⟨t255, A90, H⟩ := H; replace H : (msg_List.l0 kj5 y252 t255 (t255.length : Int) 0) = some r := H; have A9 := zM A90; clear A90; have H' := zM H; clear H
          go_wp2_with (first | ((with_reducible refine gate_callee (f := 24) rfl ?_); refine goesL_ (some 16) rfl rfl Tryd.func24 (by kernel_rfl) rfl #[.int .i64 x3_5] rfl (by (try simp only [List.map_toArray, List.map_cons, List.map_nil]); first | done | rfl | (simp only [List.length_drop, List.length_take]; rfl)) ?_; (with_reducible refine (text_Decimal.calls x3_5 t251 _ ?side1 A8.out).mono ?_); (case side1 => exact GI.below HG.out (by repeat (first | (with_reducible first | exact HB.out | apply zG|apply zH|apply zI | refine below_set ?_ GE250.out) | exact HB.out))); rintro e w10 ⟨rfl, hb⟩; refine ⟨_, rfl, ?_⟩; have n0_ := zM (blk_below (g := gb250) (o := .cells #[.int .i64 a0_0, .slice A0_1 l0_1.length c0_1, .string a0_2, .slice A0_3 l0_3.length c0_3] 40 (0, 0)) (by (with_reducible repeat (first|apply zA|apply zB|apply zC)); exact BK250.out) hb); have n1_ := zM (zS (by repeat (first | (with_reducible first | exact HB.out | apply zG|apply zH|apply zI | refine below_set ?_ GE250.out) | exact HB.out)) hb); clear BK250; clear HB; have BK250 := n0_; have HB := n1_; clear n0_ n1_; (try clear hb); (try clear hb2); (try clear hk); (try clear hi)) | ((with_reducible refine gate_dst (N := 18) rfl ?_); refine Kd.R_lit k30 _ 30 ?hg (N := 18) ?hd (xs := ([(⟨(⟨#[58, 115, 116, 97, 116, 117, 115]⟩ : ByteArray), t251⟩ : S30)] : List (S30))) (inner := [.string (⟨#[58, 115, 116, 97, 116, 117, 115]⟩ : ByteArray), .string t251]) (ok := fun _ => True) (okp := fun _ => True) ?hr ?hp (fun _ hk => hk) trivial (Below.refl _ _) (Nat.le_refl _) (by simp) ?_; (case hd => rfl); (case hg => rfl); (case hr => first | (go_simp; done) | (go_simp; rfl)); (case hp => exact (Reps.c2 (show Kd.M k30 _ _ _ (⟨(⟨#[58, 115, 116, 97, 116, 117, 115]⟩ : ByteArray), t251⟩ : S30) [.string (⟨#[58, 115, 116, 97, 116, 117, 115]⟩ : ByteArray), .string t251] from (k30_mkM _ _ _ (⟨(⟨#[58, 115, 116, 97, 116, 117, 115]⟩ : ByteArray), t251⟩ : S30) )) (Reps.none _ _))); intro v253 w11 ho12 hb hg_ hnew_; clear hg_ hnew_; (first | rw [← Ny252.out] at ho12 | (simp only [Int.reduceToNat] at ho12; rw [← Ny252.out] at ho12)); have n0_ := zM (Kd.R_lower ho12 (below_size (by repeat (first | (with_reducible first | exact HB.out | apply zG|apply zH|apply zI | refine below_set ?_ GE250.out) | exact HB.out)))); have n1_ := zM (blk_below (g := gb250) (o := .cells #[.int .i64 a0_0, .slice A0_1 l0_1.length c0_1, .string a0_2, .slice A0_3 l0_3.length c0_3] 40 (0, 0)) (by (with_reducible repeat (first|apply zA|apply zB|apply zC)); exact BK250.out) hb); have n2_ := zM (zS (by repeat (first | (with_reducible first | exact HB.out | apply zG|apply zH|apply zI | refine below_set ?_ GE250.out) | exact HB.out)) hb); clear BK250; clear HB; have HO254 := n0_; have BK250 := n1_; have HB := n2_; clear n0_ n1_ n2_; clear hb ho12; have hcz13_0 : w11.cell? ⟨gb250, 0, none⟩ = some (.int .i64 a0_0) := (blk_cell BK250.out 0).trans rfl; have hcz13_1 : w11.cell? ⟨gb250, 1, none⟩ = some (.slice A0_1 l0_1.length c0_1) := (blk_cell BK250.out 1).trans rfl; have hcz13_2 : w11.cell? ⟨gb250, 2, none⟩ = some (.string a0_2) := (blk_cell BK250.out 2).trans rfl; have hcz13_3 : w11.cell? ⟨gb250, 3, none⟩ = some (.slice A0_3 l0_3.length c0_3) := (blk_cell BK250.out 3).trans rfl; have hfz13_0 := blk_frozen BK250.out 0; have hfz13_1 := blk_frozen BK250.out 1; have hfz13_2 := blk_frozen BK250.out 2; have hfz13_3 := blk_frozen BK250.out 3) | ((with_reducible refine gate_callee (f := 10) rfl ?_); refine goesL_ (some 21) rfl rfl Tryd.func10 (by kernel_rfl) rfl #[.slice A0_1 l0_1.length c0_1] rfl (by (try simp only [List.map_toArray, List.map_cons, List.map_nil]); first | done | rfl | (simp only [List.length_drop, List.length_take]; rfl)) ?_; (with_reducible refine (msg_Strip.calls kj5 _ _ l0_1 t255 _ ?side1 ?side2 A9.out).mono ?_); (case side1 => repeat (first | exact (Kd.C_below HR0_1.out HB.out) | (with_reducible refine Kd.C_alloc ?_ _) | (with_reducible refine Kd.C_drewN ?_ _) | (with_reducible refine Kd.C_drew ?_))); (case side2 => exact HC0_1.out); rintro e w14 ⟨v256, rfl, ho0, hb⟩; refine ⟨_, rfl, ?_⟩; have n0_ := zM (Kd.R_elder' (by (with_reducible repeat (first|apply zD|apply zE|apply zF)); exact HO254.out) (Kd.R_base ho0) hb); have n1_ := zM (Kd.R_lower (Kd.R_new' ho0 (Kd.R_lt (by (with_reducible repeat (first|apply zD|apply zE|apply zF)); exact HO254.out))) (below_size (by repeat (first | (with_reducible first | exact HB.out | apply zG|apply zH|apply zI | refine below_set ?_ GE250.out) | exact HB.out)))); have n2_ := zM (blk_below (g := gb250) (o := .cells #[.int .i64 a0_0, .slice A0_1 l0_1.length c0_1, .string a0_2, .slice A0_3 l0_3.length c0_3] 40 (0, 0)) (by (with_reducible repeat (first|apply zA|apply zB|apply zC)); exact BK250.out) hb); have n3_ := zM (zS (by repeat (first | (with_reducible first | exact HB.out | apply zG|apply zH|apply zI | refine below_set ?_ GE250.out) | exact HB.out)) hb); clear HO254; clear BK250; clear HB; have HO254 := n0_; have HO257 := n1_; have BK250 := n2_; have HB := n3_; clear n0_ n1_ n2_ n3_; (try clear hb); (try clear hb2); (try clear hk); (try clear hi); (try clear ho0); obtain ⟨Ao15, co15, eo15⟩ := Kd.R_slice HO257.out; subst eo15))
          go_loopg [4, 23] kj5 (fun kq v4 v23 w' => ∃ (x4_3 : List (S30)) (x23_3 : Int), v23 = .int .i64 x23_3 ∧ Aside0 (msg_List.l0 kq x4_3 t255 (t255.length : Int) x23_3 = some r) ∧ Aside0 (kq ≤ kj5) ∧ Aside0 (Kd.R k30 30 w' w.heap.size (fun k_ => some k_ ≠ ((.slice Ao15 t255.length co15) : Value).ownBlock) v4 x4_3) ∧ Aside0 (Kd.R k30 30 w' w.heap.size (fun k_ => some k_ ≠ (v4 : Value).ownBlock) (.slice Ao15 t255.length co15) t255) ∧ Aside0 (w'.heap[gb250]? = some (.cells #[.int .i64 a0_0, (.slice A0_1 l0_1.length c0_1), .string a0_2, (.slice A0_3 l0_3.length c0_3)] 40 (0, 0))) ∧ Aside0 (Below w.heap.size w w'))
          case atStart => exact ⟨(y252), (0), (by first | rfl | (simp; done) | (simp [*]; done) | (simp [bne_nil_]; done) | (simp only [ByteArray.size_append, Int.natCast_add]; rfl)), H', ⟨Nat.le_refl _⟩, ⟨by (with_reducible repeat (first|apply zD|apply zE|apply zF)); exact Kd.R_mono HO254.out (fun _ hk => hk.2)⟩, ⟨by (with_reducible repeat (first|apply zD|apply zE|apply zF)); exact Kd.R_mono HO257.out (fun _ hk => hk.2)⟩, ⟨by (with_reducible repeat (first|apply zA|apply zB|apply zC)); exact BK250.out⟩, ⟨by repeat (first | (with_reducible first | exact HB.out | apply zG|apply zH|apply zI | refine below_set ?_ GE250.out) | exact HB.out)⟩⟩
          case round =>
            clear H'; (try clear c1); (try clear c2); (try clear p2); (try clear c5); (try clear c5b0); (try clear c7); (try clear c10); (try clear c13); (try clear hcz13_0); (try clear hcz13_1); (try clear hcz13_2); (try clear hcz13_3); (try clear hcz4_0); (try clear hcz4_1); (try clear hcz4_2); (try clear hcz4_3); (try clear hfz13_0); (try clear hfz13_1); (try clear hfz13_2); (try clear hfz13_3); (try clear hfz4_0); (try clear hfz4_1); (try clear hfz4_2); (try clear hfz4_3); (try clear p2); obtain ⟨x4_3, x23_3, rfl, HA, HK3, HO_4, HO_21, BK250, HB⟩ := hrel
            cases gk with
            | zero => exact absurd HA.out (by simp [msg_List.l0])
            | succ k3 =>
              have H := HA.out; clear HA; simp only [msg_List.l0] at H; by_cases c16 : x23_3 < (t255.length : Int)
              · rw [if_pos c16] at H
                have c16b0 : decide (x23_3 < (t255.length : Int)) = true := decide_eq_true c16; clear c16; by_cases c17 : 0 ≤ x23_3
                · rw [if_pos c17] at H
                  have c17b0 : decide (0 ≤ x23_3) = true := decide_eq_true c17; clear c17; by_cases c18 : x23_3 < (t255.length : Int)
                  · rw [if_pos c18] at H
                    have c18b0 : decide (x23_3 < (t255.length : Int)) = true := decide_eq_true c18; clear c18; replace H := Option.bind_eq_some_iff.mp H; obtain ⟨t260, A190, H⟩ := H; replace H : (if x4_3.length < 4398046511104 then (msg_List.l0 k3 (x4_3 ++ [(⟨t260, (rd_T30 t255 x23_3).f1⟩ : S30)]) t255 (t255.length : Int) (wrap64 (x23_3 + 1))) else (none)) = some r := H; have A19 := zM A190; clear A190; by_cases c20 : x4_3.length < 4398046511104
                    · rw [if_pos c20] at H
                      have LMc20 := zM c20; clear c20; obtain ⟨y261, hy261⟩ : ∃ y_ : List (S30), y_ = (x4_3 ++ [(⟨t260, (rd_T30 t255 x23_3).f1⟩ : S30)]) := ⟨_, rfl⟩; replace H : (msg_List.l0 k3 y261 t255 (t255.length : Int) (wrap64 (x23_3 + 1))) = some r := by first | (rw [hy261]; with_reducible exact H) | (have H2_ := (Option.bind_some _ _).symm.trans H; rw [hy261]; with_reducible exact H2_) | (have H2_ := (Option.bind_some _ _).symm.trans H; with_reducible exact H2_) | with_reducible exact H | (rw [hy261]; exact H) | exact H
                      have Ny261 := zM hy261; clear hy261; have H' := zM H; clear H; have p258 : 0 ≤ (x23_3 : Int) := of_decide_eq_true (by first | (with_reducible assumption) | assumption); have q258 : x23_3 < (t255.length : Int) := of_decide_eq_true (by first | (with_reducible assumption) | assumption); obtain ⟨ad258, e258, hx258_0, hx258_1⟩ := at_T30 (Kd.R_reads' HO_21.out).2.2 x23_3 p258 q258; cases e258; replace p258 := eq_true p258; replace q258 := eq_true q258; try go_wp2_with (first | ((with_reducible refine gate_dst (N := 6) rfl ?_); refine box_event ?hg (N := 6) ?hd (cs := #[.string ⟨#[]⟩, .string ⟨#[]⟩]) (t := 30) ?hr ?_; (case hd => rfl); (case hg => rfl); (case hr => first | (go_simp; done) | (go_simp; rfl)); intro gb259 hg w21 hbox hb; have n0_ := zM (Kd.R_below (Kd.R_elderB (by (with_reducible repeat (first|apply zD|apply zE|apply zF)); exact HO_4.out) gb259 (Nat.le_of_eq hg.symm)) hb); have n1_ := zM (Kd.R_below (Kd.R_elderB (by (with_reducible repeat (first|apply zD|apply zE|apply zF)); exact HO_21.out) gb259 (Nat.le_of_eq hg.symm)) hb); have n2_ := zM (blk_below (g := gb250) (o := .cells #[.int .i64 a0_0, .slice A0_1 l0_1.length c0_1, .string a0_2, .slice A0_3 l0_3.length c0_3] 40 (0, 0)) (by (with_reducible repeat (first|apply zA|apply zB|apply zC)); exact BK250.out) hb); have n3_ := zM (zS (by repeat (first | (with_reducible first | exact HB.out | apply zG|apply zH|apply zI | refine below_set ?_ GE250.out) | exact HB.out)) hb); have n4_ := zM (hbox); have n5_ := zM ((by rw [hg]; exact (below_size (by repeat (first | (with_reducible first | exact HB.out | apply zG|apply zH|apply zI | refine below_set ?_ GE250.out) | exact HB.out))) : w.heap.size ≤ gb259)); have n6_ := zM ((by rw [hg]; exact (below_size (by repeat (first | (with_reducible first | exact HB.out | apply zG|apply zH|apply zI | refine below_set ?_ GE250.out) | exact HB.out))) : w.heap.size ≤ gb259)); have n7_ := zM ((by rw [hg]; exact Nat.ne_of_lt (blk_lt (g := gb250) (o := .cells #[.int .i64 a0_0, .slice A0_1 l0_1.length c0_1, .string a0_2, .slice A0_3 l0_3.length c0_3] 40 (0, 0)) (by (with_reducible repeat (first|apply zA|apply zB|apply zC)); exact BK250.out)) : gb250 ≠ gb259)); have n8_ := zM ((by rw [hg]; exact Nat.ne_of_gt (blk_lt (g := gb250) (o := .cells #[.int .i64 a0_0, .slice A0_1 l0_1.length c0_1, .string a0_2, .slice A0_3 l0_3.length c0_3] 40 (0, 0)) (by (with_reducible repeat (first|apply zA|apply zB|apply zC)); exact BK250.out)) : gb259 ≠ gb250)); clear HO_4; clear HO_21; clear BK250; clear HB; have HO_4 := n0_; have HO_21 := n1_; have BK250 := n2_; have HB := n3_; have BK259 := n4_; have GW259 := n5_; have GE259 := n6_; have NB250_259 := n7_; have NB259_250 := n8_; clear n0_ n1_ n2_ n3_ n4_ n5_ n6_ n7_ n8_; clear hb hbox hg; have hnb22 := NB259_250.out; have hnc22 := NB250_259.out; have hcz23_0 : w21.cell? ⟨gb259, 0, none⟩ = some (.string ⟨#[]⟩) := (blk_cell BK259.out 0).trans rfl; have hcz23_1 : w21.cell? ⟨gb259, 1, none⟩ = some (.string ⟨#[]⟩) := (blk_cell BK259.out 1).trans rfl; have hfz23_0 := blk_frozen BK259.out 0; have hfz23_1 := blk_frozen BK259.out 1))
                      have n0_ : Aside0 (Kd.R k30 30 ((w21.setCell ⟨gb259, 0, none⟩ (.string ((rd_T30 t255 x23_3).f0))).setCell ⟨gb259, 1, none⟩ (.string ((rd_T30 t255 x23_3).f1))) w.heap.size (fun k_ => some k_ ≠ (.slice (some ad258) t255.length co15 : Value).ownBlock ∧ k_ ≠ gb259) u4 x4_3) := ⟨by (with_reducible repeat (first|apply zD|apply zE|apply zF)); exact Kd.R_mono (Kd.R_far (p := ⟨gb259, 1, none⟩) (Kd.R_far (p := ⟨gb259, 0, none⟩) (Kd.R_mono HO_4.out (fun k_ hk => (⟨hk, hk.2⟩ : _ ∧ k_ ≠ gb259))) (fun _ hk => hk.2) (.string ((rd_T30 t255 x23_3).f0))) (fun _ hk => hk.2) (.string ((rd_T30 t255 x23_3).f1))) (fun _ hk => ⟨hk.1.1, hk.1.2⟩)⟩; have n1_ : Aside0 (Kd.R k30 30 ((w21.setCell ⟨gb259, 0, none⟩ (.string ((rd_T30 t255 x23_3).f0))).setCell ⟨gb259, 1, none⟩ (.string ((rd_T30 t255 x23_3).f1))) w.heap.size (fun k_ => some k_ ≠ (u4 : Value).ownBlock ∧ k_ ≠ gb259) (.slice (some ad258) t255.length co15) t255) := ⟨by (with_reducible repeat (first|apply zD|apply zE|apply zF)); exact Kd.R_mono (Kd.R_far (p := ⟨gb259, 1, none⟩) (Kd.R_far (p := ⟨gb259, 0, none⟩) (Kd.R_mono HO_21.out (fun k_ hk => (⟨hk, hk.2⟩ : _ ∧ k_ ≠ gb259))) (fun _ hk => hk.2) (.string ((rd_T30 t255 x23_3).f0))) (fun _ hk => hk.2) (.string ((rd_T30 t255 x23_3).f1))) (fun _ hk => ⟨hk.1.1, hk.1.2⟩)⟩
                      have n2_ : Aside0 (((w21.setCell ⟨gb259, 0, none⟩ (.string ((rd_T30 t255 x23_3).f0))).setCell ⟨gb259, 1, none⟩ (.string ((rd_T30 t255 x23_3).f1))).heap[gb250]? = some (.cells #[.int .i64 a0_0, .slice A0_1 l0_1.length c0_1, .string a0_2, .slice A0_3 l0_3.length c0_3] 40 (0, 0))) := ⟨by (with_reducible repeat (first|apply zA|apply zB|apply zC)); refine blk_far ?_ NB250_259.out _; (with_reducible repeat (first|apply zA|apply zB|apply zC)); refine blk_far ?_ NB250_259.out _; (with_reducible repeat (first|apply zA|apply zB|apply zC)); exact BK250.out⟩; have n3_ : Aside0 (((w21.setCell ⟨gb259, 0, none⟩ (.string ((rd_T30 t255 x23_3).f0))).setCell ⟨gb259, 1, none⟩ (.string ((rd_T30 t255 x23_3).f1))).heap[gb259]? = some (.cells #[.string ((rd_T30 t255 x23_3).f0), .string ((rd_T30 t255 x23_3).f1)] 30 (0, 0))) := ⟨by (with_reducible repeat (first|apply zA|apply zB|apply zC)); refine blk_put (cs := #[.string ((rd_T30 t255 x23_3).f0), .string ⟨#[]⟩]) ?_ 1 _ rfl; (with_reducible repeat (first|apply zA|apply zB|apply zC)); refine blk_put (cs := #[.string ⟨#[]⟩, .string ⟨#[]⟩]) ?_ 0 _ rfl; (with_reducible repeat (first|apply zA|apply zB|apply zC)); exact BK259.out⟩
                      have n4_ : Aside0 (Below w.heap.size w ((w21.setCell ⟨gb259, 0, none⟩ (.string ((rd_T30 t255 x23_3).f0))).setCell ⟨gb259, 1, none⟩ (.string ((rd_T30 t255 x23_3).f1)))) := ⟨by repeat (first | (with_reducible first | exact HB.out | apply zG|apply zH|apply zI | refine below_set ?_ GE250.out | refine below_set ?_ GE259.out) | exact HB.out)⟩; (try clear HO_4); (try clear HO_21); (try clear BK250); (try clear BK259); (try clear HB); generalize ((w21.setCell ⟨gb259, 0, none⟩ (.string ((rd_T30 t255 x23_3).f0))).setCell ⟨gb259, 1, none⟩ (.string ((rd_T30 t255 x23_3).f1))) = w24 at n0_ n1_ n2_ n3_ n4_ ⊢
                      have HO_4 := n0_; have HO_21 := n1_; have BK250 := n2_; have BK259 := n3_; have HB := n4_; clear n0_ n1_ n2_ n3_ n4_; have n0_ := zM (Kd.R_drew HO_4.out); have n1_ := zM (Kd.R_drew HO_21.out); have n2_ := zM (blk_drew BK250.out); have n3_ := zM (blk_drew BK259.out); have n4_ := zM (below_drew1 HB.out); clear HO_4; clear HO_21; clear BK250; clear BK259; clear HB; have HO_4 := n0_; have HO_21 := n1_; have BK250 := n2_; have BK259 := n3_; have HB := n4_; clear n0_ n1_ n2_ n3_ n4_; refine start_ (n := 10) (S := fun w' => w'.cell? ⟨gb259, 0, none⟩ = some (.string ((rd_T30 t255 x23_3).f0)) ∧ w'.cell? ⟨gb259, 1, none⟩ = some (.string ((rd_T30 t255 x23_3).f1))) (ds := []) #[false, false, false, false, false, false, false, false, false, false] (by kernel_rfl) rfl rfl ⟨(blk_cell BK259.out 0).trans rfl, (blk_cell BK259.out 1).trans rfl⟩ (fun hHeld => ?_); refine with_tabW msg_List.tab8 msg_List.bits8 (fun HT_ HW_ => ?_); generalize w24.drew = w25 at HO_4 HO_21 BK250 BK259 HB hHeld ⊢
                      refine pure_ (i := 0) (N := some 27) (v := ?_) (a' := ?_) #[true, false, false, false, false, false, false, false, false, false] rfl rfl (any_of HT_.out (by kernel_rfl)) (fun _ _ _ h => h) (Or.inl ⟨by rfl, ?_⟩) ?_ ?_; rotate_left
                      · intro w'
                        go_simp
                        with_reducible rfl
                      rotate_left
                      · simp only [Act.put, zU, zV, zW, i64_w, i32_w]
                        rfl
                      refine pure_ (i := 1) (N := some 28) (v := ?_) (a' := ?_) #[true, true, false, false, false, false, false, false, false, false] rfl rfl (any_of HT_.out (by kernel_rfl)) (fun _ _ _ h => h) (Or.inl ⟨by rfl, ?_⟩) ?_ ?_; rotate_left
                      · intro w'
                        go_simp
                        with_reducible rfl
                      rotate_left
                      · simp only [Act.put, zU, zV, zW, i64_w, i32_w]
                        rfl
                      refine pure_ (i := 4) (N := some 31) (v := ?_) (a' := ?_) #[true, true, false, false, true, false, false, false, false, false] rfl rfl (any_of HT_.out (by kernel_rfl)) (fun _ _ _ h => h) (Or.inl ⟨by rfl, ?_⟩) ?_ ?_; rotate_left
                      · intro w'
                        go_simp
                        with_reducible rfl
                      rotate_left
                      · simp only [Act.put, zU, zV, zW, i64_w, i32_w]
                        rfl
                      refine take_ (i := 2) (N := some 29) (v := ?_) (a' := ?_) #[true, true, true, false, true, false, false, false, false, false] rfl rfl (take_ofW HT_.out HW_.out (by kernel_rfl)) (fun _ _ _ h => h) (Or.inl ⟨by rfl, ?_⟩) hHeld ?_ ?_; rotate_left
                      · rintro w' ⟨s0, s1⟩
                        go_simp
                        with_reducible rfl
                      rotate_left
                      · simp only [Act.put, zU, zV, zW, i64_w, i32_w]
                        rfl
                      refine take_ (i := 5) (N := some 32) (v := ?_) (a' := ?_) #[true, true, true, false, true, true, false, false, false, false] rfl rfl (take_ofW HT_.out HW_.out (by kernel_rfl)) (fun _ _ _ h => h) (Or.inl ⟨by rfl, ?_⟩) hHeld ?_ ?_; rotate_left
                      · rintro w' ⟨s0, s1⟩
                        go_simp
                        with_reducible rfl
                      rotate_left
                      · simp only [Act.put, zU, zV, zW, i64_w, i32_w]
                        rfl
                      refine one_ (i := 3) (N := some 30) #[true, true, true, true, true, true, false, false, false, false] rfl rfl (one_of HT_.out (by kernel_rfl)) (by decide) (fun K hK => ?_); refine goes_ Tryd.func23 (by kernel_rfl) rfl #[.string ((rd_T30 t255 x23_3).f0)] (by rfl) rfl rfl (by (try simp only [List.map_toArray, List.map_cons, List.map_nil]); first | done | rfl | (simp only [List.length_drop, List.length_take]; rfl)) ?_
                      with_reducible refine (text_Lower.calls ((rd_T30 t255 x23_3).f0) t260 _ A19.out).mono ?_
                      rintro e w26 ⟨rfl, hb⟩
                      refine ⟨_, rfl, ?_⟩; have n0_ := zM (Kd.R_below (by (with_reducible repeat (first|apply zD|apply zE|apply zF)); exact HO_4.out) hb)
                      have n1_ := zM (Kd.R_below (by (with_reducible repeat (first|apply zD|apply zE|apply zF)); exact HO_21.out) hb); have n2_ := zM (blk_below (g := gb250) (o := .cells #[.int .i64 a0_0, .slice A0_1 l0_1.length c0_1, .string a0_2, .slice A0_3 l0_3.length c0_3] 40 (0, 0)) (by (with_reducible repeat (first|apply zA|apply zB|apply zC)); exact BK250.out) hb)
                      have n3_ := zM (blk_below (g := gb259) (o := .cells #[.string ((rd_T30 t255 x23_3).f0), .string ((rd_T30 t255 x23_3).f1)] 30 (0, 0)) (by (with_reducible repeat (first|apply zA|apply zB|apply zC)); exact BK259.out) hb); have n4_ := zM (zS (by repeat (first | (with_reducible first | exact HB.out | apply zG|apply zH|apply zI | refine below_set ?_ GE250.out | refine below_set ?_ GE259.out) | exact HB.out)) hb)
                      clear HO_4; clear HO_21; clear BK250; clear BK259; clear HB; have HO_4 := n0_; have HO_21 := n1_; have BK250 := n2_; have BK259 := n3_; have HB := n4_; clear n0_ n1_ n2_ n3_ n4_; (try clear hb); (try clear hb2); (try clear hk); (try clear hi); refine hK.out _ _ ⟨(blk_cell BK259.out 0).trans rfl, (blk_cell BK259.out 1).trans rfl⟩ (fun hHeld => ?_); clear hK K; refine norm_ (a' := ?_) ?_ ?_; rotate_left
                      · show Act.put _ (some 30) _ = _
                        simp only [Act.put, zU, zV, zW, i64_w, i32_w]; rfl
                      refine pure_ (i := 6) (N := some 33) (v := ?_) (a' := ?_) #[true, true, true, true, true, true, true, false, false, false] rfl rfl (any_of HT_.out (by kernel_rfl)) (fun _ _ _ h => h) (Or.inl ⟨by rfl, ?_⟩) ?_ ?_; rotate_left
                      · intro w'
                        go_simp
                        with_reducible rfl
                      rotate_left
                      · simp only [Act.put, zU, zV, zW, i64_w, i32_w]
                        rfl
                      refine one_ (i := 7) (N := some 34) #[true, true, true, true, true, true, true, true, false, false] rfl rfl (one_of HT_.out (by kernel_rfl)) (by decide) (fun K hK => ?_); refine value_ (w1 := ?_) (v := ?_) (by rfl) rfl ?_ ?_; rotate_left 2
                      · go_simp
                        constructor
                        · rfl
                        · rfl
                      refine hK.out _ _ ⟨(blk_cell (blk_alloc BK259.out _) 0).trans rfl, (blk_cell (blk_alloc BK259.out _) 1).trans rfl⟩ (fun hHeld => ?_); clear hK K; refine norm_ (a' := ?_) ?_ ?_; rotate_left
                      · show Act.put _ (some 34) _ = _
                        simp only [Act.put, zU, zV, zW, i64_w, i32_w]; rfl
                      refine one_ (i := 8) (N := some 35) #[true, true, true, true, true, true, true, true, true, false] rfl rfl (one_of HT_.out (by kernel_rfl)) (by decide) (fun K hK => ?_); refine Kd.R_append_step k30 (w0 := w) w.heap.size (by rfl) (.tmp 27) (.tmp 34) 22 30 (.agg #[(.string ⟨#[]⟩), (.string ⟨#[]⟩)]) 32 rfl Tryd.underlying22 info30 rfl (by decide) (by omega) u4 x4_3 (⟨t260, (rd_T30 t255 x23_3).f1⟩ : S30) [.string t260, .string ((rd_T30 t255 x23_3).f1)] (fun k_ => some k_ ≠ (.slice (some ad258) t255.length co15 : Value).ownBlock ∧ k_ ≠ gb259) (fun _ => False) rfl rfl ?aP (fun _ hk => hk.elim) ?aF ?aO ?aB ?aS ?aL ?_; (case aP => exact k30_mkM _ _ _ (⟨t260, (rd_T30 t255 x23_3).f1⟩ : S30))
                      (case aB => exact (by repeat (first | (with_reducible first | exact HB.out | apply zG|apply zH|apply zI | refine below_set ?_ GE250.out | refine below_set ?_ GE259.out) | exact HB.out)))
                      (case aF => exact (fun k_ hk => ⟨Kd.fresh' (Kd.R_lt (by (with_reducible repeat (first|apply zD|apply zE|apply zF)); exact HO_21.out)) k_ hk, Kd.freshB (g := gb259) (o := .cells #[.string ((rd_T30 t255 x23_3).f0), .string ((rd_T30 t255 x23_3).f1)] 30 (0, 0)) (by (with_reducible repeat (first|apply zA|apply zB|apply zC)); exact BK259.out) k_ hk⟩))
                      (case aO => exact (by (with_reducible repeat (first|apply zD|apply zE|apply zF)); exact HO_4.out))
                      (case aS => exact (below_size (by repeat (first | (with_reducible first | exact HB.out | apply zG|apply zH|apply zI | refine below_set ?_ GE250.out | refine below_set ?_ GE259.out) | exact HB.out))))
                      (case aL => have := LMc20.out; omega)
                      intro v262 w27 ho hb hg hat; rw [← Ny261.out] at ho; have n0_ := zM (Kd.R_after (ok := (fun k_ => k_ ≠ gb259)) (by (with_reducible repeat (first|apply zD|apply zE|apply zF)); exact Kd.R_mono HO_21.out (fun _ hk => ⟨hk.2, hk.1⟩)) hg hat)
                      have n1_ := zM (blk_grown (g := gb250) (o := .cells #[.int .i64 a0_0, .slice A0_1 l0_1.length c0_1, .string a0_2, .slice A0_3 l0_3.length c0_3] 40 (0, 0)) (by (with_reducible repeat (first|apply zA|apply zB|apply zC)); exact BK250.out) hg (Kd.R_ne HO_4.out BK250.out (by decide))); have n2_ := zM (blk_grown (g := gb259) (o := .cells #[.string ((rd_T30 t255 x23_3).f0), .string ((rd_T30 t255 x23_3).f1)] 30 (0, 0)) (by (with_reducible repeat (first|apply zA|apply zB|apply zC)); exact BK259.out) hg (Kd.R_away HO_4.out (fun _ hk => hk.2)))
                      have n3_ := zM (hb); have n4_ := zM (ho); clear HO_21; clear BK250; clear BK259; clear HB; clear HO_4; have HO_21 := n0_; have BK250 := n1_; have BK259 := n2_; have HB := n3_; have HO263 := n4_; clear n0_ n1_ n2_ n3_ n4_; clear ho hb hg hat; refine hK.out _ _ ⟨(blk_cell BK259.out 0).trans rfl, (blk_cell BK259.out 1).trans rfl⟩ (fun hHeld => ?_); clear hK K; refine norm_ (a' := ?_) ?_ ?_; rotate_left
                      · show Act.put _ (some 35) _ = _
                        simp only [Act.put, zU, zV, zW, i64_w, i32_w]; rfl
                      refine pure_ (i := 9) (N := some 4) (v := ?_) (a' := ?_) #[true, true, true, true, true, true, true, true, true, true] rfl rfl (any_of HT_.out (by kernel_rfl)) (fun _ _ _ h => h) (Or.inl ⟨by rfl, ?_⟩) ?_ ?_; rotate_left
                      · intro w'
                        go_simp
                        with_reducible rfl
                      rotate_left
                      · simp only [Act.put, zU, zV, zW, i64_w, i32_w]
                        rfl
                      refine done_ (done_of HT_.out (by kernel_rfl)) ?_; try go_wp2
                      go_roundg k3
                      case measure => have := HJ1.out; have := HJ5.out; have := HK3.out; omega
                      case rel => exact ⟨(y261), (wrap64 (x23_3 + 1)), (by first | rfl | (simp; done) | (simp [*]; done) | (simp [bne_nil_]; done) | (simp only [ByteArray.size_append, Int.natCast_add]; rfl)), H', ⟨by have := HJ1.out; have := HJ5.out; have := HK3.out; omega⟩, ⟨by (with_reducible repeat (first|apply zD|apply zE|apply zF)); exact Kd.R_mono HO263.out (fun _ hk => hk.1)⟩, ⟨by (with_reducible repeat (first|apply zD|apply zE|apply zF)); exact Kd.R_mono HO_21.out (fun _ hk => hk.2)⟩, ⟨by (with_reducible repeat (first|apply zA|apply zB|apply zC)); exact BK250.out⟩, ⟨by repeat (first | (with_reducible first | exact HB.out | apply zG|apply zH|apply zI | refine below_set ?_ GE250.out | refine below_set ?_ GE259.out) | exact HB.out)⟩⟩
                    · rw [if_neg c20] at H
                      exact absurd H (by simp)
                  · rw [if_neg c18] at H
                    exact absurd H (by simp)
                · rw [if_neg c17] at H
                  exact absurd H (by simp)
              · rw [if_neg c16] at H
                have c16b0 : decide (x23_3 < (t255.length : Int)) = false := decide_eq_false c16; clear c16; obtain rfl := Option.some.inj H; go_wp2; go_ret
                exact ⟨_, by first | rfl | (simp [errW_none, errW_some] <;> rfl) | (simp [*, errW_none, errW_some] <;> rfl), by (with_reducible repeat (first|apply zD|apply zE|apply zF)); exact Kd.R_mono HO_4.out (fun _ hk => trivial), by repeat (first | (with_reducible first | exact HB.out | apply zG|apply zH|apply zI | refine below_set ?_ GE250.out) | exact HB.out)⟩

end Go.Proofs.YtgeekchnolahhaaDoor.PP
