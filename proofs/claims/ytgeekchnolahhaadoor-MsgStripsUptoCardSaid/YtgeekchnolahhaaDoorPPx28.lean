-- Written by a program of this session (a changed copy of the kit's print) out of the translation. Not trusted: Lean checks it.
import Derived.Test.YtgeekchnolahhaaDoorPPx0
import Derived.Test.YtgeekchnolahhaaDoorPPx4
import Derived.Test.YtgeekchnolahhaaDoorPPx22
import Derived.Test.YtgeekchnolahhaaDoorPPxEostlerref01Lower
import Derived.Test.YtgeekchnolahhaaDoorPPx24
import Derived.Test.YtgeekchnolahhaaDoorPPx27
namespace Go.Proofs.YtgeekchnolahhaaDoor.PP
open Go.RowKit Go.Proofs.YtgeekchnolahhaaDoorW.PrintWords Go.Proofs.YtgeekchnolahhaaDoorW.PrintLast Go.Proofs.YtgeekchnolahhaaDoorW.PrintMore
attribute [local go_sem] max2_int min2_int max_two min_two max_three min_three max_four min_four   -- for this text's walks alone
set_option linter.unusedVariables false
set_option linter.unusedSimpArgs false

/-! ### ostlerlaw14_MsgStrips: function 5 -/
mutual
def ostlerlaw14_MsgStrips.j0 : Nat → List (S30) → List (S30) → Bool → Option (Bool)
 | 0, _, _, _ => none
 | k + 1, x5, x6, x34 => if x34 = true then (none) else (ostlerlaw14_MsgStrips.l0 k x5 x6 0)
def ostlerlaw14_MsgStrips.l0 : Nat → List (S30) → List (S30) → Int → Option (Bool)
 | 0, _, _, _ => none
 | k + 1, x5, x6, x7 => if x7 < (x5.length : Int) then (if 0 ≤ x7 then ((msg_Bound.f ((rd_T30 x5 x7).f0)).bind fun t278 => (if t278 = true then (none) else (if 0 ≤ (wrap64 (x7 + 1)) then (if (wrap64 (x7 + 1)) < (x6.length : Int) then ((ostlerref01_Lower.f ((rd_T30 x5 x7).f0)).bind fun t281 => (if ((rd_T30 x6 (wrap64 (x7 + 1))).f0).toList = t281.toList then (if ((rd_T30 x6 (wrap64 (x7 + 1))).f1).toList = ((rd_T30 x5 x7).f1).toList then (ostlerlaw14_MsgStrips.l0 k x5 x6 (wrap64 (x7 + 1))) else (none)) else (none))) else (none)) else (none)))) else (none)) else ((msg_Strip.f k x5).bind fun t272 => ((ostlerref14_Same.f k t272 x5).bind fun t275 => (if t275 = true then ((ostlerlaw14_awake.f k).bind fun t276 => (some t276)) else (none))))
end
def ostlerlaw14_MsgStrips.f (k : Nat) (l0 : List (S30)) (a1 : Int) : Option (Bool) := (msg_Strip.f k l0).bind fun t264 => ((msg_List.f k a1 l0 (⟨#[]⟩ : ByteArray) ([] : List (S30))).bind fun t267 => (if (t267.length : Int) = (wrap64 ((t264.length : Int) + 1)) then (if 0 < (t267.length : Int) then (if ((rd_T30 t267 0).f0).toList = ([58, 115, 116, 97, 116, 117, 115] : List UInt8) then (ostlerlaw14_MsgStrips.j0 k t264 t267 ((((rd_T30 t267 0).f1).size : Int) != 3)) else (ostlerlaw14_MsgStrips.j0 k t264 t267 true)) else (none)) else (ostlerlaw14_MsgStrips.j0 k t264 t267 true)))
theorem ostlerlaw14_MsgStrips.mono_l : ∀ k, (∀ y0 y1 y2, LeO (ostlerlaw14_MsgStrips.j0 k y0 y1 y2) (ostlerlaw14_MsgStrips.j0 (k + 1) y0 y1 y2)) ∧ (∀ y0 y1 y2, LeO (ostlerlaw14_MsgStrips.l0 k y0 y1 y2) (ostlerlaw14_MsgStrips.l0 (k + 1) y0 y1 y2))
 | 0 => ⟨fun _ _ _ r h => by simp [ostlerlaw14_MsgStrips.j0] at h, fun _ _ _ r h => by simp [ostlerlaw14_MsgStrips.l0] at h⟩
 | k + 1 => by
  obtain ⟨ih0, ih1⟩ := ostlerlaw14_MsgStrips.mono_l k
  refine ⟨?_, ?_⟩
  ·
   intro y0 y1 y2; unfold ostlerlaw14_MsgStrips.j0
   repeat' first
   | (with_reducible exact ih0 _ _ _)
   | (with_reducible exact ih1 _ _ _)
   | (with_reducible exact msg_List.mono _ _ _ _ _)
   | (with_reducible exact msg_Strip.mono _ _)
   | (with_reducible exact ostlerlaw14_awake.mono _)
   | (with_reducible exact ostlerref14_Same.mono _ _ _)
   | (with_reducible exact LeO.refl _)
   | (with_reducible exact LeO.none _)
   | (with_reducible refine LeO.ite ?_ ?_)
   | (with_reducible refine LeO.bind ?_ (fun _ => ?_))
   | exact ih0 _ _ _
   | exact ih1 _ _ _
   | exact msg_List.mono _ _ _ _ _
   | exact msg_Strip.mono _ _
   | exact ostlerlaw14_awake.mono _
   | exact ostlerref14_Same.mono _ _ _
   | exact LeO.none _
   | refine LeO.ite ?_ ?_
   | refine LeO.bind ?_ (fun _ => ?_)
  ·
   intro y0 y1 y2; unfold ostlerlaw14_MsgStrips.l0
   repeat' first
   | (with_reducible exact ih0 _ _ _)
   | (with_reducible exact ih1 _ _ _)
   | (with_reducible exact msg_List.mono _ _ _ _ _)
   | (with_reducible exact msg_Strip.mono _ _)
   | (with_reducible exact ostlerlaw14_awake.mono _)
   | (with_reducible exact ostlerref14_Same.mono _ _ _)
   | (with_reducible exact LeO.refl _)
   | (with_reducible exact LeO.none _)
   | (with_reducible refine LeO.ite ?_ ?_)
   | (with_reducible refine LeO.bind ?_ (fun _ => ?_))
   | exact ih0 _ _ _
   | exact ih1 _ _ _
   | exact msg_List.mono _ _ _ _ _
   | exact msg_Strip.mono _ _
   | exact ostlerlaw14_awake.mono _
   | exact ostlerref14_Same.mono _ _ _
   | exact LeO.none _
   | refine LeO.ite ?_ ?_
   | refine LeO.bind ?_ (fun _ => ?_)
theorem ostlerlaw14_MsgStrips.mono : ∀ a0 a1 k, LeO (ostlerlaw14_MsgStrips.f k a0 a1) (ostlerlaw14_MsgStrips.f (k + 1) a0 a1) := by
 intro a0 a1 k
 obtain ⟨ih0, ih1⟩ := ostlerlaw14_MsgStrips.mono_l k
 unfold ostlerlaw14_MsgStrips.f
 repeat' first
   | (with_reducible exact ih0 _ _ _)
   | (with_reducible exact ih1 _ _ _)
   | (with_reducible exact msg_List.mono _ _ _ _ _)
   | (with_reducible exact msg_Strip.mono _ _)
   | (with_reducible exact ostlerlaw14_awake.mono _)
   | (with_reducible exact ostlerref14_Same.mono _ _ _)
   | (with_reducible exact LeO.refl _)
   | (with_reducible exact LeO.none _)
   | (with_reducible refine LeO.ite ?_ ?_)
   | (with_reducible refine LeO.bind ?_ (fun _ => ?_))
   | exact ih0 _ _ _
   | exact ih1 _ _ _
   | exact msg_List.mono _ _ _ _ _
   | exact msg_Strip.mono _ _
   | exact ostlerlaw14_awake.mono _
   | exact ostlerref14_Same.mono _ _ _
   | exact LeO.none _
   | refine LeO.ite ?_ ?_
   | refine LeO.bind ?_ (fun _ => ?_)
def ostlerlaw14_MsgStrips.T8 : Bool × List (List Nat × List Nat) := (true, [([], []), ([], []), ([0, 1], [0, 1]), ([2], [2]), ([3], [3]), ([4], [4]), ([5, 5], [5]), ([6], [6]), ([6], [6]), ([8, 6], [6, 8]), ([7, 9, 6], [6, 7, 9]), ([10, 6], [6, 10]), ([11, 6], [6, 11]), ([6], [6]), ([6], [6]), ([13, 14, 6], [6, 13, 14]), ([15, 6], [6, 15]), ([16, 6], [6, 16]), ([17, 6, 6], [6, 17]), ([12, 18, 6], [6, 12, 18]), ([6, 19], [6, 19]), ([20, 18], [20]), ([21], [21]), ([21], [21]), ([23, 21], [21, 23]), ([22, 24, 21], [21, 22, 24]), ([25, 21], [21, 25]), ([26, 21], [21, 26]), ([21], [21]), ([21], [21]), ([28, 29, 21], [21, 28, 29]), ([30, 21], [21, 30]), ([31, 21], [21, 31]), ([27, 32, 21], [21, 27, 32]), ([21, 33], [21, 33])])
def ostlerlaw14_MsgStrips.B8 : List Nat := [0, 0, 3, 7, 15, 31, 63, 127, 127, 383, 1023, 2047, 4095, 127, 127, 24703, 57471, 123007, 254079, 524287, 1048575, 2097151, 4194303, 4194303, 12582911, 33554431, 67108863, 134217727, 4194303, 4194303, 809500671, 1883242495, 4030726143, 8589934591, 17179869183]
theorem ostlerlaw14_MsgStrips.tab8 : rtab .any (opsOf Tryd.f5 8) = ostlerlaw14_MsgStrips.T8 := by kernel_rfl
theorem ostlerlaw14_MsgStrips.bits8 : waitsOk ostlerlaw14_MsgStrips.T8.2 ostlerlaw14_MsgStrips.B8 = true := by kernel_rfl
set_option maxHeartbeats 8000000 in
set_option maxRecDepth 100000 in
theorem ostlerlaw14_MsgStrips.calls (k : Nat) (A0 : Option Addr) (c0 : Nat) (l0 : List (S30)) (a1 : Int) (r : Bool) (w : World) (hG : GI w) (hr0 : Kd.C k30 w A0 l0.length l0) (hc0 : l0.length ≤ c0) (h : ostlerlaw14_MsgStrips.f k l0 a1 = some r) :
  Calls Tryd.prog 5 #[.slice A0 l0.length c0, .int .i64 a1] w fun e w' => e = .returned (.bool r) ∧ Below w.heap.size w w' := by
 have hu40 := Tryd.underlying40
 have HR0 := zM hr0
 have HC0 := zM hc0
 clear hr0 hc0
 have HB := zM (Below.refl w.heap.size w)
 have HG := zM hG
 clear hG
 have H : ((msg_Strip.f k l0).bind fun t264 => ((msg_List.f k a1 l0 (⟨#[]⟩ : ByteArray) ([] : List (S30))).bind fun t267 => (if (t267.length : Int) = (wrap64 ((t264.length : Int) + 1)) then (if 0 < (t267.length : Int) then (if ((rd_T30 t267 0).f0).toList = ([58, 115, 116, 97, 116, 117, 115] : List UInt8) then (ostlerlaw14_MsgStrips.j0 k t264 t267 ((((rd_T30 t267 0).f1).size : Int) != 3)) else (ostlerlaw14_MsgStrips.j0 k t264 t267 true)) else (none)) else (ostlerlaw14_MsgStrips.j0 k t264 t267 true)))) = some r := h
 clear h
 replace H := Option.bind_eq_some_iff.mp H
 obtain ⟨t264, A30, H⟩ := H
 replace H : ((msg_List.f k a1 l0 (⟨#[]⟩ : ByteArray) ([] : List (S30))).bind fun t267 => (if (t267.length : Int) = (wrap64 ((t264.length : Int) + 1)) then (if 0 < (t267.length : Int) then (if ((rd_T30 t267 0).f0).toList = ([58, 115, 116, 97, 116, 117, 115] : List UInt8) then (ostlerlaw14_MsgStrips.j0 k t264 t267 ((((rd_T30 t267 0).f1).size : Int) != 3)) else (ostlerlaw14_MsgStrips.j0 k t264 t267 true)) else (none)) else (ostlerlaw14_MsgStrips.j0 k t264 t267 true))) = some r := H
 have A3 := zM A30
 clear A30
 replace H := Option.bind_eq_some_iff.mp H
 obtain ⟨t267, A40, H⟩ := H
 replace H : (if (t267.length : Int) = (wrap64 ((t264.length : Int) + 1)) then (if 0 < (t267.length : Int) then (if ((rd_T30 t267 0).f0).toList = ([58, 115, 116, 97, 116, 117, 115] : List UInt8) then (ostlerlaw14_MsgStrips.j0 k t264 t267 ((((rd_T30 t267 0).f1).size : Int) != 3)) else (ostlerlaw14_MsgStrips.j0 k t264 t267 true)) else (none)) else (ostlerlaw14_MsgStrips.j0 k t264 t267 true)) = some r := H
 have A4 := zM A40
 clear A40
 have HC5 := zM H
 clear H
 go_enter Tryd.func5, Tryd.ntmps5
 go_upto_region 3 with (first | ((with_reducible refine gate_callee (f := 10) rfl ?_); refine goesL_ (some 9) rfl rfl Tryd.func10 (by kernel_rfl) rfl #[.slice A0 l0.length c0] rfl (by (try simp only [List.map_toArray, List.map_cons, List.map_nil]); first | done | rfl | (simp only [List.length_drop, List.length_take]; rfl)) ?_; (with_reducible refine (msg_Strip.calls k _ _ l0 t264 _ ?side1 ?side2 A3.out).mono ?_); (case side1 => repeat (first | exact HR0.out | (with_reducible refine Kd.C_alloc ?_ _) | (with_reducible refine Kd.C_drewN ?_ _) | (with_reducible refine Kd.C_drew ?_))); (case side2 => exact HC0.out); rintro e w6 ⟨v265, rfl, ho0, hb⟩; refine ⟨_, rfl, ?_⟩; have n0_ := zM (Kd.R_lower ho0 (below_size (by repeat (first | (with_reducible first | exact HB.out | apply zG|apply zH|apply zI) | exact HB.out)))); have n1_ := zM (zS (by repeat (first | (with_reducible first | exact HB.out | apply zG|apply zH|apply zI) | exact HB.out)) hb); clear HB; have HO266 := n0_; have HB := n1_; clear n0_ n1_; (try clear hb); (try clear hb2); (try clear hk); (try clear hi); (try clear ho0)) | ((with_reducible refine gate_callee (f := 13) rfl ?_); refine goesL_ (some 13) rfl rfl Tryd.func13 (by kernel_rfl) rfl #[.agg #[.int .i64 a1, .slice A0 l0.length c0, .string ⟨#[]⟩, .slice none 0 0]] rfl (by (try simp only [List.map_toArray, List.map_cons, List.map_nil]); first | done | rfl | (simp only [List.length_drop, List.length_take]; rfl)) ?_; (refine (msg_List.calls k a1 _ _ l0 (⟨#[]⟩ : ByteArray) _ _ ([] : List (S30)) t267 _ ?side1 ?side2 ?side3 ?side4 ?side5 A4.out).mono ?_); (case side1 => exact GI.below HG.out (by repeat (first | (with_reducible first | exact HB.out | apply zG|apply zH|apply zI) | exact HB.out))); (case side2 => repeat (first | exact (Kd.C_below HR0.out HB.out) | (with_reducible refine Kd.C_alloc ?_ _) | (with_reducible refine Kd.C_drewN ?_ _) | (with_reducible refine Kd.C_drew ?_))); (case side3 => exact HC0.out); (case side4 => exact Kd.C_nil _ _); (case side5 => exact Nat.le_refl _); rintro e w7 ⟨v268, rfl, ho0, hb⟩; refine ⟨_, rfl, ?_⟩; have n0_ := zM (Kd.R_elder' (by (with_reducible repeat (first|apply zD|apply zE|apply zF)); exact HO266.out) (Kd.R_base ho0) hb); have n1_ := zM (Kd.R_lower (Kd.R_new' ho0 (Kd.R_lt (by (with_reducible repeat (first|apply zD|apply zE|apply zF)); exact HO266.out))) (below_size (by repeat (first | (with_reducible first | exact HB.out | apply zG|apply zH|apply zI) | exact HB.out)))); have n2_ := zM (zS (by repeat (first | (with_reducible first | exact HB.out | apply zG|apply zH|apply zI) | exact HB.out)) hb); clear HO266; clear HB; have HO266 := n0_; have HO269 := n1_; have HB := n2_; clear n0_ n1_ n2_; (try clear hb); (try clear hb2); (try clear hk); (try clear hi); (try clear ho0)))
 (try simp only [Act.put, List.setIfInBounds_toArray, List.set_cons_zero, List.set_cons_succ])
 go_cut [34] (fun v34 wc => ∃ (kq : Nat) (x34_4 : Bool), v34 = .bool x34_4 ∧ Aside0 (ostlerlaw14_MsgStrips.j0 kq t264 t267 x34_4 = some r) ∧ Aside0 (kq ≤ k) ∧ Aside0 (Kd.R k30 30 wc w.heap.size (fun k_ => some k_ ≠ (v268 : Value).ownBlock) v265 t264) ∧ Aside0 (Kd.R k30 30 wc w.heap.size (fun k_ => some k_ ≠ (v265 : Value).ownBlock) v268 t267) ∧ Aside0 (Below w.heap.size w wc))
 case first =>
  have H := HC5.out
  clear HC5
  by_cases c8 : (t267.length : Int) = (wrap64 ((t264.length : Int) + 1))
  ·
   rw [if_pos c8] at H; have c8b0 : ((t267.length : Int) == (wrap64 ((t264.length : Int) + 1))) = true := beq_iff_eq.mpr c8; have c8b1 : ((t267.length : Int) != (wrap64 ((t264.length : Int) + 1))) = false := bne_eq_false_iff_eq.mpr c8; clear c8; (first | rw [c8b0] | (simp only [i64_w, i32_w]; rw [c8b0]) | skip)
   by_cases c9 : 0 < (t267.length : Int)
   ·
    rw [if_pos c9] at H; have c9b0 : decide (0 < (t267.length : Int)) = true := decide_eq_true c9; have c9b1 : decide (0 < t267.length) = true := decide_eq_true (by omega); clear c9; by_cases c10 : ((rd_T30 t267 0).f0).toList = ([58, 115, 116, 97, 116, 117, 115] : List UInt8)
    ·
     rw [if_pos c10] at H; have c10b0 : (((rd_T30 t267 0).f0).toList == ([58, 115, 116, 97, 116, 117, 115] : List UInt8)) = true := beq_iff_eq.mpr c10; have c10b1 : (((rd_T30 t267 0).f0).toList != ([58, 115, 116, 97, 116, 117, 115] : List UInt8)) = false := bne_eq_false_iff_eq.mpr c10; clear c10; have H' := zM H; clear H; obtain ⟨Ao11, co11, eo11⟩ := Kd.R_slice HO269.out; subst eo11; obtain ⟨Ao12, co12, eo12⟩ := Kd.R_slice HO266.out; subst eo12; have p270 : 0 ≤ (0 : Int) := (by omega); have q270 : 0 < (t267.length : Int) := of_decide_eq_true (by first | (with_reducible assumption) | assumption); obtain ⟨ad270, e270, hx270_0, hx270_1⟩ := at_T30 (Kd.R_reads' HO269.out).2.2 0 p270 q270; cases e270; have qi270 : (0 < t267.length) = True := eq_true (by omega); (try rw [show ((0 : Int)).toNat = 0 from rfl] at hx270_0)
     (try rw [show 0 * 2 = 0 from rfl] at hx270_0)
     (try rw [Addr.add_zero'] at hx270_0)
     (try rw [show ((0 : Int)).toNat = 0 from rfl] at hx270_1)
     (try rw [show 0 * 2 = 0 from rfl] at hx270_1)
     (try rw [Addr.add_zero'] at hx270_1)
     replace p270 := eq_true p270; replace q270 := eq_true q270; have p271 : 0 ≤ (0 : Int) := (by omega); have q271 : 0 < (t267.length : Int) := of_decide_eq_true (by first | (with_reducible assumption) | assumption); obtain ⟨ad271, e271, hx271_0, hx271_1⟩ := at_T30 (Kd.R_reads' HO269.out).2.2 0 p271 q271; obtain rfl : ad270 = ad271 := (by injection e271); have qi271 : (0 < t267.length) = True := eq_true (by omega); (try rw [show ((0 : Int)).toNat = 0 from rfl] at hx271_0)
     (try rw [show 0 * 2 = 0 from rfl] at hx271_0)
     (try rw [Addr.add_zero'] at hx271_0)
     (try rw [show ((0 : Int)).toNat = 0 from rfl] at hx271_1)
     (try rw [show 0 * 2 = 0 from rfl] at hx271_1)
     (try rw [Addr.add_zero'] at hx271_1)
     replace p271 := eq_true p271; replace q271 := eq_true q271; go_wp2; go_meet
     case rel => exact ⟨_, (((((rd_T30 t267 0).f1).size : Int) != 3)), (by first | rfl | (simp; done) | (simp [*]; done) | (simp [bne_nil_]; done) | (simp only [ByteArray.size_append, Int.natCast_add]; rfl)), H', ⟨by first | omega | exact Nat.le_refl _⟩, ⟨by (with_reducible repeat (first|apply zD|apply zE|apply zF)); exact Kd.R_mono HO266.out (fun _ hk => hk.2)⟩, ⟨by (with_reducible repeat (first|apply zD|apply zE|apply zF)); exact Kd.R_mono HO269.out (fun _ hk => hk.2)⟩, ⟨by repeat (first | (with_reducible first | exact HB.out | apply zG|apply zH|apply zI) | exact HB.out)⟩⟩
    ·
     rw [if_neg c10] at H; have c10b0 : (((rd_T30 t267 0).f0).toList == ([58, 115, 116, 97, 116, 117, 115] : List UInt8)) = false := beq_eq_false_iff_ne.mpr c10; have c10b1 : (((rd_T30 t267 0).f0).toList != ([58, 115, 116, 97, 116, 117, 115] : List UInt8)) = true := bne_iff_ne.mpr c10; have H' := zM H; clear H; obtain ⟨Ao13, co13, eo13⟩ := Kd.R_slice HO269.out; subst eo13; obtain ⟨Ao14, co14, eo14⟩ := Kd.R_slice HO266.out; subst eo14; have p270 : 0 ≤ (0 : Int) := (by omega); have q270 : 0 < (t267.length : Int) := of_decide_eq_true (by first | (with_reducible assumption) | assumption); obtain ⟨ad270, e270, hx270_0, hx270_1⟩ := at_T30 (Kd.R_reads' HO269.out).2.2 0 p270 q270; cases e270; have qi270 : (0 < t267.length) = True := eq_true (by omega); (try rw [show ((0 : Int)).toNat = 0 from rfl] at hx270_0)
     (try rw [show 0 * 2 = 0 from rfl] at hx270_0)
     (try rw [Addr.add_zero'] at hx270_0)
     (try rw [show ((0 : Int)).toNat = 0 from rfl] at hx270_1)
     (try rw [show 0 * 2 = 0 from rfl] at hx270_1)
     (try rw [Addr.add_zero'] at hx270_1)
     replace p270 := eq_true p270; replace q270 := eq_true q270; go_wp2; go_meet
     case rel => exact ⟨_, (true), (by first | rfl | (simp; done) | (simp [*]; done) | (simp [bne_nil_]; done) | (simp only [ByteArray.size_append, Int.natCast_add]; rfl)), H', ⟨by first | omega | exact Nat.le_refl _⟩, ⟨by (with_reducible repeat (first|apply zD|apply zE|apply zF)); exact Kd.R_mono HO266.out (fun _ hk => hk.2)⟩, ⟨by (with_reducible repeat (first|apply zD|apply zE|apply zF)); exact Kd.R_mono HO269.out (fun _ hk => hk.2)⟩, ⟨by repeat (first | (with_reducible first | exact HB.out | apply zG|apply zH|apply zI) | exact HB.out)⟩⟩
   ·
    rw [if_neg c9] at H
    exact absurd H (by simp)
  ·
   rw [if_neg c8] at H; have c8b0 : ((t267.length : Int) == (wrap64 ((t264.length : Int) + 1))) = false := beq_eq_false_iff_ne.mpr c8; have c8b1 : ((t267.length : Int) != (wrap64 ((t264.length : Int) + 1))) = true := bne_iff_ne.mpr c8; (first | rw [c8b0] | (simp only [i64_w, i32_w]; rw [c8b0]) | skip)
   have H' := zM H; clear H; obtain ⟨Ao15, co15, eo15⟩ := Kd.R_slice HO269.out; subst eo15; obtain ⟨Ao16, co16, eo16⟩ := Kd.R_slice HO266.out; subst eo16; go_wp2; go_meet
   case rel => exact ⟨_, (true), (by first | rfl | (simp; done) | (simp [*]; done) | (simp [bne_nil_]; done) | (simp only [ByteArray.size_append, Int.natCast_add]; rfl)), H', ⟨by first | omega | exact Nat.le_refl _⟩, ⟨by (with_reducible repeat (first|apply zD|apply zE|apply zF)); exact Kd.R_mono HO266.out (fun _ hk => hk.2)⟩, ⟨by (with_reducible repeat (first|apply zD|apply zE|apply zF)); exact Kd.R_mono HO269.out (fun _ hk => hk.2)⟩, ⟨by repeat (first | (with_reducible first | exact HB.out | apply zG|apply zH|apply zI) | exact HB.out)⟩⟩
 case rest =>
  clear HC5
  (try clear c1)
  (try clear p2)
  (try clear q2)
  (try clear hx2)
  (try clear qi2)
  (try clear c5)
  (try clear p6)
  (try clear c8)
  (try clear c8b0)
  (try clear c8b1)
  (try clear c9)
  (try clear c9b0)
  (try clear c9b1)
  (try clear c10)
  (try clear c10b0)
  (try clear c10b1)
  (try clear c13)
  (try clear hx270_0)
  (try clear hx270_1)
  (try clear hx271_0)
  (try clear hx271_1)
  (try clear p270)
  (try clear p271)
  (try clear q270)
  (try clear q271)
  obtain ⟨kq, x34_4, rfl, HA, HJ4, HO_5, HO_6, HB⟩ := hcut
  cases kq with
  | zero => exact absurd HA.out (by simp [ostlerlaw14_MsgStrips.j0])
  | succ kj4 =>
   have H := HA.out; clear HA; simp only [ostlerlaw14_MsgStrips.j0] at H; by_cases c17 : x34_4 = true
   ·
    subst c17; have H1 : (none) = some r := by rw [if_pos rfl] at H; exact H
    clear H; have H := H1; clear H1
    exact absurd H (by simp)
   ·
    replace c17 := Bool.eq_false_iff.mpr c17; subst c17; have H1 : (ostlerlaw14_MsgStrips.l0 kj4 t264 t267 0) = some r := by rw [if_neg (show ¬ (false = true) by decide)] at H; exact H
    clear H; have H := H1; clear H1; have H' := zM H; clear H; go_wp2; go_loopg [7] kj4 (fun kq v7 w' => ∃ (x7_2 : Int), v7 = .int .i64 x7_2 ∧ Aside0 (ostlerlaw14_MsgStrips.l0 kq t264 t267 x7_2 = some r) ∧ Aside0 (kq ≤ kj4) ∧ Aside0 (Kd.R k30 30 w' w.heap.size (fun k_ => some k_ ≠ (v268 : Value).ownBlock) v265 t264) ∧ Aside0 (Kd.R k30 30 w' w.heap.size (fun k_ => some k_ ≠ (v265 : Value).ownBlock) v268 t267) ∧ Aside0 (Below w.heap.size w w'))
    case atStart => exact ⟨(0), (by first | rfl | (simp; done) | (simp [*]; done) | (simp [bne_nil_]; done) | (simp only [ByteArray.size_append, Int.natCast_add]; rfl)), H', ⟨Nat.le_refl _⟩, ⟨by (with_reducible repeat (first|apply zD|apply zE|apply zF)); exact HO_5.out⟩, ⟨by (with_reducible repeat (first|apply zD|apply zE|apply zF)); exact HO_6.out⟩, ⟨by repeat (first | (with_reducible first | exact HB.out | apply zG|apply zH|apply zI) | exact HB.out)⟩⟩
    case round =>
     clear H'; (try clear c1); (try clear p2); (try clear q2); (try clear hx2); (try clear qi2); (try clear c5); (try clear p6); (try clear c8); (try clear c8b0); (try clear c8b1); (try clear c9); (try clear c9b0); (try clear c9b1); (try clear c10); (try clear c10b0); (try clear c10b1); (try clear c13); (try clear c17); (try clear hx270_0); (try clear hx270_1); (try clear hx271_0); (try clear hx271_1); (try clear p2); (try clear p270); (try clear p271); (try clear p6); (try clear q2); (try clear q270); (try clear q271); obtain ⟨x7_2, rfl, HA, HK2, HO_5, HO_6, HB⟩ := hrel
     cases gk with
     | zero => exact absurd HA.out (by simp [ostlerlaw14_MsgStrips.l0])
     | succ k2 =>
      have H := HA.out; clear HA; simp only [ostlerlaw14_MsgStrips.l0] at H; by_cases c18 : x7_2 < (t264.length : Int)
      ·
       rw [if_pos c18] at H; have c18b0 : decide (x7_2 < (t264.length : Int)) = true := decide_eq_true c18; clear c18; by_cases c19 : 0 ≤ x7_2
       ·
        rw [if_pos c19] at H; have c19b0 : decide (0 ≤ x7_2) = true := decide_eq_true c19; clear c19; replace H := Option.bind_eq_some_iff.mp H; obtain ⟨t278, A200, H⟩ := H; replace H : (if t278 = true then (none) else (if 0 ≤ (wrap64 (x7_2 + 1)) then (if (wrap64 (x7_2 + 1)) < (t267.length : Int) then ((ostlerref01_Lower.f ((rd_T30 t264 x7_2).f0)).bind fun t281 => (if ((rd_T30 t267 (wrap64 (x7_2 + 1))).f0).toList = t281.toList then (if ((rd_T30 t267 (wrap64 (x7_2 + 1))).f1).toList = ((rd_T30 t264 x7_2).f1).toList then (ostlerlaw14_MsgStrips.l0 k2 t264 t267 (wrap64 (x7_2 + 1))) else (none)) else (none))) else (none)) else (none))) = some r := H; have A20 := zM A200; clear A200; by_cases c21 : t278 = true
        ·
         subst c21; have H1 : (none) = some r := by rw [if_pos rfl] at H; exact H
         clear H; have H := H1; clear H1
         exact absurd H (by simp)
        ·
         replace c21 := Bool.eq_false_iff.mpr c21; subst c21; have H1 : (if 0 ≤ (wrap64 (x7_2 + 1)) then (if (wrap64 (x7_2 + 1)) < (t267.length : Int) then ((ostlerref01_Lower.f ((rd_T30 t264 x7_2).f0)).bind fun t281 => (if ((rd_T30 t267 (wrap64 (x7_2 + 1))).f0).toList = t281.toList then (if ((rd_T30 t267 (wrap64 (x7_2 + 1))).f1).toList = ((rd_T30 t264 x7_2).f1).toList then (ostlerlaw14_MsgStrips.l0 k2 t264 t267 (wrap64 (x7_2 + 1))) else (none)) else (none))) else (none)) else (none)) = some r := by rw [if_neg (show ¬ (false = true) by decide)] at H; exact H
         clear H; have H := H1; clear H1; obtain ⟨ji22, hji22⟩ : ∃ j_ : Int, (wrap64 (x7_2 + 1)) = j_ := ⟨_, rfl⟩; replace H : (if 0 ≤ (ji22) then (if (ji22) < (t267.length : Int) then ((ostlerref01_Lower.f ((rd_T30 t264 x7_2).f0)).bind fun t281 => (if ((rd_T30 t267 (ji22)).f0).toList = t281.toList then (if ((rd_T30 t267 (ji22)).f1).toList = ((rd_T30 t264 x7_2).f1).toList then (ostlerlaw14_MsgStrips.l0 k2 t264 t267 ji22) else (none)) else (none))) else (none)) else (none)) = some r := by first | (rw [hji22] at H; exact H) | (simp only [hji22] at H ⊢; exact H)
         (try rw [hji22] at A20)
         have hji22w : (IntKind.i64.wrap (x7_2 + 1)) = ji22 := (i64_w _).trans hji22; by_cases c23 : 0 ≤ (ji22)
         ·
          rw [if_pos c23] at H; have c23b0 : decide (0 ≤ (ji22)) = true := decide_eq_true c23; clear c23; by_cases c24 : (ji22) < (t267.length : Int)
          ·
           rw [if_pos c24] at H; have c24b0 : decide ((ji22) < (t267.length : Int)) = true := decide_eq_true c24; clear c24; replace H := Option.bind_eq_some_iff.mp H; obtain ⟨t281, A250, H⟩ := H; replace H : (if ((rd_T30 t267 (ji22)).f0).toList = t281.toList then (if ((rd_T30 t267 (ji22)).f1).toList = ((rd_T30 t264 x7_2).f1).toList then (ostlerlaw14_MsgStrips.l0 k2 t264 t267 ji22) else (none)) else (none)) = some r := H; have A25 := zM A250; clear A250; by_cases c26 : ((rd_T30 t267 (ji22)).f0).toList = t281.toList
           ·
            rw [if_pos c26] at H; have c26b0 : (((rd_T30 t267 (ji22)).f0).toList == t281.toList) = true := beq_iff_eq.mpr c26; have c26b1 : (((rd_T30 t267 (ji22)).f0).toList != t281.toList) = false := bne_eq_false_iff_eq.mpr c26; clear c26; by_cases c27 : ((rd_T30 t267 (ji22)).f1).toList = ((rd_T30 t264 x7_2).f1).toList
            ·
             rw [if_pos c27] at H; have c27b0 : (((rd_T30 t267 (ji22)).f1).toList == ((rd_T30 t264 x7_2).f1).toList) = true := beq_iff_eq.mpr c27; have c27b1 : (((rd_T30 t267 (ji22)).f1).toList != ((rd_T30 t264 x7_2).f1).toList) = false := bne_eq_false_iff_eq.mpr c27; clear c27; have H' := zM H; clear H; obtain ⟨Ao28, co28, eo28⟩ := Kd.R_slice HO_5.out; subst eo28; try go_wp2
             obtain ⟨Aq31, cq31, eq31⟩ := Kd.R_slice HO_6.out; subst eq31; have n0_ := zM (Kd.R_drew HO_5.out); have n1_ := zM (Kd.R_drew HO_6.out); have n2_ := zM (below_drew1 HB.out); clear HO_5; clear HO_6; clear HB; have HO_5 := n0_; have HO_6 := n1_; have HB := n2_; clear n0_ n1_ n2_; have p277 : 0 ≤ (x7_2 : Int) := of_decide_eq_true (by first | (with_reducible assumption) | assumption); have q277 : x7_2 < (t264.length : Int) := of_decide_eq_true (by first | (with_reducible assumption) | assumption); obtain ⟨ad277, e277, hx277_0, hx277_1⟩ := at_T30 (Kd.R_reads' HO_5.out).2.2 x7_2 p277 q277; cases e277; replace p277 := eq_true p277; replace q277 := eq_true q277; have p279 : 0 ≤ ((ji22) : Int) := of_decide_eq_true (by first | (with_reducible assumption) | assumption); have q279 : (ji22) < (t267.length : Int) := of_decide_eq_true (by first | (with_reducible assumption) | assumption); obtain ⟨ad279, e279, hx279_0, hx279_1⟩ := at_T30 (Kd.R_reads' HO_6.out).2.2 (ji22) p279 q279; cases e279; replace p279 := eq_true p279; replace q279 := eq_true q279; have p280 : 0 ≤ (x7_2 : Int) := of_decide_eq_true (by first | (with_reducible assumption) | assumption); have q280 : x7_2 < (t264.length : Int) := of_decide_eq_true (by first | (with_reducible assumption) | assumption); obtain ⟨ad280, e280, hx280_0, hx280_1⟩ := at_T30 (Kd.R_reads' HO_5.out).2.2 x7_2 p280 q280; obtain rfl : ad277 = ad280 := (by injection e280); replace p280 := eq_true p280; replace q280 := eq_true q280; have p282 : 0 ≤ ((ji22) : Int) := of_decide_eq_true (by first | (with_reducible assumption) | assumption); have q282 : (ji22) < (t267.length : Int) := of_decide_eq_true (by first | (with_reducible assumption) | assumption); obtain ⟨ad282, e282, hx282_0, hx282_1⟩ := at_T30 (Kd.R_reads' HO_6.out).2.2 (ji22) p282 q282; obtain rfl : ad279 = ad282 := (by injection e282); replace p282 := eq_true p282; replace q282 := eq_true q282; have p283 : 0 ≤ (x7_2 : Int) := of_decide_eq_true (by first | (with_reducible assumption) | assumption); have q283 : x7_2 < (t264.length : Int) := of_decide_eq_true (by first | (with_reducible assumption) | assumption); obtain ⟨ad283, e283, hx283_0, hx283_1⟩ := at_T30 (Kd.R_reads' HO_5.out).2.2 x7_2 p283 q283; obtain rfl : ad277 = ad283 := (by injection e283); replace p283 := eq_true p283; replace q283 := eq_true q283; refine start_ (n := 35) (S := fun w' => w'.cell? (ad277.add ((x7_2).toNat * 2)) = some (.string ((rd_T30 t264 x7_2).f0)) ∧ w'.cell? ⟨(ad277.add ((x7_2).toNat * 2)).block, (ad277.add ((x7_2).toNat * 2)).off + 1, none⟩ = some (.string ((rd_T30 t264 x7_2).f1)) ∧ w'.cell? (ad279.add (((ji22)).toNat * 2)) = some (.string ((rd_T30 t267 (ji22)).f0)) ∧ w'.cell? ⟨(ad279.add (((ji22)).toNat * 2)).block, (ad279.add (((ji22)).toNat * 2)).off + 1, none⟩ = some (.string ((rd_T30 t267 (ji22)).f1)) ∧ w'.cell? (ad277.add ((x7_2).toNat * 2)) = some (.string ((rd_T30 t264 x7_2).f0)) ∧ w'.cell? ⟨(ad277.add ((x7_2).toNat * 2)).block, (ad277.add ((x7_2).toNat * 2)).off + 1, none⟩ = some (.string ((rd_T30 t264 x7_2).f1)) ∧ w'.cell? (ad279.add (((ji22)).toNat * 2)) = some (.string ((rd_T30 t267 (ji22)).f0)) ∧ w'.cell? ⟨(ad279.add (((ji22)).toNat * 2)).block, (ad279.add (((ji22)).toNat * 2)).off + 1, none⟩ = some (.string ((rd_T30 t267 (ji22)).f1)) ∧ w'.cell? (ad277.add ((x7_2).toNat * 2)) = some (.string ((rd_T30 t264 x7_2).f0)) ∧ w'.cell? ⟨(ad277.add ((x7_2).toNat * 2)).block, (ad277.add ((x7_2).toNat * 2)).off + 1, none⟩ = some (.string ((rd_T30 t264 x7_2).f1))) (ds := []) #[false, false, false, false, false, false, false, false, false, false, false, false, false, false, false, false, false, false, false, false, false, false, false, false, false, false, false, false, false, false, false, false, false, false, false] (by kernel_rfl) rfl rfl ⟨hx277_0, hx277_1, hx279_0, hx279_1, hx280_0, hx280_1, hx282_0, hx282_1, hx283_0, hx283_1⟩ (fun hHeld => ?_); refine with_tabW ostlerlaw14_MsgStrips.tab8 ostlerlaw14_MsgStrips.bits8 (fun HT_ HW_ => ?_)
             generalize wr.drew = w29 at HO_5 HO_6 HB hx277_0 hx277_1 hx279_0 hx279_1 hx280_0 hx280_1 hx282_0 hx282_1 hx283_0 hx283_1 hHeld ⊢
             refine pure_ (i := 0) (N := some 41) (v := ?_) (a' := ?_) #[true, false, false, false, false, false, false, false, false, false, false, false, false, false, false, false, false, false, false, false, false, false, false, false, false, false, false, false, false, false, false, false, false, false, false] rfl rfl (any_of HT_.out (by kernel_rfl)) (fun _ _ _ h => h) (Or.inl ⟨by rfl, ?_⟩) ?_ ?_; rotate_left
             ·
              intro w'; go_simp
              with_reducible rfl
             rotate_left
             ·
              simp only [Act.put, zU, zV, zW, i64_w, i32_w]; rfl
             refine pure_ (i := 1) (N := some 42) (v := ?_) (a' := ?_) #[true, true, false, false, false, false, false, false, false, false, false, false, false, false, false, false, false, false, false, false, false, false, false, false, false, false, false, false, false, false, false, false, false, false, false] rfl rfl (any_of HT_.out (by kernel_rfl)) (fun _ _ _ h => h) (Or.inl ⟨by rfl, ?_⟩) ?_ ?_; rotate_left
             ·
              intro w'; go_simp
              with_reducible rfl
             rotate_left
             ·
              simp only [Act.put, zU, zV, zW, i64_w, i32_w]; rfl
             refine pure_ (i := 2) (N := some 43) (v := ?_) (a' := ?_) #[true, true, true, false, false, false, false, false, false, false, false, false, false, false, false, false, false, false, false, false, false, false, false, false, false, false, false, false, false, false, false, false, false, false, false] rfl rfl (any_of HT_.out (by kernel_rfl)) (fun _ _ _ h => h) (Or.inl ⟨by rfl, ?_⟩) ?_ ?_; rotate_left
             ·
              intro w'; go_simp
              with_reducible rfl
             rotate_left
             ·
              simp only [Act.put, zU, zV, zW, i64_w, i32_w]; rfl
             refine pure_ (i := 3) (N := some 44) (v := ?_) (a' := ?_) #[true, true, true, true, false, false, false, false, false, false, false, false, false, false, false, false, false, false, false, false, false, false, false, false, false, false, false, false, false, false, false, false, false, false, false] rfl rfl (any_of HT_.out (by kernel_rfl)) (fun _ _ _ h => h) (Or.inl ⟨by rfl, ?_⟩) ?_ ?_; rotate_left
             ·
              intro w'; go_simp
              with_reducible rfl
             rotate_left
             ·
              simp only [Act.put, zU, zV, zW, i64_w, i32_w]; rfl
             refine take_ (i := 4) (N := some 45) (v := ?_) (a' := ?_) #[true, true, true, true, true, false, false, false, false, false, false, false, false, false, false, false, false, false, false, false, false, false, false, false, false, false, false, false, false, false, false, false, false, false, false] rfl rfl (take_ofW HT_.out HW_.out (by kernel_rfl)) (fun _ _ _ h => h) (Or.inl ⟨by rfl, ?_⟩) hHeld ?_ ?_; rotate_left
             ·
              rintro w' ⟨s0, s1, s2, s3, s4, s5, s6, s7, s8, s9⟩
              go_simp
              with_reducible rfl
             rotate_left
             ·
              simp only [Act.put, zU, zV, zW, i64_w, i32_w]; rfl
             refine one_ (i := 5) (N := some 46) #[true, true, true, true, true, true, false, false, false, false, false, false, false, false, false, false, false, false, false, false, false, false, false, false, false, false, false, false, false, false, false, false, false, false, false] rfl rfl (one_of HT_.out (by kernel_rfl)) (by decide) (fun K hK => ?_); refine goes_ Tryd.func8 (by kernel_rfl) rfl #[.string ((rd_T30 t264 x7_2).f0)] (by rfl) rfl rfl (by (try simp only [List.map_toArray, List.map_cons, List.map_nil]); first | done | rfl | (simp only [List.length_drop, List.length_take]; rfl)) ?_
             with_reducible refine (msg_Bound.calls ((rd_T30 t264 x7_2).f0) false _ A20.out).mono ?_
             rintro e w30 ⟨rfl, hb⟩
             have HS0_ := (hb.cell (World.block_lt_of_cell? _ _ (hHeld.1))).trans (hHeld.1); have HS1_ := (hb.cell (World.block_lt_of_cell? _ _ (hHeld.2.1))).trans (hHeld.2.1); have HS2_ := (hb.cell (World.block_lt_of_cell? _ _ (hHeld.2.2.1))).trans (hHeld.2.2.1); have HS3_ := (hb.cell (World.block_lt_of_cell? _ _ (hHeld.2.2.2.1))).trans (hHeld.2.2.2.1); have HS4_ := (hb.cell (World.block_lt_of_cell? _ _ (hHeld.2.2.2.2.1))).trans (hHeld.2.2.2.2.1); have HS5_ := (hb.cell (World.block_lt_of_cell? _ _ (hHeld.2.2.2.2.2.1))).trans (hHeld.2.2.2.2.2.1); have HS6_ := (hb.cell (World.block_lt_of_cell? _ _ (hHeld.2.2.2.2.2.2.1))).trans (hHeld.2.2.2.2.2.2.1); have HS7_ := (hb.cell (World.block_lt_of_cell? _ _ (hHeld.2.2.2.2.2.2.2.1))).trans (hHeld.2.2.2.2.2.2.2.1); have HS8_ := (hb.cell (World.block_lt_of_cell? _ _ (hHeld.2.2.2.2.2.2.2.2.1))).trans (hHeld.2.2.2.2.2.2.2.2.1); have HS9_ := (hb.cell (World.block_lt_of_cell? _ _ (hHeld.2.2.2.2.2.2.2.2.2))).trans (hHeld.2.2.2.2.2.2.2.2.2); refine ⟨_, rfl, ?_⟩; have n0_ := zM (Kd.R_below (by (with_reducible repeat (first|apply zD|apply zE|apply zF)); exact HO_5.out) hb)
             have n1_ := zM (Kd.R_below (by (with_reducible repeat (first|apply zD|apply zE|apply zF)); exact HO_6.out) hb); have n2_ := zM (zS (by repeat (first | (with_reducible first | exact HB.out | apply zG|apply zH|apply zI) | exact HB.out)) hb)
             clear HO_5; clear HO_6; clear HB; have HO_5 := n0_; have HO_6 := n1_; have HB := n2_; clear n0_ n1_ n2_; (try clear hb); (try clear hb2); (try clear hk); (try clear hi); obtain ⟨Ao31, co31, eo31⟩ := Kd.R_slice HO_6.out; (first | subst eo31 | (injection eo31 with f1_ f2_ f3_; have f4_ := f1_.symm; have f5_ := f3_.symm; clear f1_ f2_ f3_; subst f4_; subst f5_))
             refine hK.out _ _ ⟨HS0_, HS1_, HS2_, HS3_, HS4_, HS5_, HS6_, HS7_, HS8_, HS9_⟩ (fun hHeld => ?_); clear hK K; refine norm_ (a' := ?_) ?_ ?_; rotate_left
             ·
              show Act.put _ (some 46) _ = _
              simp only [Act.put, zU, zV, zW, i64_w, i32_w]; rfl
             refine pure_ (i := 6) (N := some 47) (v := ?_) (a' := ?_) #[true, true, true, true, true, true, true, false, false, false, false, false, false, false, false, false, false, false, false, false, false, false, false, false, false, false, false, false, false, false, false, false, false, false, false] rfl rfl (any_of HT_.out (by kernel_rfl)) (fun _ _ _ h => h) (Or.inl ⟨by rfl, ?_⟩) ?_ ?_; rotate_left
             ·
              intro w'; go_simp
              with_reducible rfl
             rotate_left
             ·
              simp only [Act.put, zU, zV, zW, i64_w, i32_w]; rfl
             refine pure_ (i := 7) (N := some 48) (v := ?_) (a' := ?_) #[true, true, true, true, true, true, true, true, false, false, false, false, false, false, false, false, false, false, false, false, false, false, false, false, false, false, false, false, false, false, false, false, false, false, false] rfl rfl (any_of HT_.out (by kernel_rfl)) (fun _ _ _ h => h) (Or.inl ⟨by rfl, ?_⟩) ?_ ?_; rotate_left
             ·
              intro w'; go_simp
              with_reducible rfl
             rotate_left
             ·
              simp only [Act.put, zU, zV, zW, i64_w, i32_w]; rfl
             refine pure_ (i := 8) (N := some 49) (v := ?_) (a' := ?_) #[true, true, true, true, true, true, true, true, true, false, false, false, false, false, false, false, false, false, false, false, false, false, false, false, false, false, false, false, false, false, false, false, false, false, false] rfl rfl (any_of HT_.out (by kernel_rfl)) (fun _ _ _ h => h) (Or.inl ⟨by rfl, ?_⟩) ?_ ?_; rotate_left
             ·
              intro w'; go_simp
              with_reducible rfl
             rotate_left
             ·
              simp only [Act.put, zU, zV, zW, i64_w, i32_w]; rfl
             refine pure_ (i := 9) (N := some 50) (v := ?_) (a' := ?_) #[true, true, true, true, true, true, true, true, true, true, false, false, false, false, false, false, false, false, false, false, false, false, false, false, false, false, false, false, false, false, false, false, false, false, false] rfl rfl (any_of HT_.out (by kernel_rfl)) (fun _ _ _ h => h) (Or.inl ⟨by rfl, ?_⟩) ?_ ?_; rotate_left
             ·
              intro w'; go_simp
              with_reducible rfl
             rotate_left
             ·
              simp only [Act.put, zU, zV, zW, i64_w, i32_w]; rfl
             refine pure_ (i := 10) (N := some 51) (v := ?_) (a' := ?_) #[true, true, true, true, true, true, true, true, true, true, true, false, false, false, false, false, false, false, false, false, false, false, false, false, false, false, false, false, false, false, false, false, false, false, false] rfl rfl (any_of HT_.out (by kernel_rfl)) (fun _ _ _ h => h) (Or.inl ⟨by rfl, ?_⟩) ?_ ?_; rotate_left
             ·
              intro w'; go_simp
              with_reducible rfl
             rotate_left
             ·
              simp only [Act.put, zU, zV, zW, i64_w, i32_w]; rfl
             refine pure_ (i := 11) (N := some 52) (v := ?_) (a' := ?_) #[true, true, true, true, true, true, true, true, true, true, true, true, false, false, false, false, false, false, false, false, false, false, false, false, false, false, false, false, false, false, false, false, false, false, false] rfl rfl (any_of HT_.out (by kernel_rfl)) (fun _ _ _ h => h) (Or.inl ⟨by rfl, ?_⟩) ?_ ?_; rotate_left
             ·
              intro w'; go_simp
              with_reducible rfl
             rotate_left
             ·
              simp only [Act.put, zU, zV, zW, i64_w, i32_w]; rfl
             refine pure_ (i := 13) (N := some 54) (v := ?_) (a' := ?_) #[true, true, true, true, true, true, true, true, true, true, true, true, false, true, false, false, false, false, false, false, false, false, false, false, false, false, false, false, false, false, false, false, false, false, false] rfl rfl (any_of HT_.out (by kernel_rfl)) (fun _ _ _ h => h) (Or.inl ⟨by rfl, ?_⟩) ?_ ?_; rotate_left
             ·
              intro w'; go_simp
              with_reducible rfl
             rotate_left
             ·
              simp only [Act.put, zU, zV, zW, i64_w, i32_w]; rfl
             refine pure_ (i := 14) (N := some 55) (v := ?_) (a' := ?_) #[true, true, true, true, true, true, true, true, true, true, true, true, false, true, true, false, false, false, false, false, false, false, false, false, false, false, false, false, false, false, false, false, false, false, false] rfl rfl (any_of HT_.out (by kernel_rfl)) (fun _ _ _ h => h) (Or.inl ⟨by rfl, ?_⟩) ?_ ?_; rotate_left
             ·
              intro w'; go_simp
              with_reducible rfl
             rotate_left
             ·
              simp only [Act.put, zU, zV, zW, i64_w, i32_w]; rfl
             refine pure_ (i := 15) (N := some 56) (v := ?_) (a' := ?_) #[true, true, true, true, true, true, true, true, true, true, true, true, false, true, true, true, false, false, false, false, false, false, false, false, false, false, false, false, false, false, false, false, false, false, false] rfl rfl (any_of HT_.out (by kernel_rfl)) (fun _ _ _ h => h) (Or.inl ⟨by rfl, ?_⟩) ?_ ?_; rotate_left
             ·
              intro w'; go_simp
              with_reducible rfl
             rotate_left
             ·
              simp only [Act.put, zU, zV, zW, i64_w, i32_w]; rfl
             refine pure_ (i := 16) (N := some 57) (v := ?_) (a' := ?_) #[true, true, true, true, true, true, true, true, true, true, true, true, false, true, true, true, true, false, false, false, false, false, false, false, false, false, false, false, false, false, false, false, false, false, false] rfl rfl (any_of HT_.out (by kernel_rfl)) (fun _ _ _ h => h) (Or.inl ⟨by rfl, ?_⟩) ?_ ?_; rotate_left
             ·
              intro w'; go_simp
              with_reducible rfl
             rotate_left
             ·
              simp only [Act.put, zU, zV, zW, i64_w, i32_w]; rfl
             refine take_ (i := 12) (N := some 53) (v := ?_) (a' := ?_) #[true, true, true, true, true, true, true, true, true, true, true, true, true, true, true, true, true, false, false, false, false, false, false, false, false, false, false, false, false, false, false, false, false, false, false] rfl rfl (take_ofW HT_.out HW_.out (by kernel_rfl)) (fun _ _ _ h => h) (Or.inl ⟨by rfl, ?_⟩) hHeld ?_ ?_; rotate_left
             ·
              rintro w' ⟨s0, s1, s2, s3, s4, s5, s6, s7, s8, s9⟩
              go_simp
              with_reducible rfl
             rotate_left
             ·
              simp only [Act.put, zU, zV, zW, i64_w, i32_w]; rfl
             refine take_ (i := 17) (N := some 58) (v := ?_) (a' := ?_) #[true, true, true, true, true, true, true, true, true, true, true, true, true, true, true, true, true, true, false, false, false, false, false, false, false, false, false, false, false, false, false, false, false, false, false] rfl rfl (take_ofW HT_.out HW_.out (by kernel_rfl)) (fun _ _ _ h => h) (Or.inl ⟨by rfl, ?_⟩) hHeld ?_ ?_; rotate_left
             ·
              rintro w' ⟨s0, s1, s2, s3, s4, s5, s6, s7, s8, s9⟩
              go_simp
              with_reducible rfl
             rotate_left
             ·
              simp only [Act.put, zU, zV, zW, i64_w, i32_w]; rfl
             refine one_ (i := 18) (N := some 59) #[true, true, true, true, true, true, true, true, true, true, true, true, true, true, true, true, true, true, true, false, false, false, false, false, false, false, false, false, false, false, false, false, false, false, false] rfl rfl (one_of HT_.out (by kernel_rfl)) (by decide) (fun K hK => ?_); refine goes_ Tryd.func9 (by kernel_rfl) rfl #[.string ((rd_T30 t264 x7_2).f0)] (by rfl) rfl rfl (by (try simp only [List.map_toArray, List.map_cons, List.map_nil]); first | done | rfl | (simp only [List.length_drop, List.length_take]; rfl)) ?_
             with_reducible refine (ostlerref01_Lower.calls ((rd_T30 t264 x7_2).f0) t281 _ A25.out).mono ?_
             rintro e w32 ⟨rfl, hb⟩
             have HS0_ := (hb.cell (World.block_lt_of_cell? _ _ (hHeld.1))).trans (hHeld.1); have HS1_ := (hb.cell (World.block_lt_of_cell? _ _ (hHeld.2.1))).trans (hHeld.2.1); have HS2_ := (hb.cell (World.block_lt_of_cell? _ _ (hHeld.2.2.1))).trans (hHeld.2.2.1); have HS3_ := (hb.cell (World.block_lt_of_cell? _ _ (hHeld.2.2.2.1))).trans (hHeld.2.2.2.1); have HS4_ := (hb.cell (World.block_lt_of_cell? _ _ (hHeld.2.2.2.2.1))).trans (hHeld.2.2.2.2.1); have HS5_ := (hb.cell (World.block_lt_of_cell? _ _ (hHeld.2.2.2.2.2.1))).trans (hHeld.2.2.2.2.2.1); have HS6_ := (hb.cell (World.block_lt_of_cell? _ _ (hHeld.2.2.2.2.2.2.1))).trans (hHeld.2.2.2.2.2.2.1); have HS7_ := (hb.cell (World.block_lt_of_cell? _ _ (hHeld.2.2.2.2.2.2.2.1))).trans (hHeld.2.2.2.2.2.2.2.1); have HS8_ := (hb.cell (World.block_lt_of_cell? _ _ (hHeld.2.2.2.2.2.2.2.2.1))).trans (hHeld.2.2.2.2.2.2.2.2.1); have HS9_ := (hb.cell (World.block_lt_of_cell? _ _ (hHeld.2.2.2.2.2.2.2.2.2))).trans (hHeld.2.2.2.2.2.2.2.2.2); refine ⟨_, rfl, ?_⟩; have n0_ := zM (Kd.R_below (by (with_reducible repeat (first|apply zD|apply zE|apply zF)); exact HO_5.out) hb)
             have n1_ := zM (Kd.R_below (by (with_reducible repeat (first|apply zD|apply zE|apply zF)); exact HO_6.out) hb); have n2_ := zM (zS (by repeat (first | (with_reducible first | exact HB.out | apply zG|apply zH|apply zI) | exact HB.out)) hb)
             clear HO_5; clear HO_6; clear HB; have HO_5 := n0_; have HO_6 := n1_; have HB := n2_; clear n0_ n1_ n2_; (try clear hb); (try clear hb2); (try clear hk); (try clear hi); refine hK.out _ _ ⟨HS0_, HS1_, HS2_, HS3_, HS4_, HS5_, HS6_, HS7_, HS8_, HS9_⟩ (fun hHeld => ?_); clear hK K; refine norm_ (a' := ?_) ?_ ?_; rotate_left
             ·
              show Act.put _ (some 59) _ = _
              simp only [Act.put, zU, zV, zW, i64_w, i32_w]; rfl
             refine pure_ (i := 19) (N := some 60) (v := ?_) (a' := ?_) #[true, true, true, true, true, true, true, true, true, true, true, true, true, true, true, true, true, true, true, true, false, false, false, false, false, false, false, false, false, false, false, false, false, false, false] rfl rfl (any_of HT_.out (by kernel_rfl)) (fun _ _ _ h => h) (Or.inl ⟨by rfl, ?_⟩) ?_ ?_; rotate_left
             ·
              intro w'; go_simp
              with_reducible rfl
             rotate_left
             ·
              simp only [Act.put, zU, zV, zW, i64_w, i32_w]; rfl
             refine pure_ (i := 20) (N := some 61) (v := ?_) (a' := ?_) #[true, true, true, true, true, true, true, true, true, true, true, true, true, true, true, true, true, true, true, true, true, false, false, false, false, false, false, false, false, false, false, false, false, false, false] rfl rfl (any_of HT_.out (by kernel_rfl)) (fun _ _ _ h => h) (Or.inl ⟨by rfl, ?_⟩) ?_ ?_; rotate_left
             ·
              intro w'; go_simp
              with_reducible rfl
             rotate_left
             ·
              simp only [Act.put, zU, zV, zW, i64_w, i32_w]; rfl
             refine pure_ (i := 21) (N := some 62) (v := ?_) (a' := ?_) #[true, true, true, true, true, true, true, true, true, true, true, true, true, true, true, true, true, true, true, true, true, true, false, false, false, false, false, false, false, false, false, false, false, false, false] rfl rfl (any_of HT_.out (by kernel_rfl)) (fun _ _ _ h => h) (Or.inl ⟨by rfl, ?_⟩) ?_ ?_; rotate_left
             ·
              intro w'; go_simp
              with_reducible rfl
             rotate_left
             ·
              simp only [Act.put, zU, zV, zW, i64_w, i32_w]; rfl
             refine pure_ (i := 22) (N := some 63) (v := ?_) (a' := ?_) #[true, true, true, true, true, true, true, true, true, true, true, true, true, true, true, true, true, true, true, true, true, true, true, false, false, false, false, false, false, false, false, false, false, false, false] rfl rfl (any_of HT_.out (by kernel_rfl)) (fun _ _ _ h => h) (Or.inl ⟨by rfl, ?_⟩) ?_ ?_; rotate_left
             ·
              intro w'; go_simp
              with_reducible rfl
             rotate_left
             ·
              simp only [Act.put, zU, zV, zW, i64_w, i32_w]; rfl
             refine pure_ (i := 23) (N := some 64) (v := ?_) (a' := ?_) #[true, true, true, true, true, true, true, true, true, true, true, true, true, true, true, true, true, true, true, true, true, true, true, true, false, false, false, false, false, false, false, false, false, false, false] rfl rfl (any_of HT_.out (by kernel_rfl)) (fun _ _ _ h => h) (Or.inl ⟨by rfl, ?_⟩) ?_ ?_; rotate_left
             ·
              intro w'; go_simp
              with_reducible rfl
             rotate_left
             ·
              simp only [Act.put, zU, zV, zW, i64_w, i32_w]; rfl
             refine pure_ (i := 24) (N := some 65) (v := ?_) (a' := ?_) #[true, true, true, true, true, true, true, true, true, true, true, true, true, true, true, true, true, true, true, true, true, true, true, true, true, false, false, false, false, false, false, false, false, false, false] rfl rfl (any_of HT_.out (by kernel_rfl)) (fun _ _ _ h => h) (Or.inl ⟨by rfl, ?_⟩) ?_ ?_; rotate_left
             ·
              intro w'; go_simp
              with_reducible rfl
             rotate_left
             ·
              simp only [Act.put, zU, zV, zW, i64_w, i32_w]; rfl
             refine pure_ (i := 25) (N := some 66) (v := ?_) (a' := ?_) #[true, true, true, true, true, true, true, true, true, true, true, true, true, true, true, true, true, true, true, true, true, true, true, true, true, true, false, false, false, false, false, false, false, false, false] rfl rfl (any_of HT_.out (by kernel_rfl)) (fun _ _ _ h => h) (Or.inl ⟨by rfl, ?_⟩) ?_ ?_; rotate_left
             ·
              intro w'; go_simp
              with_reducible rfl
             rotate_left
             ·
              simp only [Act.put, zU, zV, zW, i64_w, i32_w]; rfl
             refine pure_ (i := 26) (N := some 67) (v := ?_) (a' := ?_) #[true, true, true, true, true, true, true, true, true, true, true, true, true, true, true, true, true, true, true, true, true, true, true, true, true, true, true, false, false, false, false, false, false, false, false] rfl rfl (any_of HT_.out (by kernel_rfl)) (fun _ _ _ h => h) (Or.inl ⟨by rfl, ?_⟩) ?_ ?_; rotate_left
             ·
              intro w'; go_simp
              with_reducible rfl
             rotate_left
             ·
              simp only [Act.put, zU, zV, zW, i64_w, i32_w]; rfl
             refine pure_ (i := 28) (N := some 69) (v := ?_) (a' := ?_) #[true, true, true, true, true, true, true, true, true, true, true, true, true, true, true, true, true, true, true, true, true, true, true, true, true, true, true, false, true, false, false, false, false, false, false] rfl rfl (any_of HT_.out (by kernel_rfl)) (fun _ _ _ h => h) (Or.inl ⟨by rfl, ?_⟩) ?_ ?_; rotate_left
             ·
              intro w'; go_simp
              with_reducible rfl
             rotate_left
             ·
              simp only [Act.put, zU, zV, zW, i64_w, i32_w]; rfl
             refine pure_ (i := 29) (N := some 70) (v := ?_) (a' := ?_) #[true, true, true, true, true, true, true, true, true, true, true, true, true, true, true, true, true, true, true, true, true, true, true, true, true, true, true, false, true, true, false, false, false, false, false] rfl rfl (any_of HT_.out (by kernel_rfl)) (fun _ _ _ h => h) (Or.inl ⟨by rfl, ?_⟩) ?_ ?_; rotate_left
             ·
              intro w'; go_simp
              with_reducible rfl
             rotate_left
             ·
              simp only [Act.put, zU, zV, zW, i64_w, i32_w]; rfl
             refine pure_ (i := 30) (N := some 71) (v := ?_) (a' := ?_) #[true, true, true, true, true, true, true, true, true, true, true, true, true, true, true, true, true, true, true, true, true, true, true, true, true, true, true, false, true, true, true, false, false, false, false] rfl rfl (any_of HT_.out (by kernel_rfl)) (fun _ _ _ h => h) (Or.inl ⟨by rfl, ?_⟩) ?_ ?_; rotate_left
             ·
              intro w'; go_simp
              with_reducible rfl
             rotate_left
             ·
              simp only [Act.put, zU, zV, zW, i64_w, i32_w]; rfl
             refine pure_ (i := 31) (N := some 72) (v := ?_) (a' := ?_) #[true, true, true, true, true, true, true, true, true, true, true, true, true, true, true, true, true, true, true, true, true, true, true, true, true, true, true, false, true, true, true, true, false, false, false] rfl rfl (any_of HT_.out (by kernel_rfl)) (fun _ _ _ h => h) (Or.inl ⟨by rfl, ?_⟩) ?_ ?_; rotate_left
             ·
              intro w'; go_simp
              with_reducible rfl
             rotate_left
             ·
              simp only [Act.put, zU, zV, zW, i64_w, i32_w]; rfl
             refine take_ (i := 27) (N := some 68) (v := ?_) (a' := ?_) #[true, true, true, true, true, true, true, true, true, true, true, true, true, true, true, true, true, true, true, true, true, true, true, true, true, true, true, true, true, true, true, true, false, false, false] rfl rfl (take_ofW HT_.out HW_.out (by kernel_rfl)) (fun _ _ _ h => h) (Or.inl ⟨by rfl, ?_⟩) hHeld ?_ ?_; rotate_left
             ·
              rintro w' ⟨s0, s1, s2, s3, s4, s5, s6, s7, s8, s9⟩
              go_simp
              with_reducible rfl
             rotate_left
             ·
              simp only [Act.put, zU, zV, zW, i64_w, i32_w]; rfl
             refine take_ (i := 32) (N := some 73) (v := ?_) (a' := ?_) #[true, true, true, true, true, true, true, true, true, true, true, true, true, true, true, true, true, true, true, true, true, true, true, true, true, true, true, true, true, true, true, true, true, false, false] rfl rfl (take_ofW HT_.out HW_.out (by kernel_rfl)) (fun _ _ _ h => h) (Or.inl ⟨by rfl, ?_⟩) hHeld ?_ ?_; rotate_left
             ·
              rintro w' ⟨s0, s1, s2, s3, s4, s5, s6, s7, s8, s9⟩
              go_simp
              with_reducible rfl
             rotate_left
             ·
              simp only [Act.put, zU, zV, zW, i64_w, i32_w]; rfl
             refine pure_ (i := 33) (N := some 74) (v := ?_) (a' := ?_) #[true, true, true, true, true, true, true, true, true, true, true, true, true, true, true, true, true, true, true, true, true, true, true, true, true, true, true, true, true, true, true, true, true, true, false] rfl rfl (any_of HT_.out (by kernel_rfl)) (fun _ _ _ h => h) (Or.inl ⟨by rfl, ?_⟩) ?_ ?_; rotate_left
             ·
              intro w'; go_simp
              with_reducible rfl
             rotate_left
             ·
              simp only [Act.put, zU, zV, zW, i64_w, i32_w]; rfl
             refine pure_ (i := 34) (N := some 75) (v := ?_) (a' := ?_) #[true, true, true, true, true, true, true, true, true, true, true, true, true, true, true, true, true, true, true, true, true, true, true, true, true, true, true, true, true, true, true, true, true, true, true] rfl rfl (any_of HT_.out (by kernel_rfl)) (fun _ _ _ h => h) (Or.inl ⟨by rfl, ?_⟩) ?_ ?_; rotate_left
             ·
              intro w'; go_simp
              with_reducible rfl
             rotate_left
             ·
              simp only [Act.put, zU, zV, zW, i64_w, i32_w]; rfl
             refine done_ (done_of HT_.out (by kernel_rfl)) ?_; try go_wp2
             go_roundg k2
             case measure => have := HJ4.out; have := HK2.out; omega
             case rel => exact ⟨(ji22), (by first | rfl | (simp; done) | (simp only [← hji22] <;> (first | rfl | simp)) | (simp [*]; done)), H', ⟨by have := HJ4.out; have := HK2.out; omega⟩, ⟨by (with_reducible repeat (first|apply zD|apply zE|apply zF)); exact HO_5.out⟩, ⟨by (with_reducible repeat (first|apply zD|apply zE|apply zF)); exact HO_6.out⟩, ⟨by repeat (first | (with_reducible first | exact HB.out | apply zG|apply zH|apply zI) | exact HB.out)⟩⟩
            ·
             rw [if_neg c27] at H
             exact absurd H (by simp)
           ·
            rw [if_neg c26] at H; have c26b0 : (((rd_T30 t267 (ji22)).f0).toList == t281.toList) = false := beq_eq_false_iff_ne.mpr c26; have c26b1 : (((rd_T30 t267 (ji22)).f0).toList != t281.toList) = true := bne_iff_ne.mpr c26
            exact absurd H (by simp)
          ·
           rw [if_neg c24] at H
           exact absurd H (by simp)
         ·
          rw [if_neg c23] at H
          exact absurd H (by simp)
       ·
        rw [if_neg c19] at H
        exact absurd H (by simp)
      ·
       rw [if_neg c18] at H; have c18b0 : decide (x7_2 < (t264.length : Int)) = false := decide_eq_false c18; clear c18; replace H := Option.bind_eq_some_iff.mp H; obtain ⟨t272, A330, H⟩ := H; replace H : ((ostlerref14_Same.f k2 t272 t264).bind fun t275 => (if t275 = true then ((ostlerlaw14_awake.f k2).bind fun t276 => (some t276)) else (none))) = some r := H; have A33 := zM A330; clear A330; replace H := Option.bind_eq_some_iff.mp H; obtain ⟨t275, A340, H⟩ := H; replace H : (if t275 = true then ((ostlerlaw14_awake.f k2).bind fun t276 => (some t276)) else (none)) = some r := H; have A34 := zM A340; clear A340; by_cases c35 : t275 = true
       ·
        subst c35; have H1 : ((ostlerlaw14_awake.f k2).bind fun t276 => (some t276)) = some r := by rw [if_pos rfl] at H; exact H
        clear H; have H := H1; clear H1; replace H := Option.bind_eq_some_iff.mp H; obtain ⟨t276, A360, H⟩ := H; replace H : (some t276) = some r := H; have A36 := zM A360; clear A360; obtain rfl := Option.some.inj H; obtain ⟨Ao37, co37, eo37⟩ := Kd.R_slice HO_5.out; subst eo37; go_wp2_with (first | ((with_reducible refine gate_callee (f := 10) rfl ?_); refine goesL_ (some 77) rfl rfl Tryd.func10 (by kernel_rfl) rfl #[.slice Ao37 t264.length co37] rfl (by (try simp only [List.map_toArray, List.map_cons, List.map_nil]); first | done | rfl | (simp only [List.length_drop, List.length_take]; rfl)) ?_; (with_reducible refine (msg_Strip.calls k2 _ _ t264 t272 _ ?side1 ?side2 A33.out).mono ?_); (case side1 => repeat (first | exact (Kd.R_reads' HO_5.out).2.2 | (with_reducible refine Kd.C_alloc ?_ _) | (with_reducible refine Kd.C_drewN ?_ _) | (with_reducible refine Kd.C_drew ?_))); (case side2 => exact (Kd.R_reads' HO_5.out).2.1); rintro e w38 ⟨v273, rfl, ho0, hb⟩; refine ⟨_, rfl, ?_⟩; have n0_ := zM (Kd.R_elder' (by (with_reducible repeat (first|apply zD|apply zE|apply zF)); exact HO_5.out) (Kd.R_base ho0) hb); have n1_ := zM (Kd.R_elder' (by (with_reducible repeat (first|apply zD|apply zE|apply zF)); exact HO_6.out) (Kd.R_base ho0) hb); have n2_ := zM (Kd.R_lower (Kd.R_new' (Kd.R_new' ho0 (Kd.R_lt (by (with_reducible repeat (first|apply zD|apply zE|apply zF)); exact HO_5.out))) (Kd.R_lt (by (with_reducible repeat (first|apply zD|apply zE|apply zF)); exact HO_6.out))) (below_size (by repeat (first | (with_reducible first | exact HB.out | apply zG|apply zH|apply zI) | exact HB.out)))); have n3_ := zM (zS (by repeat (first | (with_reducible first | exact HB.out | apply zG|apply zH|apply zI) | exact HB.out)) hb); clear HO_5; clear HO_6; clear HB; have HO_5 := n0_; have HO_6 := n1_; have HO274 := n2_; have HB := n3_; clear n0_ n1_ n2_ n3_; (try clear hb); (try clear hb2); (try clear hk); (try clear hi); (try clear ho0); obtain ⟨Ao39, co39, eo39⟩ := Kd.R_slice HO274.out; subst eo39) | ((with_reducible refine gate_callee (f := 14) rfl ?_); refine goesL_ (some 79) rfl rfl Tryd.func14 (by kernel_rfl) rfl #[.slice Ao39 t272.length co39, .slice Ao37 t264.length co37] rfl (by (try simp only [List.map_toArray, List.map_cons, List.map_nil]); first | done | rfl | (simp only [List.length_drop, List.length_take]; rfl)) ?_; (with_reducible refine (ostlerref14_Same.calls k2 _ _ t272 _ _ t264 true _ ?side1 ?side2 ?side3 ?side4 A34.out).mono ?_); (case side1 => repeat (first | exact (Kd.R_reads' HO274.out).2.2 | (with_reducible refine Kd.C_alloc ?_ _) | (with_reducible refine Kd.C_drewN ?_ _) | (with_reducible refine Kd.C_drew ?_))); (case side2 => exact (Kd.R_reads' HO274.out).2.1); (case side3 => repeat (first | exact (Kd.R_reads' HO_5.out).2.2 | (with_reducible refine Kd.C_alloc ?_ _) | (with_reducible refine Kd.C_drewN ?_ _) | (with_reducible refine Kd.C_drew ?_))); (case side4 => exact (Kd.R_reads' HO_5.out).2.1); rintro e w' ⟨rfl, ⟨nd, rfl⟩⟩; refine ⟨_, rfl, ?_⟩) | (go_at_call 7; (with_reducible refine (ostlerlaw14_awake.calls k2  t276 _ ?side1 A36.out).mono ?_); (case side1 => exact GI.below HG.out (by repeat (first | (with_reducible first | exact HB.out | apply zG|apply zH|apply zI) | exact HB.out))); rintro e w40 ⟨rfl, hb⟩; have n0_ := zM (Kd.R_below (by (with_reducible repeat (first|apply zD|apply zE|apply zF)); exact HO_5.out) hb); have n1_ := zM (Kd.R_below (by (with_reducible repeat (first|apply zD|apply zE|apply zF)); exact HO_6.out) hb); have n2_ := zM (Kd.R_below (by (with_reducible repeat (first|apply zD|apply zE|apply zF)); exact HO274.out) hb); have n3_ := zM (zS (by repeat (first | (with_reducible first | exact HB.out | apply zG|apply zH|apply zI) | exact HB.out)) hb); clear HO_5; clear HO_6; clear HO274; clear HB; have HO_5 := n0_; have HO_6 := n1_; have HO274 := n2_; have HB := n3_; clear n0_ n1_ n2_ n3_; (try clear hb); (try clear hb2); (try clear hk); (try clear hi)))
        go_ret
        exact ⟨by first | rfl | (simp [errW_none, errW_some] <;> rfl) | (simp [*, errW_none, errW_some] <;> rfl), by repeat (first | (with_reducible first | exact HB.out | apply zG|apply zH|apply zI) | exact HB.out)⟩
       ·
        replace c35 := Bool.eq_false_iff.mpr c35; subst c35; have H1 : (none) = some r := by rw [if_neg (show ¬ (false = true) by decide)] at H; exact H
        clear H; have H := H1; clear H1
        exact absurd H (by simp)

end Go.Proofs.YtgeekchnolahhaaDoor.PP
