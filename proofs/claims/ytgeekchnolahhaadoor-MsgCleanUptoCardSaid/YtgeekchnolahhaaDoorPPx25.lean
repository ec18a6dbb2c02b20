-- Written by a program of this session (a changed copy of the kit's print) out of the translation. Not trusted: Lean checks it.
import Derived.Test.YtgeekchnolahhaaDoorPPx0
import Derived.Test.YtgeekchnolahhaaDoorPPx4
import Derived.Test.YtgeekchnolahhaaDoorPPxEmsgTwo
import Derived.Test.YtgeekchnolahhaaDoorPPx22
import Derived.Test.YtgeekchnolahhaaDoorPPxEostlerref01Lower
import Derived.Test.YtgeekchnolahhaaDoorPPx24
namespace Go.Proofs.YtgeekchnolahhaaDoor.PP
open Go.RowKit Go.Proofs.YtgeekchnolahhaaDoorW.PrintWords Go.Proofs.YtgeekchnolahhaaDoorW.PrintLast Go.Proofs.YtgeekchnolahhaaDoorW.PrintMore
attribute [local go_sem] max2_int min2_int max_two min_two max_three min_three max_four min_four   -- for this text's walks alone
set_option linter.unusedVariables false
set_option linter.unusedSimpArgs false

/-! ### ostlerlaw14_MsgClean: function 3 -/
def ostlerlaw14_MsgClean.l0 : Nat → Int → ByteArray → ByteArray → ByteArray → ByteArray → List (S30) → ByteArray → List (S30) → Option (Bool)
 | 0, _, _, _, _, _, _, _, _ => none
 | k + 1, x5, x210000, x210001, x210002, x210003, x210004, x210005, x210006 => if x5 < (x210004.length : Int) then (if 0 ≤ x5 then (if ((rd_T30 x210004 x5).f0).toList = ([] : List UInt8) then (none) else (if 0 < (((rd_T30 x210004 x5).f0).size : Int) then (if (bt ((rd_T30 x210004 x5).f0) 0) = 58 then (none) else ((msg_Bound.f ((rd_T30 x210004 x5).f0)).bind fun t226 => (if t226 = true then (none) else ((ostlerref01_Lower.f ((rd_T30 x210004 x5).f0)).bind fun t227 => (if t227.toList = ((rd_T30 x210004 x5).f0).toList then (if ((rd_T30 x210004 x5).f0).toList = ([104, 111, 115, 116] : List UInt8) then (none) else (if ((rd_T30 x210004 x5).f0).toList = ([116, 101] : List UInt8) then (none) else (ostlerlaw14_MsgClean.l0 k (wrap64 (x5 + 1)) x210000 x210001 x210002 x210003 x210004 x210005 x210006))) else (none)))))) else (none))) else (none)) else (if x210003.toList = ([42] : List UInt8) then (if x210000.toList = ([79, 80, 84, 73, 79, 78, 83] : List UInt8) then ((msg_Strip.f k x210004).bind fun t213 => (if (t213.length : Int) = (x210004.length : Int) then (if x210005.toList = ([] : List UInt8) then ((ostlerlaw14_awake.f k).bind fun t216 => (some t216)) else (none)) else (none))) else (if x210003.toList = ([] : List UInt8) then (none) else (if 0 < (x210003.size : Int) then (if (bt x210003 0) = 47 then ((msg_Strip.f k x210004).bind fun t217 => (if (t217.length : Int) = (x210004.length : Int) then (if x210005.toList = ([] : List UInt8) then ((ostlerlaw14_awake.f k).bind fun t220 => (some t220)) else (none)) else (none))) else (none)) else (none)))) else (if x210003.toList = ([] : List UInt8) then (none) else (if 0 < (x210003.size : Int) then (if (bt x210003 0) = 47 then ((msg_Strip.f k x210004).bind fun t221 => (if (t221.length : Int) = (x210004.length : Int) then (if x210005.toList = ([] : List UInt8) then ((ostlerlaw14_awake.f k).bind fun t224 => (some t224)) else (none)) else (none))) else (none)) else (none))))
def ostlerlaw14_MsgClean.f (k : Nat) (l0 : List (S30)) : Option (Bool) := (msg_Two.f k l0).bind fun bt197 => (if bt197.2.2.2.2.2.2.2 = 0 then (ostlerlaw14_MsgClean.l0 k 0 bt197.1 bt197.2.1 bt197.2.2.1 bt197.2.2.2.1 bt197.2.2.2.2.1 bt197.2.2.2.2.2.1 bt197.2.2.2.2.2.2.1) else (if bt197.2.2.2.2.2.2.2 = 140 then (if bt197.1.toList = ([] : List UInt8) then (if (bt197.2.2.2.2.1.length : Int) = 0 then ((ostlerlaw14_awake.f k).bind fun t210 => (some t210)) else (none)) else (none)) else (if bt197.2.2.2.2.2.2.2 = 141 then (if bt197.1.toList = ([] : List UInt8) then (if (bt197.2.2.2.2.1.length : Int) = 0 then ((ostlerlaw14_awake.f k).bind fun t211 => (some t211)) else (none)) else (none)) else (if bt197.2.2.2.2.2.2.2 = 142 then (if bt197.1.toList = ([] : List UInt8) then (if (bt197.2.2.2.2.1.length : Int) = 0 then ((ostlerlaw14_awake.f k).bind fun t212 => (some t212)) else (none)) else (none)) else (none)))))
theorem ostlerlaw14_MsgClean.mono_l : ∀ k, (∀ y0 y1 y2 y3 y4 y5 y6 y7, LeO (ostlerlaw14_MsgClean.l0 k y0 y1 y2 y3 y4 y5 y6 y7) (ostlerlaw14_MsgClean.l0 (k + 1) y0 y1 y2 y3 y4 y5 y6 y7))
 | 0 => fun _ _ _ _ _ _ _ _ r h => by simp [ostlerlaw14_MsgClean.l0] at h
 | k + 1 => by
  have ih0 := ostlerlaw14_MsgClean.mono_l k
  ·
   intro y0 y1 y2 y3 y4 y5 y6 y7; unfold ostlerlaw14_MsgClean.l0
   repeat' first
   | (with_reducible exact ih0 _ _ _ _ _ _ _ _)
   | (with_reducible exact msg_Strip.mono _ _)
   | (with_reducible exact msg_Two.mono _ _)
   | (with_reducible exact ostlerlaw14_awake.mono _)
   | (with_reducible exact LeO.refl _)
   | (with_reducible exact LeO.none _)
   | (with_reducible refine LeO.ite ?_ ?_)
   | (with_reducible refine LeO.bind ?_ (fun _ => ?_))
   | exact ih0 _ _ _ _ _ _ _ _
   | exact msg_Strip.mono _ _
   | exact msg_Two.mono _ _
   | exact ostlerlaw14_awake.mono _
   | exact LeO.none _
   | refine LeO.ite ?_ ?_
   | refine LeO.bind ?_ (fun _ => ?_)
theorem ostlerlaw14_MsgClean.mono : ∀ a0 k, LeO (ostlerlaw14_MsgClean.f k a0) (ostlerlaw14_MsgClean.f (k + 1) a0) := by
 intro a0 k
 have ih0 := ostlerlaw14_MsgClean.mono_l k
 unfold ostlerlaw14_MsgClean.f
 repeat' first
   | (with_reducible exact ih0 _ _ _ _ _ _ _ _)
   | (with_reducible exact msg_Strip.mono _ _)
   | (with_reducible exact msg_Two.mono _ _)
   | (with_reducible exact ostlerlaw14_awake.mono _)
   | (with_reducible exact LeO.refl _)
   | (with_reducible exact LeO.none _)
   | (with_reducible refine LeO.ite ?_ ?_)
   | (with_reducible refine LeO.bind ?_ (fun _ => ?_))
   | exact ih0 _ _ _ _ _ _ _ _
   | exact msg_Strip.mono _ _
   | exact msg_Two.mono _ _
   | exact ostlerlaw14_awake.mono _
   | exact LeO.none _
   | refine LeO.ite ?_ ?_
   | refine LeO.bind ?_ (fun _ => ?_)
def ostlerlaw14_MsgClean.T11 : Bool × List (List Nat × List Nat) := (true, [([], []), ([0], [0]), ([1], [1]), ([2, 1], [1, 2]), ([3, 1], [1, 3]), ([4, 1, 1], [1, 4]), ([5], [5]), ([6, 5], [5, 6]), ([7, 5], [5, 7]), ([8, 5], [5, 8]), ([5, 9, 1], [1, 5, 9]), ([1, 10], [1, 10]), ([11, 5], [11]), ([12], [12]), ([13, 12], [12, 13]), ([14, 12, 12], [12, 14]), ([15, 12], [12, 15]), ([12], [12]), ([17, 12], [12, 17]), ([18, 12], [12, 18]), ([16, 19, 12], [12, 16, 19]), ([12, 20], [12, 20]), ([21, 15], [21]), ([22], [22]), ([23, 22], [22, 23]), ([24, 22], [22, 24]), ([22, 25], [22, 25]), ([26, 22], [26]), ([27, 27], [27]), ([27, 28], [27, 28]), ([29, 28, 0, 1, 2, 3, 4, 5, 6, 7, 8, 9, 10, 11, 12, 13, 14, 15, 16, 17, 18, 19, 20, 21, 22, 23, 24, 25, 26, 27, 28, 29], [29])])
def ostlerlaw14_MsgClean.B11 : List Nat := [0, 1, 3, 7, 15, 31, 63, 127, 255, 511, 1023, 2047, 4095, 8191, 16383, 32767, 65535, 8191, 139263, 401407, 1048575, 2097151, 4194303, 8388607, 16777215, 33554431, 67108863, 134217727, 268435455, 536870911, 1073741823]
theorem ostlerlaw14_MsgClean.tab11 : rtab .any (opsOf Tryd.f3 11) = ostlerlaw14_MsgClean.T11 := by kernel_rfl
theorem ostlerlaw14_MsgClean.bits11 : waitsOk ostlerlaw14_MsgClean.T11.2 ostlerlaw14_MsgClean.B11 = true := by kernel_rfl
set_option maxHeartbeats 8000000 in
set_option maxRecDepth 100000 in
theorem ostlerlaw14_MsgClean.calls (k : Nat) (A0 : Option Addr) (c0 : Nat) (l0 : List (S30)) (r : Bool) (w : World) (hG : GI w) (hr0 : Kd.C k30 w A0 l0.length l0) (hc0 : l0.length ≤ c0) (h : ostlerlaw14_MsgClean.f k l0 = some r) :
  Calls Tryd.prog 3 #[.slice A0 l0.length c0] w fun e w' => e = .returned (.bool r) ∧ Below w.heap.size w w' := by
 have hu24 := Tryd.underlying24
 have HR0 := zM hr0
 have HC0 := zM hc0
 clear hr0 hc0
 have HB := zM (Below.refl w.heap.size w)
 have HG := zM hG
 clear hG
 have H : ((msg_Two.f k l0).bind fun bt197 => (if bt197.2.2.2.2.2.2.2 = 0 then (ostlerlaw14_MsgClean.l0 k 0 bt197.1 bt197.2.1 bt197.2.2.1 bt197.2.2.2.1 bt197.2.2.2.2.1 bt197.2.2.2.2.2.1 bt197.2.2.2.2.2.2.1) else (if bt197.2.2.2.2.2.2.2 = 140 then (if bt197.1.toList = ([] : List UInt8) then (if (bt197.2.2.2.2.1.length : Int) = 0 then ((ostlerlaw14_awake.f k).bind fun t210 => (some t210)) else (none)) else (none)) else (if bt197.2.2.2.2.2.2.2 = 141 then (if bt197.1.toList = ([] : List UInt8) then (if (bt197.2.2.2.2.1.length : Int) = 0 then ((ostlerlaw14_awake.f k).bind fun t211 => (some t211)) else (none)) else (none)) else (if bt197.2.2.2.2.2.2.2 = 142 then (if bt197.1.toList = ([] : List UInt8) then (if (bt197.2.2.2.2.1.length : Int) = 0 then ((ostlerlaw14_awake.f k).bind fun t212 => (some t212)) else (none)) else (none)) else (none)))))) = some r := h
 clear h
 replace H := Option.bind_eq_some_iff.mp H
 obtain ⟨⟨t197, t198, t199, t200, t201, t204, t205, t208⟩, A20, H⟩ := H
 replace H : (if t208 = 0 then (ostlerlaw14_MsgClean.l0 k 0 t197 t198 t199 t200 t201 t204 t205) else (if t208 = 140 then (if t197.toList = ([] : List UInt8) then (if (t201.length : Int) = 0 then ((ostlerlaw14_awake.f k).bind fun t210 => (some t210)) else (none)) else (none)) else (if t208 = 141 then (if t197.toList = ([] : List UInt8) then (if (t201.length : Int) = 0 then ((ostlerlaw14_awake.f k).bind fun t211 => (some t211)) else (none)) else (none)) else (if t208 = 142 then (if t197.toList = ([] : List UInt8) then (if (t201.length : Int) = 0 then ((ostlerlaw14_awake.f k).bind fun t212 => (some t212)) else (none)) else (none)) else (none))))) = some r := H
 have A2 := zM A20
 clear A20
 by_cases c3 : t208 = 0
 ·
  rw [if_pos c3] at H
  have c3b0 : (t208 == 0) = true := beq_iff_eq.mpr c3
  have c3b1 : (t208 != 0) = false := bne_eq_false_iff_eq.mpr c3
  clear c3
  have H' := zM H
  clear H
  go_enter Tryd.func3, Tryd.ntmps3
  go_wp2_with (first | ((with_reducible refine gate_callee (f := 6) rfl ?_); refine goesL_ (some 10) rfl rfl Tryd.func6 (by kernel_rfl) rfl #[.slice A0 l0.length c0] rfl (by (try simp only [List.map_toArray, List.map_cons, List.map_nil]); first | done | rfl | (simp only [List.length_drop, List.length_take]; rfl)) ?_; (with_reducible refine (msg_Two.calls k _ _ l0 t197 t198 t199 t200 t201 t204 t205 t208 _ ?side1 ?side2 ?side3 A2.out).mono ?_); (case side1 => exact GI.below HG.out (by repeat (first | (with_reducible first | exact HB.out | apply zG|apply zH|apply zI) | exact HB.out))); (case side2 => repeat (first | exact HR0.out | (with_reducible refine Kd.C_alloc ?_ _) | (with_reducible refine Kd.C_drewN ?_ _) | (with_reducible refine Kd.C_drew ?_))); (case side3 => exact HC0.out); rintro e w4 ⟨v202, v206, rfl, ho0, ho1, hb⟩; refine ⟨_, rfl, ?_⟩; have n0_ := zM (Kd.R_lower ho0 (below_size (by repeat (first | (with_reducible first | exact HB.out | apply zG|apply zH|apply zI) | exact HB.out)))); have n1_ := zM (Kd.R_lower ho1 (below_size (by repeat (first | (with_reducible first | exact HB.out | apply zG|apply zH|apply zI) | exact HB.out)))); have n2_ := zM (zS (by repeat (first | (with_reducible first | exact HB.out | apply zG|apply zH|apply zI) | exact HB.out)) hb); clear HB; have HO203 := n0_; have HO207 := n1_; have HB := n2_; clear n0_ n1_ n2_; (try clear hb); (try clear hb2); (try clear hk); (try clear hi); (try clear ho0); (try clear ho1)) | ((with_reducible refine gate_dst (N := 3) rfl ?_); (try (refine gate_guard (by rfl) ?_; dsimp only)); refine box_event ?hg (N := 3) ?hd (cs := #[.string ⟨#[]⟩, .string ⟨#[]⟩, .string ⟨#[]⟩, .string ⟨#[]⟩, .slice none 0 0, .string ⟨#[]⟩, .slice none 0 0]) (t := 24) ?hr ?_; (case hd => rfl); (case hg => rfl); (case hr => first | (go_simp; done) | (go_simp; rfl)); intro gb209 hg w5 hbox hb; have n0_ := zM (Kd.R_below (by (with_reducible repeat (first|apply zD|apply zE|apply zF)); exact HO203.out) hb); have n1_ := zM (Kd.R_below (by (with_reducible repeat (first|apply zD|apply zE|apply zF)); exact HO207.out) hb); have n2_ := zM (zS (by repeat (first | (with_reducible first | exact HB.out | apply zG|apply zH|apply zI) | exact HB.out)) hb); have n3_ := zM (hbox); have n4_ := zM ((by rw [hg]; exact (below_size (by repeat (first | (with_reducible first | exact HB.out | apply zG|apply zH|apply zI) | exact HB.out))) : w.heap.size ≤ gb209)); have n5_ := zM ((by rw [hg]; exact (below_size (by repeat (first | (with_reducible first | exact HB.out | apply zG|apply zH|apply zI) | exact HB.out))) : w.heap.size ≤ gb209)); clear HO203; clear HO207; clear HB; have HO203 := n0_; have HO207 := n1_; have HB := n2_; have BK209 := n3_; have GW209 := n4_; have GE209 := n5_; clear n0_ n1_ n2_ n3_ n4_ n5_; clear hb hbox hg; have hcz6_0 : w5.cell? ⟨gb209, 0, none⟩ = some (.string ⟨#[]⟩) := (blk_cell BK209.out 0).trans rfl; have hcz6_1 : w5.cell? ⟨gb209, 1, none⟩ = some (.string ⟨#[]⟩) := (blk_cell BK209.out 1).trans rfl; have hcz6_2 : w5.cell? ⟨gb209, 2, none⟩ = some (.string ⟨#[]⟩) := (blk_cell BK209.out 2).trans rfl; have hcz6_3 : w5.cell? ⟨gb209, 3, none⟩ = some (.string ⟨#[]⟩) := (blk_cell BK209.out 3).trans rfl; have hcz6_4 : w5.cell? ⟨gb209, 4, none⟩ = some (.slice none 0 0) := (blk_cell BK209.out 4).trans rfl; have hcz6_5 : w5.cell? ⟨gb209, 5, none⟩ = some (.string ⟨#[]⟩) := (blk_cell BK209.out 5).trans rfl; have hcz6_6 : w5.cell? ⟨gb209, 6, none⟩ = some (.slice none 0 0) := (blk_cell BK209.out 6).trans rfl; have hfz6_0 := blk_frozen BK209.out 0; have hfz6_1 := blk_frozen BK209.out 1; have hfz6_2 := blk_frozen BK209.out 2; have hfz6_3 := blk_frozen BK209.out 3; have hfz6_4 := blk_frozen BK209.out 4; have hfz6_5 := blk_frozen BK209.out 5; have hfz6_6 := blk_frozen BK209.out 6; obtain ⟨Ao7, co7, eo7⟩ := Kd.R_slice HO203.out; subst eo7; obtain ⟨Ao8, co8, eo8⟩ := Kd.R_slice HO207.out; subst eo8))
  go_loopg [5] k (fun kq v5 w' => ∃ (x5_1 : Int), v5 = .int .i64 x5_1 ∧ Aside0 (ostlerlaw14_MsgClean.l0 kq x5_1 t197 t198 t199 t200 t201 t204 t205 = some r) ∧ Aside0 (kq ≤ k) ∧ Aside0 (Kd.R k30 30 w' w.heap.size (fun k_ => some k_ ≠ ((.slice Ao8 t205.length co8) : Value).ownBlock) (.slice Ao7 t201.length co7) t201) ∧ Aside0 (Kd.R k30 30 w' w.heap.size (fun k_ => some k_ ≠ ((.slice Ao7 t201.length co7) : Value).ownBlock) (.slice Ao8 t205.length co8) t205) ∧ Aside0 (w'.heap[gb209]? = some (.cells #[.string t197, .string t198, .string t199, .string t200, (.slice Ao7 t201.length co7), .string t204, (.slice Ao8 t205.length co8)] 24 (0, 0))) ∧ Aside0 (Below w.heap.size w w'))
  case atStart => exact ⟨(0), (by first | rfl | (simp; done) | (simp [*]; done) | (simp [bne_nil_]; done) | (simp only [ByteArray.size_append, Int.natCast_add]; rfl)), H', ⟨Nat.le_refl _⟩, ⟨by (with_reducible repeat (first|apply zD|apply zE|apply zF)); exact Kd.R_mono (Kd.R_far (p := ⟨gb209, 6, none⟩) (Kd.R_far (p := ⟨gb209, 5, none⟩) (Kd.R_far (p := ⟨gb209, 4, none⟩) (Kd.R_far (p := ⟨gb209, 3, none⟩) (Kd.R_far (p := ⟨gb209, 2, none⟩) (Kd.R_far (p := ⟨gb209, 1, none⟩) (Kd.R_far (p := ⟨gb209, 0, none⟩) (Kd.R_types HO203.out BK209.out (by decide)) (fun _ hk => hk.2) (.string t197)) (fun _ hk => hk.2) (.string t198)) (fun _ hk => hk.2) (.string t199)) (fun _ hk => hk.2) (.string t200)) (fun _ hk => hk.2) (.slice Ao7 t201.length co7)) (fun _ hk => hk.2) (.string t204)) (fun _ hk => hk.2) (.slice Ao8 t205.length co8)) (fun _ hk => hk.1)⟩, ⟨by (with_reducible repeat (first|apply zD|apply zE|apply zF)); exact Kd.R_mono (Kd.R_far (p := ⟨gb209, 6, none⟩) (Kd.R_far (p := ⟨gb209, 5, none⟩) (Kd.R_far (p := ⟨gb209, 4, none⟩) (Kd.R_far (p := ⟨gb209, 3, none⟩) (Kd.R_far (p := ⟨gb209, 2, none⟩) (Kd.R_far (p := ⟨gb209, 1, none⟩) (Kd.R_far (p := ⟨gb209, 0, none⟩) (Kd.R_types HO207.out BK209.out (by decide)) (fun _ hk => hk.2) (.string t197)) (fun _ hk => hk.2) (.string t198)) (fun _ hk => hk.2) (.string t199)) (fun _ hk => hk.2) (.string t200)) (fun _ hk => hk.2) (.slice Ao7 t201.length co7)) (fun _ hk => hk.2) (.string t204)) (fun _ hk => hk.2) (.slice Ao8 t205.length co8)) (fun _ hk => hk.1)⟩, ⟨by (with_reducible repeat (first|apply zA|apply zB|apply zC)); refine blk_put (cs := #[.string t197, .string t198, .string t199, .string t200, .slice Ao7 t201.length co7, .string t204, .slice none 0 0]) ?_ 6 _ rfl; (with_reducible repeat (first|apply zA|apply zB|apply zC)); refine blk_put (cs := #[.string t197, .string t198, .string t199, .string t200, .slice Ao7 t201.length co7, .string ⟨#[]⟩, .slice none 0 0]) ?_ 5 _ rfl; (with_reducible repeat (first|apply zA|apply zB|apply zC)); refine blk_put (cs := #[.string t197, .string t198, .string t199, .string t200, .slice none 0 0, .string ⟨#[]⟩, .slice none 0 0]) ?_ 4 _ rfl; (with_reducible repeat (first|apply zA|apply zB|apply zC)); refine blk_put (cs := #[.string t197, .string t198, .string t199, .string ⟨#[]⟩, .slice none 0 0, .string ⟨#[]⟩, .slice none 0 0]) ?_ 3 _ rfl; (with_reducible repeat (first|apply zA|apply zB|apply zC)); refine blk_put (cs := #[.string t197, .string t198, .string ⟨#[]⟩, .string ⟨#[]⟩, .slice none 0 0, .string ⟨#[]⟩, .slice none 0 0]) ?_ 2 _ rfl; (with_reducible repeat (first|apply zA|apply zB|apply zC)); refine blk_put (cs := #[.string t197, .string ⟨#[]⟩, .string ⟨#[]⟩, .string ⟨#[]⟩, .slice none 0 0, .string ⟨#[]⟩, .slice none 0 0]) ?_ 1 _ rfl; (with_reducible repeat (first|apply zA|apply zB|apply zC)); refine blk_put (cs := #[.string ⟨#[]⟩, .string ⟨#[]⟩, .string ⟨#[]⟩, .string ⟨#[]⟩, .slice none 0 0, .string ⟨#[]⟩, .slice none 0 0]) ?_ 0 _ rfl; (with_reducible repeat (first|apply zA|apply zB|apply zC)); exact BK209.out⟩, ⟨by repeat (first | (with_reducible first | exact HB.out | apply zG|apply zH|apply zI | refine below_set ?_ GE209.out) | exact HB.out)⟩⟩
  case round =>
   clear H'; (try clear p2); (try clear c3); (try clear c3b0); (try clear c3b1); (try clear c6); (try clear hcz6_0); (try clear hcz6_1); (try clear hcz6_2); (try clear hcz6_3); (try clear hcz6_4); (try clear hcz6_5); (try clear hcz6_6); (try clear hfz6_0); (try clear hfz6_1); (try clear hfz6_2); (try clear hfz6_3); (try clear hfz6_4); (try clear hfz6_5); (try clear hfz6_6); obtain ⟨x5_1, rfl, HA, HK1, HO_210004, HO_210006, BK209, HB⟩ := hrel
   cases gk with
   | zero => exact absurd HA.out (by simp [ostlerlaw14_MsgClean.l0])
   | succ k1 =>
    have H := HA.out; clear HA; simp only [ostlerlaw14_MsgClean.l0] at H; by_cases c9 : x5_1 < (t201.length : Int)
    ·
     rw [if_pos c9] at H; have c9b0 : decide (x5_1 < (t201.length : Int)) = true := decide_eq_true c9; clear c9; by_cases c10 : 0 ≤ x5_1
     ·
      rw [if_pos c10] at H; have c10b0 : decide (0 ≤ x5_1) = true := decide_eq_true c10; clear c10; by_cases c11 : ((rd_T30 t201 x5_1).f0).toList = ([] : List UInt8)
      ·
       rw [if_pos c11] at H
       exact absurd H (by simp)
      ·
       rw [if_neg c11] at H; have c11b0 : (((rd_T30 t201 x5_1).f0).toList == ([] : List UInt8)) = false := beq_eq_false_iff_ne.mpr c11; have c11b1 : (((rd_T30 t201 x5_1).f0).toList != ([] : List UInt8)) = true := bne_iff_ne.mpr c11; by_cases c12 : 0 < (((rd_T30 t201 x5_1).f0).size : Int)
       ·
        rw [if_pos c12] at H; have c12b0 : decide (0 < (((rd_T30 t201 x5_1).f0).size : Int)) = true := decide_eq_true c12; have c12b1 : decide (0 < ((rd_T30 t201 x5_1).f0).size) = true := decide_eq_true (by omega); clear c12; by_cases c14 : (bt ((rd_T30 t201 x5_1).f0) 0) = 58
        ·
         rw [if_pos c14] at H
         exact absurd H (by simp)
        ·
         rw [if_neg c14] at H; have c14b0 : ((bt ((rd_T30 t201 x5_1).f0) 0) == 58) = false := beq_eq_false_iff_ne.mpr c14; have c14b1 : ((bt ((rd_T30 t201 x5_1).f0) 0) != 58) = true := bne_iff_ne.mpr c14; replace H := Option.bind_eq_some_iff.mp H; obtain ⟨t226, A150, H⟩ := H; replace H : (if t226 = true then (none) else ((ostlerref01_Lower.f ((rd_T30 t201 x5_1).f0)).bind fun t227 => (if t227.toList = ((rd_T30 t201 x5_1).f0).toList then (if ((rd_T30 t201 x5_1).f0).toList = ([104, 111, 115, 116] : List UInt8) then (none) else (if ((rd_T30 t201 x5_1).f0).toList = ([116, 101] : List UInt8) then (none) else (ostlerlaw14_MsgClean.l0 k1 (wrap64 (x5_1 + 1)) t197 t198 t199 t200 t201 t204 t205))) else (none)))) = some r := H; have A15 := zM A150; clear A150; by_cases c16 : t226 = true
         ·
          subst c16; have H1 : (none) = some r := by rw [if_pos rfl] at H; exact H
          clear H; have H := H1; clear H1
          exact absurd H (by simp)
         ·
          replace c16 := Bool.eq_false_iff.mpr c16; subst c16; have H1 : ((ostlerref01_Lower.f ((rd_T30 t201 x5_1).f0)).bind fun t227 => (if t227.toList = ((rd_T30 t201 x5_1).f0).toList then (if ((rd_T30 t201 x5_1).f0).toList = ([104, 111, 115, 116] : List UInt8) then (none) else (if ((rd_T30 t201 x5_1).f0).toList = ([116, 101] : List UInt8) then (none) else (ostlerlaw14_MsgClean.l0 k1 (wrap64 (x5_1 + 1)) t197 t198 t199 t200 t201 t204 t205))) else (none))) = some r := by rw [if_neg (show ¬ (false = true) by decide)] at H; exact H
          clear H; have H := H1; clear H1; replace H := Option.bind_eq_some_iff.mp H; obtain ⟨t227, A170, H⟩ := H; replace H : (if t227.toList = ((rd_T30 t201 x5_1).f0).toList then (if ((rd_T30 t201 x5_1).f0).toList = ([104, 111, 115, 116] : List UInt8) then (none) else (if ((rd_T30 t201 x5_1).f0).toList = ([116, 101] : List UInt8) then (none) else (ostlerlaw14_MsgClean.l0 k1 (wrap64 (x5_1 + 1)) t197 t198 t199 t200 t201 t204 t205))) else (none)) = some r := H; have A17 := zM A170; clear A170; by_cases c18 : t227.toList = ((rd_T30 t201 x5_1).f0).toList
          ·
           rw [if_pos c18] at H; have c18b0 : (t227.toList == ((rd_T30 t201 x5_1).f0).toList) = true := beq_iff_eq.mpr c18; have c18b1 : (t227.toList != ((rd_T30 t201 x5_1).f0).toList) = false := bne_eq_false_iff_eq.mpr c18; clear c18; by_cases c19 : ((rd_T30 t201 x5_1).f0).toList = ([104, 111, 115, 116] : List UInt8)
           ·
            rw [if_pos c19] at H
            exact absurd H (by simp)
           ·
            rw [if_neg c19] at H; have c19b0 : (((rd_T30 t201 x5_1).f0).toList == ([104, 111, 115, 116] : List UInt8)) = false := beq_eq_false_iff_ne.mpr c19; have c19b1 : (((rd_T30 t201 x5_1).f0).toList != ([104, 111, 115, 116] : List UInt8)) = true := bne_iff_ne.mpr c19; by_cases c20 : ((rd_T30 t201 x5_1).f0).toList = ([116, 101] : List UInt8)
            ·
             rw [if_pos c20] at H
             exact absurd H (by simp)
            ·
             rw [if_neg c20] at H; have c20b0 : (((rd_T30 t201 x5_1).f0).toList == ([116, 101] : List UInt8)) = false := beq_eq_false_iff_ne.mpr c20; have c20b1 : (((rd_T30 t201 x5_1).f0).toList != ([116, 101] : List UInt8)) = true := bne_iff_ne.mpr c20; have H' := zM H; clear H; have hcz21_0 : wr.cell? ⟨gb209, 0, none⟩ = some (.string t197) := (blk_cell BK209.out 0).trans rfl; have hcz21_1 : wr.cell? ⟨gb209, 1, none⟩ = some (.string t198) := (blk_cell BK209.out 1).trans rfl; have hcz21_2 : wr.cell? ⟨gb209, 2, none⟩ = some (.string t199) := (blk_cell BK209.out 2).trans rfl; have hcz21_3 : wr.cell? ⟨gb209, 3, none⟩ = some (.string t200) := (blk_cell BK209.out 3).trans rfl; have hcz21_4 : wr.cell? ⟨gb209, 4, none⟩ = some (.slice Ao7 t201.length co7) := (blk_cell BK209.out 4).trans rfl; have hcz21_5 : wr.cell? ⟨gb209, 5, none⟩ = some (.string t204) := (blk_cell BK209.out 5).trans rfl; have hcz21_6 : wr.cell? ⟨gb209, 6, none⟩ = some (.slice Ao8 t205.length co8) := (blk_cell BK209.out 6).trans rfl; have hfz21_0 := blk_frozen BK209.out 0; have hfz21_1 := blk_frozen BK209.out 1; have hfz21_2 := blk_frozen BK209.out 2; have hfz21_3 := blk_frozen BK209.out 3; have hfz21_4 := blk_frozen BK209.out 4; have hfz21_5 := blk_frozen BK209.out 5; have hfz21_6 := blk_frozen BK209.out 6; have p225 : 0 ≤ (x5_1 : Int) := of_decide_eq_true (by first | (with_reducible assumption) | assumption); have q225 : x5_1 < (t201.length : Int) := of_decide_eq_true (by first | (with_reducible assumption) | assumption); obtain ⟨ad225, e225, hx225_0, hx225_1⟩ := at_T30 (Kd.R_reads' HO_210004.out).2.2 x5_1 p225 q225; cases e225; replace p225 := eq_true p225; replace q225 := eq_true q225; have p13 : 0 ≤ (0 : Int) := (by omega); have q13 : 0 < ((rd_T30 t201 x5_1).f0).size := (by have : (0 : Int) < (((rd_T30 t201 x5_1).f0).size : Int) := of_decide_eq_true (by first | (with_reducible assumption) | assumption); omega)
             have hx13 : ∀ h : 0 < ((rd_T30 t201 x5_1).f0).size, ((((rd_T30 t201 x5_1).f0)[0]'h).toNat : Int) = bt ((rd_T30 t201 x5_1).f0) 0 := bt_at ((rd_T30 t201 x5_1).f0) 0; clear p13; have qi13 : (0 < (((rd_T30 t201 x5_1).f0).size : Int)) = True := eq_true (of_decide_eq_true (by first | (with_reducible assumption) | assumption)); replace q13 := eq_true q13; go_wp2_with (first | (go_at_call 8; (with_reducible refine (msg_Bound.calls ((rd_T30 t201 x5_1).f0) false _ A15.out).mono ?_); rintro e w22 ⟨rfl, hb⟩; have n0_ := zM (Kd.R_below (by (with_reducible repeat (first|apply zD|apply zE|apply zF)); exact HO_210004.out) hb); have n1_ := zM (Kd.R_below (by (with_reducible repeat (first|apply zD|apply zE|apply zF)); exact HO_210006.out) hb); have n2_ := zM (blk_below (g := gb209) (o := .cells #[.string t197, .string t198, .string t199, .string t200, .slice (some ad225) t201.length co7, .string t204, .slice Ao8 t205.length co8] 24 (0, 0)) (by (with_reducible repeat (first|apply zA|apply zB|apply zC)); exact BK209.out) hb); have n3_ := zM (zS (by repeat (first | (with_reducible first | exact HB.out | apply zG|apply zH|apply zI | refine below_set ?_ GE209.out) | exact HB.out)) hb); clear HO_210004; clear HO_210006; clear BK209; clear HB; have HO_210004 := n0_; have HO_210006 := n1_; have BK209 := n2_; have HB := n3_; clear n0_ n1_ n2_ n3_; (try clear hb); (try clear hb2); (try clear hk); (try clear hi)) | (go_at_call 9; (with_reducible refine (ostlerref01_Lower.calls ((rd_T30 t201 x5_1).f0) t227 _ A17.out).mono ?_); rintro e w23 ⟨rfl, hb⟩; have n0_ := zM (Kd.R_below (by (with_reducible repeat (first|apply zD|apply zE|apply zF)); exact HO_210004.out) hb); have n1_ := zM (Kd.R_below (by (with_reducible repeat (first|apply zD|apply zE|apply zF)); exact HO_210006.out) hb); have n2_ := zM (blk_below (g := gb209) (o := .cells #[.string t197, .string t198, .string t199, .string t200, .slice (some ad225) t201.length co7, .string t204, .slice Ao8 t205.length co8] 24 (0, 0)) (by (with_reducible repeat (first|apply zA|apply zB|apply zC)); exact BK209.out) hb); have n3_ := zM (zS (by repeat (first | (with_reducible first | exact HB.out | apply zG|apply zH|apply zI | refine below_set ?_ GE209.out) | exact HB.out)) hb); clear HO_210004; clear HO_210006; clear BK209; clear HB; have HO_210004 := n0_; have HO_210006 := n1_; have BK209 := n2_; have HB := n3_; clear n0_ n1_ n2_ n3_; (try clear hb); (try clear hb2); (try clear hk); (try clear hi)))
             go_roundg k1
             case measure => have := HK1.out; omega
             case rel => exact ⟨(wrap64 (x5_1 + 1)), (by first | rfl | (simp; done) | (simp [*]; done) | (simp [bne_nil_]; done) | (simp only [ByteArray.size_append, Int.natCast_add]; rfl)), H', ⟨by have := HK1.out; omega⟩, ⟨by (with_reducible repeat (first|apply zD|apply zE|apply zF)); exact HO_210004.out⟩, ⟨by (with_reducible repeat (first|apply zD|apply zE|apply zF)); exact HO_210006.out⟩, ⟨by (with_reducible repeat (first|apply zA|apply zB|apply zC)); exact BK209.out⟩, ⟨by repeat (first | (with_reducible first | exact HB.out | apply zG|apply zH|apply zI | refine below_set ?_ GE209.out) | exact HB.out)⟩⟩
          ·
           rw [if_neg c18] at H
           exact absurd H (by simp)
       ·
        rw [if_neg c12] at H
        exact absurd H (by simp)
     ·
      rw [if_neg c10] at H
      exact absurd H (by simp)
    ·
     rw [if_neg c9] at H; have c9b0 : decide (x5_1 < (t201.length : Int)) = false := decide_eq_false c9; clear c9; by_cases c24 : t200.toList = ([42] : List UInt8)
     ·
      rw [if_pos c24] at H; have c24b0 : (t200.toList == ([42] : List UInt8)) = true := beq_iff_eq.mpr c24; have c24b1 : (t200.toList != ([42] : List UInt8)) = false := bne_eq_false_iff_eq.mpr c24; clear c24; by_cases c25 : t197.toList = ([79, 80, 84, 73, 79, 78, 83] : List UInt8)
      ·
       rw [if_pos c25] at H; have c25b0 : (t197.toList == ([79, 80, 84, 73, 79, 78, 83] : List UInt8)) = true := beq_iff_eq.mpr c25; have c25b1 : (t197.toList != ([79, 80, 84, 73, 79, 78, 83] : List UInt8)) = false := bne_eq_false_iff_eq.mpr c25; clear c25; replace H := Option.bind_eq_some_iff.mp H; obtain ⟨t213, A260, H⟩ := H; replace H : (if (t213.length : Int) = (t201.length : Int) then (if t204.toList = ([] : List UInt8) then ((ostlerlaw14_awake.f k1).bind fun t216 => (some t216)) else (none)) else (none)) = some r := H; have A26 := zM A260; clear A260; by_cases c27 : (t213.length : Int) = (t201.length : Int)
       ·
        rw [if_pos c27] at H; have c27b0 : ((t213.length : Int) == (t201.length : Int)) = true := beq_iff_eq.mpr c27; have c27b1 : ((t213.length : Int) != (t201.length : Int)) = false := bne_eq_false_iff_eq.mpr c27; have c27b2 : (t213.length == t201.length) = true := by first | simpa using c27 | (simp at c27 ⊢; omega)
        clear c27; by_cases c28 : t204.toList = ([] : List UInt8)
        ·
         rw [if_pos c28] at H; have c28b0 : (t204.toList == ([] : List UInt8)) = true := beq_iff_eq.mpr c28; have c28b1 : (t204.toList != ([] : List UInt8)) = false := bne_eq_false_iff_eq.mpr c28; clear c28; replace H := Option.bind_eq_some_iff.mp H; obtain ⟨t216, A290, H⟩ := H; replace H : (some t216) = some r := H; have A29 := zM A290; clear A290; obtain rfl := Option.some.inj H; have hcz30_0 : wr.cell? ⟨gb209, 0, none⟩ = some (.string t197) := (blk_cell BK209.out 0).trans rfl; have hcz30_1 : wr.cell? ⟨gb209, 1, none⟩ = some (.string t198) := (blk_cell BK209.out 1).trans rfl; have hcz30_2 : wr.cell? ⟨gb209, 2, none⟩ = some (.string t199) := (blk_cell BK209.out 2).trans rfl; have hcz30_3 : wr.cell? ⟨gb209, 3, none⟩ = some (.string t200) := (blk_cell BK209.out 3).trans rfl; have hcz30_4 : wr.cell? ⟨gb209, 4, none⟩ = some (.slice Ao7 t201.length co7) := (blk_cell BK209.out 4).trans rfl; have hcz30_5 : wr.cell? ⟨gb209, 5, none⟩ = some (.string t204) := (blk_cell BK209.out 5).trans rfl; have hcz30_6 : wr.cell? ⟨gb209, 6, none⟩ = some (.slice Ao8 t205.length co8) := (blk_cell BK209.out 6).trans rfl; have hfz30_0 := blk_frozen BK209.out 0; have hfz30_1 := blk_frozen BK209.out 1; have hfz30_2 := blk_frozen BK209.out 2; have hfz30_3 := blk_frozen BK209.out 3; have hfz30_4 := blk_frozen BK209.out 4; have hfz30_5 := blk_frozen BK209.out 5; have hfz30_6 := blk_frozen BK209.out 6; try go_wp2
         have n0_ := zM (Kd.R_drew HO_210004.out); have n1_ := zM (Kd.R_drew HO_210006.out); have n2_ := zM (blk_drew BK209.out); have n3_ := zM (below_drew1 HB.out); clear HO_210004; clear HO_210006; clear BK209; clear HB; have HO_210004 := n0_; have HO_210006 := n1_; have BK209 := n2_; have HB := n3_; clear n0_ n1_ n2_ n3_; refine start_ (n := 31) (S := fun w' => w'.cell? ⟨gb209, 0, none⟩ = some (.string t197) ∧ w'.cell? ⟨gb209, 1, none⟩ = some (.string t198) ∧ w'.cell? ⟨gb209, 2, none⟩ = some (.string t199) ∧ w'.cell? ⟨gb209, 3, none⟩ = some (.string t200) ∧ w'.cell? ⟨gb209, 4, none⟩ = some (.slice Ao7 t201.length co7) ∧ w'.cell? ⟨gb209, 5, none⟩ = some (.string t204) ∧ w'.cell? ⟨gb209, 6, none⟩ = some (.slice Ao8 t205.length co8)) (ds := []) #[false, false, false, false, false, false, false, false, false, false, false, false, false, false, false, false, false, false, false, false, false, false, false, false, false, false, false, false, false, false, false] (by kernel_rfl) rfl rfl ⟨(blk_cell BK209.out 0).trans rfl, (blk_cell BK209.out 1).trans rfl, (blk_cell BK209.out 2).trans rfl, (blk_cell BK209.out 3).trans rfl, (blk_cell BK209.out 4).trans rfl, (blk_cell BK209.out 5).trans rfl, (blk_cell BK209.out 6).trans rfl⟩ (fun hHeld => ?_); refine with_tabW ostlerlaw14_MsgClean.tab11 ostlerlaw14_MsgClean.bits11 (fun HT_ HW_ => ?_); generalize wr.drew = w31 at HO_210004 HO_210006 BK209 HB hHeld ⊢
         refine pure_ (i := 0) (N := some 85) (v := ?_) (a' := ?_) #[true, false, false, false, false, false, false, false, false, false, false, false, false, false, false, false, false, false, false, false, false, false, false, false, false, false, false, false, false, false, false] rfl rfl (any_of HT_.out (by kernel_rfl)) (fun _ _ _ h => h) (Or.inl ⟨by rfl, ?_⟩) ?_ ?_; rotate_left
         ·
          intro w'; go_simp
          with_reducible rfl
         rotate_left
         ·
          simp only [Act.put, zU, zV, zW, i64_w, i32_w]; rfl
         refine pure_ (i := 1) (N := some 86) (v := ?_) (a' := ?_) #[true, true, false, false, false, false, false, false, false, false, false, false, false, false, false, false, false, false, false, false, false, false, false, false, false, false, false, false, false, false, false] rfl rfl (any_of HT_.out (by kernel_rfl)) (fun _ _ _ h => h) (Or.inl ⟨by rfl, ?_⟩) ?_ ?_; rotate_left
         ·
          intro w'; go_simp
          with_reducible rfl
         rotate_left
         ·
          simp only [Act.put, zU, zV, zW, i64_w, i32_w]; rfl
         refine pure_ (i := 2) (N := some 87) (v := undef) (a' := ?_) #[true, true, true, false, false, false, false, false, false, false, false, false, false, false, false, false, false, false, false, false, false, false, false, false, false, false, false, false, false, false, false] rfl rfl (any_of HT_.out (by kernel_rfl)) (fun _ _ _ h => h) (Or.inr ⟨by rfl, rfl⟩) ?_ ?_; rotate_left
         ·
          simp only [Act.put, zU, zV, zW, i64_w, i32_w]; rfl
         refine pure_ (i := 3) (N := some 88) (v := undef) (a' := ?_) #[true, true, true, true, false, false, false, false, false, false, false, false, false, false, false, false, false, false, false, false, false, false, false, false, false, false, false, false, false, false, false] rfl rfl (any_of HT_.out (by kernel_rfl)) (fun _ _ _ h => h) (Or.inr ⟨by rfl, rfl⟩) ?_ ?_; rotate_left
         ·
          simp only [Act.put, zU, zV, zW, i64_w, i32_w]; rfl
         refine pure_ (i := 4) (N := some 89) (v := undef) (a' := ?_) #[true, true, true, true, true, false, false, false, false, false, false, false, false, false, false, false, false, false, false, false, false, false, false, false, false, false, false, false, false, false, false] rfl rfl (any_of HT_.out (by kernel_rfl)) (fun _ _ _ h => h) (Or.inr ⟨by rfl, rfl⟩) ?_ ?_; rotate_left
         ·
          simp only [Act.put, zU, zV, zW, i64_w, i32_w]; rfl
         refine pure_ (i := 5) (N := some 90) (v := undef) (a' := ?_) #[true, true, true, true, true, true, false, false, false, false, false, false, false, false, false, false, false, false, false, false, false, false, false, false, false, false, false, false, false, false, false] rfl rfl (any_of HT_.out (by kernel_rfl)) (fun _ _ _ h => h) (Or.inr ⟨by rfl, rfl⟩) ?_ ?_; rotate_left
         ·
          simp only [Act.put, zU, zV, zW, i64_w, i32_w]; rfl
         refine pure_ (i := 6) (N := some 91) (v := undef) (a' := ?_) #[true, true, true, true, true, true, true, false, false, false, false, false, false, false, false, false, false, false, false, false, false, false, false, false, false, false, false, false, false, false, false] rfl rfl (any_of HT_.out (by kernel_rfl)) (fun _ _ _ h => h) (Or.inr ⟨by rfl, rfl⟩) ?_ ?_; rotate_left
         ·
          simp only [Act.put, zU, zV, zW, i64_w, i32_w]; rfl
         refine pure_ (i := 7) (N := some 92) (v := undef) (a' := ?_) #[true, true, true, true, true, true, true, true, false, false, false, false, false, false, false, false, false, false, false, false, false, false, false, false, false, false, false, false, false, false, false] rfl rfl (any_of HT_.out (by kernel_rfl)) (fun _ _ _ h => h) (Or.inr ⟨by rfl, rfl⟩) ?_ ?_; rotate_left
         ·
          simp only [Act.put, zU, zV, zW, i64_w, i32_w]; rfl
         refine pure_ (i := 8) (N := some 93) (v := undef) (a' := ?_) #[true, true, true, true, true, true, true, true, true, false, false, false, false, false, false, false, false, false, false, false, false, false, false, false, false, false, false, false, false, false, false] rfl rfl (any_of HT_.out (by kernel_rfl)) (fun _ _ _ h => h) (Or.inr ⟨by rfl, rfl⟩) ?_ ?_; rotate_left
         ·
          simp only [Act.put, zU, zV, zW, i64_w, i32_w]; rfl
         refine pure_ (i := 9) (N := some 94) (v := undef) (a' := ?_) #[true, true, true, true, true, true, true, true, true, true, false, false, false, false, false, false, false, false, false, false, false, false, false, false, false, false, false, false, false, false, false] rfl rfl (any_of HT_.out (by kernel_rfl)) (fun _ _ _ h => h) (Or.inr ⟨by rfl, rfl⟩) ?_ ?_; rotate_left
         ·
          simp only [Act.put, zU, zV, zW, i64_w, i32_w]; rfl
         refine pure_ (i := 10) (N := some 95) (v := undef) (a' := ?_) #[true, true, true, true, true, true, true, true, true, true, true, false, false, false, false, false, false, false, false, false, false, false, false, false, false, false, false, false, false, false, false] rfl rfl (any_of HT_.out (by kernel_rfl)) (fun _ _ _ h => h) (Or.inr ⟨by rfl, rfl⟩) ?_ ?_; rotate_left
         ·
          simp only [Act.put, zU, zV, zW, i64_w, i32_w]; rfl
         refine pure_ (i := 11) (N := some 96) (v := ?_) (a' := ?_) #[true, true, true, true, true, true, true, true, true, true, true, true, false, false, false, false, false, false, false, false, false, false, false, false, false, false, false, false, false, false, false] rfl rfl (any_of HT_.out (by kernel_rfl)) (fun _ _ _ h => h) (Or.inl ⟨by rfl, ?_⟩) ?_ ?_; rotate_left
         ·
          intro w'; go_simp
          with_reducible rfl
         rotate_left
         ·
          simp only [Act.put, zU, zV, zW, i64_w, i32_w]; rfl
         refine pure_ (i := 12) (N := some 97) (v := ?_) (a' := ?_) #[true, true, true, true, true, true, true, true, true, true, true, true, true, false, false, false, false, false, false, false, false, false, false, false, false, false, false, false, false, false, false] rfl rfl (any_of HT_.out (by kernel_rfl)) (fun _ _ _ h => h) (Or.inl ⟨by rfl, ?_⟩) ?_ ?_; rotate_left
         ·
          intro w'; go_simp
          with_reducible rfl
         rotate_left
         ·
          simp only [Act.put, zU, zV, zW, i64_w, i32_w]; rfl
         refine pure_ (i := 13) (N := some 98) (v := ?_) (a' := ?_) #[true, true, true, true, true, true, true, true, true, true, true, true, true, true, false, false, false, false, false, false, false, false, false, false, false, false, false, false, false, false, false] rfl rfl (any_of HT_.out (by kernel_rfl)) (fun _ _ _ h => h) (Or.inl ⟨by rfl, ?_⟩) ?_ ?_; rotate_left
         ·
          intro w'; go_simp
          with_reducible rfl
         rotate_left
         ·
          simp only [Act.put, zU, zV, zW, i64_w, i32_w]; rfl
         refine pure_ (i := 17) (N := some 102) (v := ?_) (a' := ?_) #[true, true, true, true, true, true, true, true, true, true, true, true, true, true, false, false, false, true, false, false, false, false, false, false, false, false, false, false, false, false, false] rfl rfl (any_of HT_.out (by kernel_rfl)) (fun _ _ _ h => h) (Or.inl ⟨by rfl, ?_⟩) ?_ ?_; rotate_left
         ·
          intro w'; go_simp
          with_reducible rfl
         rotate_left
         ·
          simp only [Act.put, zU, zV, zW, i64_w, i32_w]; rfl
         refine take_ (i := 14) (N := some 99) (v := ?_) (a' := ?_) #[true, true, true, true, true, true, true, true, true, true, true, true, true, true, true, false, false, true, false, false, false, false, false, false, false, false, false, false, false, false, false] rfl rfl (take_ofW HT_.out HW_.out (by kernel_rfl)) (fun _ _ _ h => h) (Or.inl ⟨by rfl, ?_⟩) hHeld ?_ ?_; rotate_left
         ·
          rintro w' ⟨s0, s1, s2, s3, s4, s5, s6⟩
          go_simp
          with_reducible rfl
         rotate_left
         ·
          simp only [Act.put, zU, zV, zW, i64_w, i32_w]; rfl
         refine take_ (i := 18) (N := some 103) (v := ?_) (a' := ?_) #[true, true, true, true, true, true, true, true, true, true, true, true, true, true, true, false, false, true, true, false, false, false, false, false, false, false, false, false, false, false, false] rfl rfl (take_ofW HT_.out HW_.out (by kernel_rfl)) (fun _ _ _ h => h) (Or.inl ⟨by rfl, ?_⟩) hHeld ?_ ?_; rotate_left
         ·
          rintro w' ⟨s0, s1, s2, s3, s4, s5, s6⟩
          go_simp
          with_reducible rfl
         rotate_left
         ·
          simp only [Act.put, zU, zV, zW, i64_w, i32_w]; rfl
         refine pure_ (i := 19) (N := some 104) (v := ?_) (a' := ?_) #[true, true, true, true, true, true, true, true, true, true, true, true, true, true, true, false, false, true, true, true, false, false, false, false, false, false, false, false, false, false, false] rfl rfl (any_of HT_.out (by kernel_rfl)) (fun _ _ _ h => h) (Or.inl ⟨by rfl, ?_⟩) ?_ ?_; rotate_left
         ·
          intro w'; go_simp
          with_reducible rfl
         rotate_left
         ·
          simp only [Act.put, zU, zV, zW, i64_w, i32_w]; rfl
         refine one_ (i := 15) (N := some 100) #[true, true, true, true, true, true, true, true, true, true, true, true, true, true, true, true, false, true, true, true, false, false, false, false, false, false, false, false, false, false, false] rfl rfl (one_of HT_.out (by kernel_rfl)) (by decide) (fun K hK => ?_); refine goes_ Tryd.func10 (by kernel_rfl) rfl #[.slice Ao7 t201.length co7] (by rfl) rfl rfl (by (try simp only [List.map_toArray, List.map_cons, List.map_nil]); first | done | rfl | (simp only [List.length_drop, List.length_take]; rfl)) ?_
         with_reducible refine (msg_Strip.calls k1 _ _ t201 t213 _ ?side1 ?side2 A26.out).mono ?_
         (case side1 => repeat (first | exact (Kd.R_reads' HO_210004.out).2.2 | (with_reducible refine Kd.C_alloc ?_ _) | (with_reducible refine Kd.C_drewN ?_ _) | (with_reducible refine Kd.C_drew ?_)))
         (case side2 => exact (Kd.R_reads' HO_210004.out).2.1)
         rintro e w32 ⟨v214, rfl, ho0, hb⟩
         refine ⟨_, rfl, ?_⟩; have n0_ := zM (Kd.R_elder' (by (with_reducible repeat (first|apply zD|apply zE|apply zF)); exact HO_210004.out) (Kd.R_base ho0) hb)
         have n1_ := zM (Kd.R_elder' (by (with_reducible repeat (first|apply zD|apply zE|apply zF)); exact HO_210006.out) (Kd.R_base ho0) hb); have n2_ := zM (Kd.R_lower (Kd.R_new' (Kd.R_new' ho0 (Kd.R_lt (by (with_reducible repeat (first|apply zD|apply zE|apply zF)); exact HO_210004.out))) (Kd.R_lt (by (with_reducible repeat (first|apply zD|apply zE|apply zF)); exact HO_210006.out))) (below_size (by repeat (first | (with_reducible first | exact HB.out | apply zG|apply zH|apply zI | refine below_set ?_ GE209.out) | exact HB.out))))
         have n3_ := zM (blk_below (g := gb209) (o := .cells #[.string t197, .string t198, .string t199, .string t200, .slice Ao7 t201.length co7, .string t204, .slice Ao8 t205.length co8] 24 (0, 0)) (by (with_reducible repeat (first|apply zA|apply zB|apply zC)); exact BK209.out) hb); have n4_ := zM (zS (by repeat (first | (with_reducible first | exact HB.out | apply zG|apply zH|apply zI | refine below_set ?_ GE209.out) | exact HB.out)) hb)
         clear HO_210004; clear HO_210006; clear BK209; clear HB; have HO_210004 := n0_; have HO_210006 := n1_; have HO215 := n2_; have BK209 := n3_; have HB := n4_; clear n0_ n1_ n2_ n3_ n4_; (try clear hb); (try clear hb2); (try clear hk); (try clear hi); (try clear ho0); obtain ⟨Ao33, co33, eo33⟩ := Kd.R_slice HO215.out; (first | subst eo33 | (injection eo33 with f1_ f2_ f3_; have f4_ := f1_.symm; have f5_ := f3_.symm; clear f1_ f2_ f3_; subst f4_; subst f5_))
         refine hK.out _ _ ⟨(blk_cell BK209.out 0).trans rfl, (blk_cell BK209.out 1).trans rfl, (blk_cell BK209.out 2).trans rfl, (blk_cell BK209.out 3).trans rfl, (blk_cell BK209.out 4).trans rfl, (blk_cell BK209.out 5).trans rfl, (blk_cell BK209.out 6).trans rfl⟩ (fun hHeld => ?_); clear hK K; refine norm_ (a' := ?_) ?_ ?_; rotate_left
         ·
          show Act.put _ (some 100) _ = _
          simp only [Act.put, zU, zV, zW, i64_w, i32_w]; rfl
         refine pure_ (i := 16) (N := some 101) (v := ?_) (a' := ?_) #[true, true, true, true, true, true, true, true, true, true, true, true, true, true, true, true, true, true, true, true, false, false, false, false, false, false, false, false, false, false, false] rfl rfl (any_of HT_.out (by kernel_rfl)) (fun _ _ _ h => h) (Or.inl ⟨by rfl, ?_⟩) ?_ ?_; rotate_left
         ·
          intro w'; go_simp
          with_reducible rfl
         rotate_left
         ·
          simp only [Act.put, zU, zV, zW, i64_w, i32_w]; rfl
         refine pure_ (i := 20) (N := some 105) (v := ?_) (a' := ?_) #[true, true, true, true, true, true, true, true, true, true, true, true, true, true, true, true, true, true, true, true, true, false, false, false, false, false, false, false, false, false, false] rfl rfl (any_of HT_.out (by kernel_rfl)) (fun _ _ _ h => h) (Or.inl ⟨by rfl, ?_⟩) ?_ ?_; rotate_left
         ·
          intro w'; go_simp
          with_reducible rfl
         rotate_left
         ·
          simp only [Act.put, zU, zV, zW, i64_w, i32_w]; rfl
         refine pure_ (i := 21) (N := some 106) (v := ?_) (a' := ?_) #[true, true, true, true, true, true, true, true, true, true, true, true, true, true, true, true, true, true, true, true, true, true, false, false, false, false, false, false, false, false, false] rfl rfl (any_of HT_.out (by kernel_rfl)) (fun _ _ _ h => h) (Or.inl ⟨by rfl, ?_⟩) ?_ ?_; rotate_left
         ·
          intro w'; go_simp
          with_reducible rfl
         rotate_left
         ·
          simp only [Act.put, zU, zV, zW, i64_w, i32_w]; rfl
         refine pure_ (i := 22) (N := some 107) (v := ?_) (a' := ?_) #[true, true, true, true, true, true, true, true, true, true, true, true, true, true, true, true, true, true, true, true, true, true, true, false, false, false, false, false, false, false, false] rfl rfl (any_of HT_.out (by kernel_rfl)) (fun _ _ _ h => h) (Or.inl ⟨by rfl, ?_⟩) ?_ ?_; rotate_left
         ·
          intro w'; go_simp
          with_reducible rfl
         rotate_left
         ·
          simp only [Act.put, zU, zV, zW, i64_w, i32_w]; rfl
         refine pure_ (i := 23) (N := some 108) (v := ?_) (a' := ?_) #[true, true, true, true, true, true, true, true, true, true, true, true, true, true, true, true, true, true, true, true, true, true, true, true, false, false, false, false, false, false, false] rfl rfl (any_of HT_.out (by kernel_rfl)) (fun _ _ _ h => h) (Or.inl ⟨by rfl, ?_⟩) ?_ ?_; rotate_left
         ·
          intro w'; go_simp
          with_reducible rfl
         rotate_left
         ·
          simp only [Act.put, zU, zV, zW, i64_w, i32_w]; rfl
         refine take_ (i := 24) (N := some 109) (v := ?_) (a' := ?_) #[true, true, true, true, true, true, true, true, true, true, true, true, true, true, true, true, true, true, true, true, true, true, true, true, true, false, false, false, false, false, false] rfl rfl (take_ofW HT_.out HW_.out (by kernel_rfl)) (fun _ _ _ h => h) (Or.inl ⟨by rfl, ?_⟩) hHeld ?_ ?_; rotate_left
         ·
          rintro w' ⟨s0, s1, s2, s3, s4, s5, s6⟩
          go_simp
          with_reducible rfl
         rotate_left
         ·
          simp only [Act.put, zU, zV, zW, i64_w, i32_w]; rfl
         refine pure_ (i := 25) (N := some 110) (v := ?_) (a' := ?_) #[true, true, true, true, true, true, true, true, true, true, true, true, true, true, true, true, true, true, true, true, true, true, true, true, true, true, false, false, false, false, false] rfl rfl (any_of HT_.out (by kernel_rfl)) (fun _ _ _ h => h) (Or.inl ⟨by rfl, ?_⟩) ?_ ?_; rotate_left
         ·
          intro w'; go_simp
          with_reducible rfl
         rotate_left
         ·
          simp only [Act.put, zU, zV, zW, i64_w, i32_w]; rfl
         refine pure_ (i := 26) (N := some 111) (v := ?_) (a' := ?_) #[true, true, true, true, true, true, true, true, true, true, true, true, true, true, true, true, true, true, true, true, true, true, true, true, true, true, true, false, false, false, false] rfl rfl (any_of HT_.out (by kernel_rfl)) (fun _ _ _ h => h) (Or.inl ⟨by rfl, ?_⟩) ?_ ?_; rotate_left
         ·
          intro w'; go_simp
          with_reducible rfl
         rotate_left
         ·
          simp only [Act.put, zU, zV, zW, i64_w, i32_w]; rfl
         refine pure_ (i := 27) (N := some 112) (v := ?_) (a' := ?_) #[true, true, true, true, true, true, true, true, true, true, true, true, true, true, true, true, true, true, true, true, true, true, true, true, true, true, true, true, false, false, false] rfl rfl (any_of HT_.out (by kernel_rfl)) (fun _ _ _ h => h) (Or.inl ⟨by rfl, ?_⟩) ?_ ?_; rotate_left
         ·
          intro w'; go_simp
          with_reducible rfl
         rotate_left
         ·
          simp only [Act.put, zU, zV, zW, i64_w, i32_w]; rfl
         refine one_ (i := 28) (N := some 113) #[true, true, true, true, true, true, true, true, true, true, true, true, true, true, true, true, true, true, true, true, true, true, true, true, true, true, true, true, true, false, false] rfl rfl (one_of HT_.out (by kernel_rfl)) (by decide) (fun K hK => ?_); refine goes_ Tryd.func7 (by kernel_rfl) rfl #[] (by rfl) rfl rfl (by (try simp only [List.map_toArray, List.map_cons, List.map_nil]); first | done | rfl | (simp only [List.length_drop, List.length_take]; rfl)) ?_
         with_reducible refine (ostlerlaw14_awake.calls k1  t216 _ ?side1 A29.out).mono ?_
         (case side1 => exact GI.below HG.out (by repeat (first | (with_reducible first | exact HB.out | apply zG|apply zH|apply zI | refine below_set ?_ GE209.out) | exact HB.out)))
         rintro e w34 ⟨rfl, hb⟩
         refine ⟨_, rfl, ?_⟩; have n0_ := zM (Kd.R_below (by (with_reducible repeat (first|apply zD|apply zE|apply zF)); exact HO_210004.out) hb)
         have n1_ := zM (Kd.R_below (by (with_reducible repeat (first|apply zD|apply zE|apply zF)); exact HO_210006.out) hb); have n2_ := zM (Kd.R_below (by (with_reducible repeat (first|apply zD|apply zE|apply zF)); exact HO215.out) hb)
         have n3_ := zM (blk_below (g := gb209) (o := .cells #[.string t197, .string t198, .string t199, .string t200, .slice Ao7 t201.length co7, .string t204, .slice Ao8 t205.length co8] 24 (0, 0)) (by (with_reducible repeat (first|apply zA|apply zB|apply zC)); exact BK209.out) hb); have n4_ := zM (zS (by repeat (first | (with_reducible first | exact HB.out | apply zG|apply zH|apply zI | refine below_set ?_ GE209.out) | exact HB.out)) hb)
         clear HO_210004; clear HO_210006; clear HO215; clear BK209; clear HB; have HO_210004 := n0_; have HO_210006 := n1_; have HO215 := n2_; have BK209 := n3_; have HB := n4_; clear n0_ n1_ n2_ n3_ n4_; (try clear hb); (try clear hb2); (try clear hk); (try clear hi); refine hK.out _ _ ⟨(blk_cell BK209.out 0).trans rfl, (blk_cell BK209.out 1).trans rfl, (blk_cell BK209.out 2).trans rfl, (blk_cell BK209.out 3).trans rfl, (blk_cell BK209.out 4).trans rfl, (blk_cell BK209.out 5).trans rfl, (blk_cell BK209.out 6).trans rfl⟩ (fun hHeld => ?_); clear hK K; refine norm_ (a' := ?_) ?_ ?_; rotate_left
         ·
          show Act.put _ (some 113) _ = _
          simp only [Act.put, zU, zV, zW, i64_w, i32_w]; rfl
         refine pure_ (i := 29) (N := some 114) (v := ?_) (a' := ?_) #[true, true, true, true, true, true, true, true, true, true, true, true, true, true, true, true, true, true, true, true, true, true, true, true, true, true, true, true, true, true, false] rfl rfl (any_of HT_.out (by kernel_rfl)) (fun _ _ _ h => h) (Or.inl ⟨by rfl, ?_⟩) ?_ ?_; rotate_left
         ·
          intro w'; go_simp
          with_reducible rfl
         rotate_left
         ·
          simp only [Act.put, zU, zV, zW, i64_w, i32_w]; rfl
         refine pure_ (i := 30) (N := some 2) (v := ?_) (a' := ?_) #[true, true, true, true, true, true, true, true, true, true, true, true, true, true, true, true, true, true, true, true, true, true, true, true, true, true, true, true, true, true, true] rfl rfl (any_of HT_.out (by kernel_rfl)) (fun _ _ _ h => h) (Or.inl ⟨by rfl, ?_⟩) ?_ ?_; rotate_left
         ·
          intro w'; go_simp
          with_reducible rfl
         rotate_left
         ·
          simp only [Act.put, zU, zV, zW, i64_w, i32_w]; rfl
         refine done_ (done_of HT_.out (by kernel_rfl)) ?_; try go_wp2
         go_ret
         exact ⟨by first | rfl | (simp [errW_none, errW_some] <;> rfl) | (simp [*, errW_none, errW_some] <;> rfl), by repeat (first | (with_reducible first | exact HB.out | apply zG|apply zH|apply zI | refine below_set ?_ GE209.out) | exact HB.out)⟩
        ·
         rw [if_neg c28] at H; have c28b0 : (t204.toList == ([] : List UInt8)) = false := beq_eq_false_iff_ne.mpr c28; have c28b1 : (t204.toList != ([] : List UInt8)) = true := bne_iff_ne.mpr c28
         exact absurd H (by simp)
       ·
        rw [if_neg c27] at H; have c27b0 : ((t213.length : Int) == (t201.length : Int)) = false := beq_eq_false_iff_ne.mpr c27; have c27b1 : ((t213.length : Int) != (t201.length : Int)) = true := bne_iff_ne.mpr c27; have c27b2 : (t213.length == t201.length) = false := by first | simpa using c27 | (simp at c27 ⊢; omega)
        exact absurd H (by simp)
      ·
       rw [if_neg c25] at H; have c25b0 : (t197.toList == ([79, 80, 84, 73, 79, 78, 83] : List UInt8)) = false := beq_eq_false_iff_ne.mpr c25; have c25b1 : (t197.toList != ([79, 80, 84, 73, 79, 78, 83] : List UInt8)) = true := bne_iff_ne.mpr c25; by_cases c35 : t200.toList = ([] : List UInt8)
       ·
        rw [if_pos c35] at H; have c35b0 : (t200.toList == ([] : List UInt8)) = true := beq_iff_eq.mpr c35; have c35b1 : (t200.toList != ([] : List UInt8)) = false := bne_eq_false_iff_eq.mpr c35; clear c35
        exact absurd H (by simp)
       ·
        rw [if_neg c35] at H; have c35b0 : (t200.toList == ([] : List UInt8)) = false := beq_eq_false_iff_ne.mpr c35; have c35b1 : (t200.toList != ([] : List UInt8)) = true := bne_iff_ne.mpr c35; by_cases c36 : 0 < (t200.size : Int)
        ·
         rw [if_pos c36] at H; have c36b0 : decide (0 < (t200.size : Int)) = true := decide_eq_true c36; have c36b1 : decide (0 < t200.size) = true := decide_eq_true (by omega); clear c36; by_cases c38 : (bt t200 0) = 47
         ·
          rw [if_pos c38] at H; have c38b0 : ((bt t200 0) == 47) = true := beq_iff_eq.mpr c38; have c38b1 : ((bt t200 0) != 47) = false := bne_eq_false_iff_eq.mpr c38; clear c38; replace H := Option.bind_eq_some_iff.mp H; obtain ⟨t217, A390, H⟩ := H; replace H : (if (t217.length : Int) = (t201.length : Int) then (if t204.toList = ([] : List UInt8) then ((ostlerlaw14_awake.f k1).bind fun t220 => (some t220)) else (none)) else (none)) = some r := H; have A39 := zM A390; clear A390; by_cases c40 : (t217.length : Int) = (t201.length : Int)
          ·
           rw [if_pos c40] at H; have c40b0 : ((t217.length : Int) == (t201.length : Int)) = true := beq_iff_eq.mpr c40; have c40b1 : ((t217.length : Int) != (t201.length : Int)) = false := bne_eq_false_iff_eq.mpr c40; have c40b2 : (t217.length == t201.length) = true := by first | simpa using c40 | (simp at c40 ⊢; omega)
           clear c40; by_cases c41 : t204.toList = ([] : List UInt8)
           ·
            rw [if_pos c41] at H; have c41b0 : (t204.toList == ([] : List UInt8)) = true := beq_iff_eq.mpr c41; have c41b1 : (t204.toList != ([] : List UInt8)) = false := bne_eq_false_iff_eq.mpr c41; clear c41; replace H := Option.bind_eq_some_iff.mp H; obtain ⟨t220, A420, H⟩ := H; replace H : (some t220) = some r := H; have A42 := zM A420; clear A420; obtain rfl := Option.some.inj H; have hcz43_0 : wr.cell? ⟨gb209, 0, none⟩ = some (.string t197) := (blk_cell BK209.out 0).trans rfl; have hcz43_1 : wr.cell? ⟨gb209, 1, none⟩ = some (.string t198) := (blk_cell BK209.out 1).trans rfl; have hcz43_2 : wr.cell? ⟨gb209, 2, none⟩ = some (.string t199) := (blk_cell BK209.out 2).trans rfl; have hcz43_3 : wr.cell? ⟨gb209, 3, none⟩ = some (.string t200) := (blk_cell BK209.out 3).trans rfl; have hcz43_4 : wr.cell? ⟨gb209, 4, none⟩ = some (.slice Ao7 t201.length co7) := (blk_cell BK209.out 4).trans rfl; have hcz43_5 : wr.cell? ⟨gb209, 5, none⟩ = some (.string t204) := (blk_cell BK209.out 5).trans rfl; have hcz43_6 : wr.cell? ⟨gb209, 6, none⟩ = some (.slice Ao8 t205.length co8) := (blk_cell BK209.out 6).trans rfl; have hfz43_0 := blk_frozen BK209.out 0; have hfz43_1 := blk_frozen BK209.out 1; have hfz43_2 := blk_frozen BK209.out 2; have hfz43_3 := blk_frozen BK209.out 3; have hfz43_4 := blk_frozen BK209.out 4; have hfz43_5 := blk_frozen BK209.out 5; have hfz43_6 := blk_frozen BK209.out 6; try go_wp2
            have n0_ := zM (Kd.R_drew HO_210004.out); have n1_ := zM (Kd.R_drew HO_210006.out); have n2_ := zM (blk_drew BK209.out); have n3_ := zM (below_drew1 HB.out); clear HO_210004; clear HO_210006; clear BK209; clear HB; have HO_210004 := n0_; have HO_210006 := n1_; have BK209 := n2_; have HB := n3_; clear n0_ n1_ n2_ n3_; have p37 : 0 ≤ (0 : Int) := (by omega); have q37 : 0 < t200.size := (by have : (0 : Int) < (t200.size : Int) := of_decide_eq_true (by first | (with_reducible assumption) | assumption); omega)
            have hx37 : ∀ h : 0 < t200.size, ((t200[0]'h).toNat : Int) = bt t200 0 := bt_at t200 0; clear p37; have qi37 : (0 < (t200.size : Int)) = True := eq_true (of_decide_eq_true (by first | (with_reducible assumption) | assumption)); replace q37 := eq_true q37; refine start_ (n := 31) (S := fun w' => w'.cell? ⟨gb209, 0, none⟩ = some (.string t197) ∧ w'.cell? ⟨gb209, 1, none⟩ = some (.string t198) ∧ w'.cell? ⟨gb209, 2, none⟩ = some (.string t199) ∧ w'.cell? ⟨gb209, 3, none⟩ = some (.string t200) ∧ w'.cell? ⟨gb209, 4, none⟩ = some (.slice Ao7 t201.length co7) ∧ w'.cell? ⟨gb209, 5, none⟩ = some (.string t204) ∧ w'.cell? ⟨gb209, 6, none⟩ = some (.slice Ao8 t205.length co8)) (ds := []) #[false, false, false, false, false, false, false, false, false, false, false, false, false, false, false, false, false, false, false, false, false, false, false, false, false, false, false, false, false, false, false] (by kernel_rfl) rfl rfl ⟨(blk_cell BK209.out 0).trans rfl, (blk_cell BK209.out 1).trans rfl, (blk_cell BK209.out 2).trans rfl, (blk_cell BK209.out 3).trans rfl, (blk_cell BK209.out 4).trans rfl, (blk_cell BK209.out 5).trans rfl, (blk_cell BK209.out 6).trans rfl⟩ (fun hHeld => ?_); refine with_tabW ostlerlaw14_MsgClean.tab11 ostlerlaw14_MsgClean.bits11 (fun HT_ HW_ => ?_); generalize wr.drew = w44 at HO_210004 HO_210006 BK209 HB hHeld ⊢
            refine pure_ (i := 0) (N := some 85) (v := ?_) (a' := ?_) #[true, false, false, false, false, false, false, false, false, false, false, false, false, false, false, false, false, false, false, false, false, false, false, false, false, false, false, false, false, false, false] rfl rfl (any_of HT_.out (by kernel_rfl)) (fun _ _ _ h => h) (Or.inl ⟨by rfl, ?_⟩) ?_ ?_; rotate_left
            ·
             intro w'; go_simp
             with_reducible rfl
            rotate_left
            ·
             simp only [Act.put, zU, zV, zW, i64_w, i32_w]; rfl
            refine pure_ (i := 1) (N := some 86) (v := ?_) (a' := ?_) #[true, true, false, false, false, false, false, false, false, false, false, false, false, false, false, false, false, false, false, false, false, false, false, false, false, false, false, false, false, false, false] rfl rfl (any_of HT_.out (by kernel_rfl)) (fun _ _ _ h => h) (Or.inl ⟨by rfl, ?_⟩) ?_ ?_; rotate_left
            ·
             intro w'; go_simp
             with_reducible rfl
            rotate_left
            ·
             simp only [Act.put, zU, zV, zW, i64_w, i32_w]; rfl
            refine pure_ (i := 2) (N := some 87) (v := ?_) (a' := ?_) #[true, true, true, false, false, false, false, false, false, false, false, false, false, false, false, false, false, false, false, false, false, false, false, false, false, false, false, false, false, false, false] rfl rfl (any_of HT_.out (by kernel_rfl)) (fun _ _ _ h => h) (Or.inl ⟨by rfl, ?_⟩) ?_ ?_; rotate_left
            ·
             intro w'; go_simp
             with_reducible rfl
            rotate_left
            ·
             simp only [Act.put, zU, zV, zW, i64_w, i32_w]; rfl
            refine take_ (i := 3) (N := some 88) (v := ?_) (a' := ?_) #[true, true, true, true, false, false, false, false, false, false, false, false, false, false, false, false, false, false, false, false, false, false, false, false, false, false, false, false, false, false, false] rfl rfl (take_ofW HT_.out HW_.out (by kernel_rfl)) (fun _ _ _ h => h) (Or.inl ⟨by rfl, ?_⟩) hHeld ?_ ?_; rotate_left
            ·
             rintro w' ⟨s0, s1, s2, s3, s4, s5, s6⟩
             go_simp
             with_reducible rfl
            rotate_left
            ·
             simp only [Act.put, zU, zV, zW, i64_w, i32_w]; rfl
            refine pure_ (i := 4) (N := some 89) (v := ?_) (a' := ?_) #[true, true, true, true, true, false, false, false, false, false, false, false, false, false, false, false, false, false, false, false, false, false, false, false, false, false, false, false, false, false, false] rfl rfl (any_of HT_.out (by kernel_rfl)) (fun _ _ _ h => h) (Or.inl ⟨by rfl, ?_⟩) ?_ ?_; rotate_left
            ·
             intro w'; go_simp
             with_reducible rfl
            rotate_left
            ·
             simp only [Act.put, zU, zV, zW, i64_w, i32_w]; rfl
            refine pure_ (i := 5) (N := some 90) (v := ?_) (a' := ?_) #[true, true, true, true, true, true, false, false, false, false, false, false, false, false, false, false, false, false, false, false, false, false, false, false, false, false, false, false, false, false, false] rfl rfl (any_of HT_.out (by kernel_rfl)) (fun _ _ _ h => h) (Or.inl ⟨by rfl, ?_⟩) ?_ ?_; rotate_left
            ·
             intro w'; go_simp
             with_reducible rfl
            rotate_left
            ·
             simp only [Act.put, zU, zV, zW, i64_w, i32_w]; rfl
            refine pure_ (i := 6) (N := some 91) (v := ?_) (a' := ?_) #[true, true, true, true, true, true, true, false, false, false, false, false, false, false, false, false, false, false, false, false, false, false, false, false, false, false, false, false, false, false, false] rfl rfl (any_of HT_.out (by kernel_rfl)) (fun _ _ _ h => h) (Or.inl ⟨by rfl, ?_⟩) ?_ ?_; rotate_left
            ·
             intro w'; go_simp
             with_reducible rfl
            rotate_left
            ·
             simp only [Act.put, zU, zV, zW, i64_w, i32_w]; rfl
            refine take_ (i := 7) (N := some 92) (v := ?_) (a' := ?_) #[true, true, true, true, true, true, true, true, false, false, false, false, false, false, false, false, false, false, false, false, false, false, false, false, false, false, false, false, false, false, false] rfl rfl (take_ofW HT_.out HW_.out (by kernel_rfl)) (fun _ _ _ h => h) (Or.inl ⟨by rfl, ?_⟩) hHeld ?_ ?_; rotate_left
            ·
             rintro w' ⟨s0, s1, s2, s3, s4, s5, s6⟩
             go_simp
             with_reducible rfl
            rotate_left
            ·
             simp only [Act.put, zU, zV, zW, i64_w, i32_w]; rfl
            refine take_ (i := 8) (N := some 93) (v := ?_) (a' := ?_) #[true, true, true, true, true, true, true, true, true, false, false, false, false, false, false, false, false, false, false, false, false, false, false, false, false, false, false, false, false, false, false] rfl rfl (take_ofW HT_.out HW_.out (by kernel_rfl)) (fun _ _ _ h => h) (Or.inl ⟨by rfl, ?_⟩) hHeld ?_ ?_; rotate_left
            ·
             rintro w' ⟨s0, s1, s2, s3, s4, s5, s6⟩
             go_simp
             with_reducible rfl
            rotate_left
            ·
             simp only [Act.put, zU, zV, zW, i64_w, i32_w]; rfl
            refine pure_ (i := 9) (N := some 94) (v := ?_) (a' := ?_) #[true, true, true, true, true, true, true, true, true, true, false, false, false, false, false, false, false, false, false, false, false, false, false, false, false, false, false, false, false, false, false] rfl rfl (any_of HT_.out (by kernel_rfl)) (fun _ _ _ h => h) (Or.inl ⟨by rfl, ?_⟩) ?_ ?_; rotate_left
            ·
             intro w'; go_simp
             with_reducible rfl
            rotate_left
            ·
             simp only [Act.put, zU, zV, zW, i64_w, i32_w]; rfl
            refine pure_ (i := 10) (N := some 95) (v := ?_) (a' := ?_) #[true, true, true, true, true, true, true, true, true, true, true, false, false, false, false, false, false, false, false, false, false, false, false, false, false, false, false, false, false, false, false] rfl rfl (any_of HT_.out (by kernel_rfl)) (fun _ _ _ h => h) (Or.inl ⟨by rfl, ?_⟩) ?_ ?_; rotate_left
            ·
             intro w'; go_simp
             with_reducible rfl
            rotate_left
            ·
             simp only [Act.put, zU, zV, zW, i64_w, i32_w]; rfl
            refine pure_ (i := 11) (N := some 96) (v := ?_) (a' := ?_) #[true, true, true, true, true, true, true, true, true, true, true, true, false, false, false, false, false, false, false, false, false, false, false, false, false, false, false, false, false, false, false] rfl rfl (any_of HT_.out (by kernel_rfl)) (fun _ _ _ h => h) (Or.inl ⟨by rfl, ?_⟩) ?_ ?_; rotate_left
            ·
             intro w'; go_simp
             with_reducible rfl
            rotate_left
            ·
             simp only [Act.put, zU, zV, zW, i64_w, i32_w]; rfl
            refine pure_ (i := 12) (N := some 97) (v := ?_) (a' := ?_) #[true, true, true, true, true, true, true, true, true, true, true, true, true, false, false, false, false, false, false, false, false, false, false, false, false, false, false, false, false, false, false] rfl rfl (any_of HT_.out (by kernel_rfl)) (fun _ _ _ h => h) (Or.inl ⟨by rfl, ?_⟩) ?_ ?_; rotate_left
            ·
             intro w'; go_simp
             with_reducible rfl
            rotate_left
            ·
             simp only [Act.put, zU, zV, zW, i64_w, i32_w]; rfl
            refine pure_ (i := 13) (N := some 98) (v := ?_) (a' := ?_) #[true, true, true, true, true, true, true, true, true, true, true, true, true, true, false, false, false, false, false, false, false, false, false, false, false, false, false, false, false, false, false] rfl rfl (any_of HT_.out (by kernel_rfl)) (fun _ _ _ h => h) (Or.inl ⟨by rfl, ?_⟩) ?_ ?_; rotate_left
            ·
             intro w'; go_simp
             with_reducible rfl
            rotate_left
            ·
             simp only [Act.put, zU, zV, zW, i64_w, i32_w]; rfl
            refine pure_ (i := 17) (N := some 102) (v := ?_) (a' := ?_) #[true, true, true, true, true, true, true, true, true, true, true, true, true, true, false, false, false, true, false, false, false, false, false, false, false, false, false, false, false, false, false] rfl rfl (any_of HT_.out (by kernel_rfl)) (fun _ _ _ h => h) (Or.inl ⟨by rfl, ?_⟩) ?_ ?_; rotate_left
            ·
             intro w'; go_simp
             with_reducible rfl
            rotate_left
            ·
             simp only [Act.put, zU, zV, zW, i64_w, i32_w]; rfl
            refine take_ (i := 14) (N := some 99) (v := ?_) (a' := ?_) #[true, true, true, true, true, true, true, true, true, true, true, true, true, true, true, false, false, true, false, false, false, false, false, false, false, false, false, false, false, false, false] rfl rfl (take_ofW HT_.out HW_.out (by kernel_rfl)) (fun _ _ _ h => h) (Or.inl ⟨by rfl, ?_⟩) hHeld ?_ ?_; rotate_left
            ·
             rintro w' ⟨s0, s1, s2, s3, s4, s5, s6⟩
             go_simp
             with_reducible rfl
            rotate_left
            ·
             simp only [Act.put, zU, zV, zW, i64_w, i32_w]; rfl
            refine take_ (i := 18) (N := some 103) (v := ?_) (a' := ?_) #[true, true, true, true, true, true, true, true, true, true, true, true, true, true, true, false, false, true, true, false, false, false, false, false, false, false, false, false, false, false, false] rfl rfl (take_ofW HT_.out HW_.out (by kernel_rfl)) (fun _ _ _ h => h) (Or.inl ⟨by rfl, ?_⟩) hHeld ?_ ?_; rotate_left
            ·
             rintro w' ⟨s0, s1, s2, s3, s4, s5, s6⟩
             go_simp
             with_reducible rfl
            rotate_left
            ·
             simp only [Act.put, zU, zV, zW, i64_w, i32_w]; rfl
            refine pure_ (i := 19) (N := some 104) (v := ?_) (a' := ?_) #[true, true, true, true, true, true, true, true, true, true, true, true, true, true, true, false, false, true, true, true, false, false, false, false, false, false, false, false, false, false, false] rfl rfl (any_of HT_.out (by kernel_rfl)) (fun _ _ _ h => h) (Or.inl ⟨by rfl, ?_⟩) ?_ ?_; rotate_left
            ·
             intro w'; go_simp
             with_reducible rfl
            rotate_left
            ·
             simp only [Act.put, zU, zV, zW, i64_w, i32_w]; rfl
            refine one_ (i := 15) (N := some 100) #[true, true, true, true, true, true, true, true, true, true, true, true, true, true, true, true, false, true, true, true, false, false, false, false, false, false, false, false, false, false, false] rfl rfl (one_of HT_.out (by kernel_rfl)) (by decide) (fun K hK => ?_); refine goes_ Tryd.func10 (by kernel_rfl) rfl #[.slice Ao7 t201.length co7] (by rfl) rfl rfl (by (try simp only [List.map_toArray, List.map_cons, List.map_nil]); first | done | rfl | (simp only [List.length_drop, List.length_take]; rfl)) ?_
            with_reducible refine (msg_Strip.calls k1 _ _ t201 t217 _ ?side1 ?side2 A39.out).mono ?_
            (case side1 => repeat (first | exact (Kd.R_reads' HO_210004.out).2.2 | (with_reducible refine Kd.C_alloc ?_ _) | (with_reducible refine Kd.C_drewN ?_ _) | (with_reducible refine Kd.C_drew ?_)))
            (case side2 => exact (Kd.R_reads' HO_210004.out).2.1)
            rintro e w45 ⟨v218, rfl, ho0, hb⟩
            refine ⟨_, rfl, ?_⟩; have n0_ := zM (Kd.R_elder' (by (with_reducible repeat (first|apply zD|apply zE|apply zF)); exact HO_210004.out) (Kd.R_base ho0) hb)
            have n1_ := zM (Kd.R_elder' (by (with_reducible repeat (first|apply zD|apply zE|apply zF)); exact HO_210006.out) (Kd.R_base ho0) hb); have n2_ := zM (Kd.R_lower (Kd.R_new' (Kd.R_new' ho0 (Kd.R_lt (by (with_reducible repeat (first|apply zD|apply zE|apply zF)); exact HO_210004.out))) (Kd.R_lt (by (with_reducible repeat (first|apply zD|apply zE|apply zF)); exact HO_210006.out))) (below_size (by repeat (first | (with_reducible first | exact HB.out | apply zG|apply zH|apply zI | refine below_set ?_ GE209.out) | exact HB.out))))
            have n3_ := zM (blk_below (g := gb209) (o := .cells #[.string t197, .string t198, .string t199, .string t200, .slice Ao7 t201.length co7, .string t204, .slice Ao8 t205.length co8] 24 (0, 0)) (by (with_reducible repeat (first|apply zA|apply zB|apply zC)); exact BK209.out) hb); have n4_ := zM (zS (by repeat (first | (with_reducible first | exact HB.out | apply zG|apply zH|apply zI | refine below_set ?_ GE209.out) | exact HB.out)) hb)
            clear HO_210004; clear HO_210006; clear BK209; clear HB; have HO_210004 := n0_; have HO_210006 := n1_; have HO219 := n2_; have BK209 := n3_; have HB := n4_; clear n0_ n1_ n2_ n3_ n4_; (try clear hb); (try clear hb2); (try clear hk); (try clear hi); (try clear ho0); obtain ⟨Ao46, co46, eo46⟩ := Kd.R_slice HO219.out; (first | subst eo46 | (injection eo46 with f1_ f2_ f3_; have f4_ := f1_.symm; have f5_ := f3_.symm; clear f1_ f2_ f3_; subst f4_; subst f5_))
            refine hK.out _ _ ⟨(blk_cell BK209.out 0).trans rfl, (blk_cell BK209.out 1).trans rfl, (blk_cell BK209.out 2).trans rfl, (blk_cell BK209.out 3).trans rfl, (blk_cell BK209.out 4).trans rfl, (blk_cell BK209.out 5).trans rfl, (blk_cell BK209.out 6).trans rfl⟩ (fun hHeld => ?_); clear hK K; refine norm_ (a' := ?_) ?_ ?_; rotate_left
            ·
             show Act.put _ (some 100) _ = _
             simp only [Act.put, zU, zV, zW, i64_w, i32_w]; rfl
            refine pure_ (i := 16) (N := some 101) (v := ?_) (a' := ?_) #[true, true, true, true, true, true, true, true, true, true, true, true, true, true, true, true, true, true, true, true, false, false, false, false, false, false, false, false, false, false, false] rfl rfl (any_of HT_.out (by kernel_rfl)) (fun _ _ _ h => h) (Or.inl ⟨by rfl, ?_⟩) ?_ ?_; rotate_left
            ·
             intro w'; go_simp
             with_reducible rfl
            rotate_left
            ·
             simp only [Act.put, zU, zV, zW, i64_w, i32_w]; rfl
            refine pure_ (i := 20) (N := some 105) (v := ?_) (a' := ?_) #[true, true, true, true, true, true, true, true, true, true, true, true, true, true, true, true, true, true, true, true, true, false, false, false, false, false, false, false, false, false, false] rfl rfl (any_of HT_.out (by kernel_rfl)) (fun _ _ _ h => h) (Or.inl ⟨by rfl, ?_⟩) ?_ ?_; rotate_left
            ·
             intro w'; go_simp
             with_reducible rfl
            rotate_left
            ·
             simp only [Act.put, zU, zV, zW, i64_w, i32_w]; rfl
            refine pure_ (i := 21) (N := some 106) (v := ?_) (a' := ?_) #[true, true, true, true, true, true, true, true, true, true, true, true, true, true, true, true, true, true, true, true, true, true, false, false, false, false, false, false, false, false, false] rfl rfl (any_of HT_.out (by kernel_rfl)) (fun _ _ _ h => h) (Or.inl ⟨by rfl, ?_⟩) ?_ ?_; rotate_left
            ·
             intro w'; go_simp
             with_reducible rfl
            rotate_left
            ·
             simp only [Act.put, zU, zV, zW, i64_w, i32_w]; rfl
            refine pure_ (i := 22) (N := some 107) (v := ?_) (a' := ?_) #[true, true, true, true, true, true, true, true, true, true, true, true, true, true, true, true, true, true, true, true, true, true, true, false, false, false, false, false, false, false, false] rfl rfl (any_of HT_.out (by kernel_rfl)) (fun _ _ _ h => h) (Or.inl ⟨by rfl, ?_⟩) ?_ ?_; rotate_left
            ·
             intro w'; go_simp
             with_reducible rfl
            rotate_left
            ·
             simp only [Act.put, zU, zV, zW, i64_w, i32_w]; rfl
            refine pure_ (i := 23) (N := some 108) (v := ?_) (a' := ?_) #[true, true, true, true, true, true, true, true, true, true, true, true, true, true, true, true, true, true, true, true, true, true, true, true, false, false, false, false, false, false, false] rfl rfl (any_of HT_.out (by kernel_rfl)) (fun _ _ _ h => h) (Or.inl ⟨by rfl, ?_⟩) ?_ ?_; rotate_left
            ·
             intro w'; go_simp
             with_reducible rfl
            rotate_left
            ·
             simp only [Act.put, zU, zV, zW, i64_w, i32_w]; rfl
            refine take_ (i := 24) (N := some 109) (v := ?_) (a' := ?_) #[true, true, true, true, true, true, true, true, true, true, true, true, true, true, true, true, true, true, true, true, true, true, true, true, true, false, false, false, false, false, false] rfl rfl (take_ofW HT_.out HW_.out (by kernel_rfl)) (fun _ _ _ h => h) (Or.inl ⟨by rfl, ?_⟩) hHeld ?_ ?_; rotate_left
            ·
             rintro w' ⟨s0, s1, s2, s3, s4, s5, s6⟩
             go_simp
             with_reducible rfl
            rotate_left
            ·
             simp only [Act.put, zU, zV, zW, i64_w, i32_w]; rfl
            refine pure_ (i := 25) (N := some 110) (v := ?_) (a' := ?_) #[true, true, true, true, true, true, true, true, true, true, true, true, true, true, true, true, true, true, true, true, true, true, true, true, true, true, false, false, false, false, false] rfl rfl (any_of HT_.out (by kernel_rfl)) (fun _ _ _ h => h) (Or.inl ⟨by rfl, ?_⟩) ?_ ?_; rotate_left
            ·
             intro w'; go_simp
             with_reducible rfl
            rotate_left
            ·
             simp only [Act.put, zU, zV, zW, i64_w, i32_w]; rfl
            refine pure_ (i := 26) (N := some 111) (v := ?_) (a' := ?_) #[true, true, true, true, true, true, true, true, true, true, true, true, true, true, true, true, true, true, true, true, true, true, true, true, true, true, true, false, false, false, false] rfl rfl (any_of HT_.out (by kernel_rfl)) (fun _ _ _ h => h) (Or.inl ⟨by rfl, ?_⟩) ?_ ?_; rotate_left
            ·
             intro w'; go_simp
             with_reducible rfl
            rotate_left
            ·
             simp only [Act.put, zU, zV, zW, i64_w, i32_w]; rfl
            refine pure_ (i := 27) (N := some 112) (v := ?_) (a' := ?_) #[true, true, true, true, true, true, true, true, true, true, true, true, true, true, true, true, true, true, true, true, true, true, true, true, true, true, true, true, false, false, false] rfl rfl (any_of HT_.out (by kernel_rfl)) (fun _ _ _ h => h) (Or.inl ⟨by rfl, ?_⟩) ?_ ?_; rotate_left
            ·
             intro w'; go_simp
             with_reducible rfl
            rotate_left
            ·
             simp only [Act.put, zU, zV, zW, i64_w, i32_w]; rfl
            refine one_ (i := 28) (N := some 113) #[true, true, true, true, true, true, true, true, true, true, true, true, true, true, true, true, true, true, true, true, true, true, true, true, true, true, true, true, true, false, false] rfl rfl (one_of HT_.out (by kernel_rfl)) (by decide) (fun K hK => ?_); refine goes_ Tryd.func7 (by kernel_rfl) rfl #[] (by rfl) rfl rfl (by (try simp only [List.map_toArray, List.map_cons, List.map_nil]); first | done | rfl | (simp only [List.length_drop, List.length_take]; rfl)) ?_
            with_reducible refine (ostlerlaw14_awake.calls k1  t220 _ ?side1 A42.out).mono ?_
            (case side1 => exact GI.below HG.out (by repeat (first | (with_reducible first | exact HB.out | apply zG|apply zH|apply zI | refine below_set ?_ GE209.out) | exact HB.out)))
            rintro e w47 ⟨rfl, hb⟩
            refine ⟨_, rfl, ?_⟩; have n0_ := zM (Kd.R_below (by (with_reducible repeat (first|apply zD|apply zE|apply zF)); exact HO_210004.out) hb)
            have n1_ := zM (Kd.R_below (by (with_reducible repeat (first|apply zD|apply zE|apply zF)); exact HO_210006.out) hb); have n2_ := zM (Kd.R_below (by (with_reducible repeat (first|apply zD|apply zE|apply zF)); exact HO219.out) hb)
            have n3_ := zM (blk_below (g := gb209) (o := .cells #[.string t197, .string t198, .string t199, .string t200, .slice Ao7 t201.length co7, .string t204, .slice Ao8 t205.length co8] 24 (0, 0)) (by (with_reducible repeat (first|apply zA|apply zB|apply zC)); exact BK209.out) hb); have n4_ := zM (zS (by repeat (first | (with_reducible first | exact HB.out | apply zG|apply zH|apply zI | refine below_set ?_ GE209.out) | exact HB.out)) hb)
            clear HO_210004; clear HO_210006; clear HO219; clear BK209; clear HB; have HO_210004 := n0_; have HO_210006 := n1_; have HO219 := n2_; have BK209 := n3_; have HB := n4_; clear n0_ n1_ n2_ n3_ n4_; (try clear hb); (try clear hb2); (try clear hk); (try clear hi); refine hK.out _ _ ⟨(blk_cell BK209.out 0).trans rfl, (blk_cell BK209.out 1).trans rfl, (blk_cell BK209.out 2).trans rfl, (blk_cell BK209.out 3).trans rfl, (blk_cell BK209.out 4).trans rfl, (blk_cell BK209.out 5).trans rfl, (blk_cell BK209.out 6).trans rfl⟩ (fun hHeld => ?_); clear hK K; refine norm_ (a' := ?_) ?_ ?_; rotate_left
            ·
             show Act.put _ (some 113) _ = _
             simp only [Act.put, zU, zV, zW, i64_w, i32_w]; rfl
            refine pure_ (i := 29) (N := some 114) (v := ?_) (a' := ?_) #[true, true, true, true, true, true, true, true, true, true, true, true, true, true, true, true, true, true, true, true, true, true, true, true, true, true, true, true, true, true, false] rfl rfl (any_of HT_.out (by kernel_rfl)) (fun _ _ _ h => h) (Or.inl ⟨by rfl, ?_⟩) ?_ ?_; rotate_left
            ·
             intro w'; go_simp
             with_reducible rfl
            rotate_left
            ·
             simp only [Act.put, zU, zV, zW, i64_w, i32_w]; rfl
            refine pure_ (i := 30) (N := some 2) (v := ?_) (a' := ?_) #[true, true, true, true, true, true, true, true, true, true, true, true, true, true, true, true, true, true, true, true, true, true, true, true, true, true, true, true, true, true, true] rfl rfl (any_of HT_.out (by kernel_rfl)) (fun _ _ _ h => h) (Or.inl ⟨by rfl, ?_⟩) ?_ ?_; rotate_left
            ·
             intro w'; go_simp
             with_reducible rfl
            rotate_left
            ·
             simp only [Act.put, zU, zV, zW, i64_w, i32_w]; rfl
            refine done_ (done_of HT_.out (by kernel_rfl)) ?_; try go_wp2
            go_ret
            exact ⟨by first | rfl | (simp [errW_none, errW_some] <;> rfl) | (simp [*, errW_none, errW_some] <;> rfl), by repeat (first | (with_reducible first | exact HB.out | apply zG|apply zH|apply zI | refine below_set ?_ GE209.out) | exact HB.out)⟩
           ·
            rw [if_neg c41] at H; have c41b0 : (t204.toList == ([] : List UInt8)) = false := beq_eq_false_iff_ne.mpr c41; have c41b1 : (t204.toList != ([] : List UInt8)) = true := bne_iff_ne.mpr c41
            exact absurd H (by simp)
          ·
           rw [if_neg c40] at H; have c40b0 : ((t217.length : Int) == (t201.length : Int)) = false := beq_eq_false_iff_ne.mpr c40; have c40b1 : ((t217.length : Int) != (t201.length : Int)) = true := bne_iff_ne.mpr c40; have c40b2 : (t217.length == t201.length) = false := by first | simpa using c40 | (simp at c40 ⊢; omega)
           exact absurd H (by simp)
         ·
          rw [if_neg c38] at H; have c38b0 : ((bt t200 0) == 47) = false := beq_eq_false_iff_ne.mpr c38; have c38b1 : ((bt t200 0) != 47) = true := bne_iff_ne.mpr c38
          exact absurd H (by simp)
        ·
         rw [if_neg c36] at H
         exact absurd H (by simp)
     ·
      rw [if_neg c24] at H; have c24b0 : (t200.toList == ([42] : List UInt8)) = false := beq_eq_false_iff_ne.mpr c24; have c24b1 : (t200.toList != ([42] : List UInt8)) = true := bne_iff_ne.mpr c24; by_cases c48 : t200.toList = ([] : List UInt8)
      ·
       rw [if_pos c48] at H; have c48b0 : (t200.toList == ([] : List UInt8)) = true := beq_iff_eq.mpr c48; have c48b1 : (t200.toList != ([] : List UInt8)) = false := bne_eq_false_iff_eq.mpr c48; clear c48
       exact absurd H (by simp)
      ·
       rw [if_neg c48] at H; have c48b0 : (t200.toList == ([] : List UInt8)) = false := beq_eq_false_iff_ne.mpr c48; have c48b1 : (t200.toList != ([] : List UInt8)) = true := bne_iff_ne.mpr c48; by_cases c49 : 0 < (t200.size : Int)
       ·
        rw [if_pos c49] at H; have c49b0 : decide (0 < (t200.size : Int)) = true := decide_eq_true c49; have c49b1 : decide (0 < t200.size) = true := decide_eq_true (by omega); clear c49; by_cases c51 : (bt t200 0) = 47
        ·
         rw [if_pos c51] at H; have c51b0 : ((bt t200 0) == 47) = true := beq_iff_eq.mpr c51; have c51b1 : ((bt t200 0) != 47) = false := bne_eq_false_iff_eq.mpr c51; clear c51; replace H := Option.bind_eq_some_iff.mp H; obtain ⟨t221, A520, H⟩ := H; replace H : (if (t221.length : Int) = (t201.length : Int) then (if t204.toList = ([] : List UInt8) then ((ostlerlaw14_awake.f k1).bind fun t224 => (some t224)) else (none)) else (none)) = some r := H; have A52 := zM A520; clear A520; by_cases c53 : (t221.length : Int) = (t201.length : Int)
         ·
          rw [if_pos c53] at H; have c53b0 : ((t221.length : Int) == (t201.length : Int)) = true := beq_iff_eq.mpr c53; have c53b1 : ((t221.length : Int) != (t201.length : Int)) = false := bne_eq_false_iff_eq.mpr c53; have c53b2 : (t221.length == t201.length) = true := by first | simpa using c53 | (simp at c53 ⊢; omega)
          clear c53; by_cases c54 : t204.toList = ([] : List UInt8)
          ·
           rw [if_pos c54] at H; have c54b0 : (t204.toList == ([] : List UInt8)) = true := beq_iff_eq.mpr c54; have c54b1 : (t204.toList != ([] : List UInt8)) = false := bne_eq_false_iff_eq.mpr c54; clear c54; replace H := Option.bind_eq_some_iff.mp H; obtain ⟨t224, A550, H⟩ := H; replace H : (some t224) = some r := H; have A55 := zM A550; clear A550; obtain rfl := Option.some.inj H; have hcz56_0 : wr.cell? ⟨gb209, 0, none⟩ = some (.string t197) := (blk_cell BK209.out 0).trans rfl; have hcz56_1 : wr.cell? ⟨gb209, 1, none⟩ = some (.string t198) := (blk_cell BK209.out 1).trans rfl; have hcz56_2 : wr.cell? ⟨gb209, 2, none⟩ = some (.string t199) := (blk_cell BK209.out 2).trans rfl; have hcz56_3 : wr.cell? ⟨gb209, 3, none⟩ = some (.string t200) := (blk_cell BK209.out 3).trans rfl; have hcz56_4 : wr.cell? ⟨gb209, 4, none⟩ = some (.slice Ao7 t201.length co7) := (blk_cell BK209.out 4).trans rfl; have hcz56_5 : wr.cell? ⟨gb209, 5, none⟩ = some (.string t204) := (blk_cell BK209.out 5).trans rfl; have hcz56_6 : wr.cell? ⟨gb209, 6, none⟩ = some (.slice Ao8 t205.length co8) := (blk_cell BK209.out 6).trans rfl; have hfz56_0 := blk_frozen BK209.out 0; have hfz56_1 := blk_frozen BK209.out 1; have hfz56_2 := blk_frozen BK209.out 2; have hfz56_3 := blk_frozen BK209.out 3; have hfz56_4 := blk_frozen BK209.out 4; have hfz56_5 := blk_frozen BK209.out 5; have hfz56_6 := blk_frozen BK209.out 6; try go_wp2
           have n0_ := zM (Kd.R_drew HO_210004.out); have n1_ := zM (Kd.R_drew HO_210006.out); have n2_ := zM (blk_drew BK209.out); have n3_ := zM (below_drew1 HB.out); clear HO_210004; clear HO_210006; clear BK209; clear HB; have HO_210004 := n0_; have HO_210006 := n1_; have BK209 := n2_; have HB := n3_; clear n0_ n1_ n2_ n3_; have p50 : 0 ≤ (0 : Int) := (by omega); have q50 : 0 < t200.size := (by have : (0 : Int) < (t200.size : Int) := of_decide_eq_true (by first | (with_reducible assumption) | assumption); omega)
           have hx50 : ∀ h : 0 < t200.size, ((t200[0]'h).toNat : Int) = bt t200 0 := bt_at t200 0; clear p50; have qi50 : (0 < (t200.size : Int)) = True := eq_true (of_decide_eq_true (by first | (with_reducible assumption) | assumption)); replace q50 := eq_true q50; refine start_ (n := 31) (S := fun w' => w'.cell? ⟨gb209, 0, none⟩ = some (.string t197) ∧ w'.cell? ⟨gb209, 1, none⟩ = some (.string t198) ∧ w'.cell? ⟨gb209, 2, none⟩ = some (.string t199) ∧ w'.cell? ⟨gb209, 3, none⟩ = some (.string t200) ∧ w'.cell? ⟨gb209, 4, none⟩ = some (.slice Ao7 t201.length co7) ∧ w'.cell? ⟨gb209, 5, none⟩ = some (.string t204) ∧ w'.cell? ⟨gb209, 6, none⟩ = some (.slice Ao8 t205.length co8)) (ds := []) #[false, false, false, false, false, false, false, false, false, false, false, false, false, false, false, false, false, false, false, false, false, false, false, false, false, false, false, false, false, false, false] (by kernel_rfl) rfl rfl ⟨(blk_cell BK209.out 0).trans rfl, (blk_cell BK209.out 1).trans rfl, (blk_cell BK209.out 2).trans rfl, (blk_cell BK209.out 3).trans rfl, (blk_cell BK209.out 4).trans rfl, (blk_cell BK209.out 5).trans rfl, (blk_cell BK209.out 6).trans rfl⟩ (fun hHeld => ?_); refine with_tabW ostlerlaw14_MsgClean.tab11 ostlerlaw14_MsgClean.bits11 (fun HT_ HW_ => ?_); generalize wr.drew = w57 at HO_210004 HO_210006 BK209 HB hHeld ⊢
           refine pure_ (i := 0) (N := some 85) (v := ?_) (a' := ?_) #[true, false, false, false, false, false, false, false, false, false, false, false, false, false, false, false, false, false, false, false, false, false, false, false, false, false, false, false, false, false, false] rfl rfl (any_of HT_.out (by kernel_rfl)) (fun _ _ _ h => h) (Or.inl ⟨by rfl, ?_⟩) ?_ ?_; rotate_left
           ·
            intro w'; go_simp
            with_reducible rfl
           rotate_left
           ·
            simp only [Act.put, zU, zV, zW, i64_w, i32_w]; rfl
           refine pure_ (i := 1) (N := some 86) (v := ?_) (a' := ?_) #[true, true, false, false, false, false, false, false, false, false, false, false, false, false, false, false, false, false, false, false, false, false, false, false, false, false, false, false, false, false, false] rfl rfl (any_of HT_.out (by kernel_rfl)) (fun _ _ _ h => h) (Or.inl ⟨by rfl, ?_⟩) ?_ ?_; rotate_left
           ·
            intro w'; go_simp
            with_reducible rfl
           rotate_left
           ·
            simp only [Act.put, zU, zV, zW, i64_w, i32_w]; rfl
           refine pure_ (i := 2) (N := some 87) (v := ?_) (a' := ?_) #[true, true, true, false, false, false, false, false, false, false, false, false, false, false, false, false, false, false, false, false, false, false, false, false, false, false, false, false, false, false, false] rfl rfl (any_of HT_.out (by kernel_rfl)) (fun _ _ _ h => h) (Or.inl ⟨by rfl, ?_⟩) ?_ ?_; rotate_left
           ·
            intro w'; go_simp
            with_reducible rfl
           rotate_left
           ·
            simp only [Act.put, zU, zV, zW, i64_w, i32_w]; rfl
           refine take_ (i := 3) (N := some 88) (v := ?_) (a' := ?_) #[true, true, true, true, false, false, false, false, false, false, false, false, false, false, false, false, false, false, false, false, false, false, false, false, false, false, false, false, false, false, false] rfl rfl (take_ofW HT_.out HW_.out (by kernel_rfl)) (fun _ _ _ h => h) (Or.inl ⟨by rfl, ?_⟩) hHeld ?_ ?_; rotate_left
           ·
            rintro w' ⟨s0, s1, s2, s3, s4, s5, s6⟩
            go_simp
            with_reducible rfl
           rotate_left
           ·
            simp only [Act.put, zU, zV, zW, i64_w, i32_w]; rfl
           refine pure_ (i := 4) (N := some 89) (v := ?_) (a' := ?_) #[true, true, true, true, true, false, false, false, false, false, false, false, false, false, false, false, false, false, false, false, false, false, false, false, false, false, false, false, false, false, false] rfl rfl (any_of HT_.out (by kernel_rfl)) (fun _ _ _ h => h) (Or.inl ⟨by rfl, ?_⟩) ?_ ?_; rotate_left
           ·
            intro w'; go_simp
            with_reducible rfl
           rotate_left
           ·
            simp only [Act.put, zU, zV, zW, i64_w, i32_w]; rfl
           refine pure_ (i := 5) (N := some 90) (v := ?_) (a' := ?_) #[true, true, true, true, true, true, false, false, false, false, false, false, false, false, false, false, false, false, false, false, false, false, false, false, false, false, false, false, false, false, false] rfl rfl (any_of HT_.out (by kernel_rfl)) (fun _ _ _ h => h) (Or.inl ⟨by rfl, ?_⟩) ?_ ?_; rotate_left
           ·
            intro w'; go_simp
            with_reducible rfl
           rotate_left
           ·
            simp only [Act.put, zU, zV, zW, i64_w, i32_w]; rfl
           refine pure_ (i := 6) (N := some 91) (v := ?_) (a' := ?_) #[true, true, true, true, true, true, true, false, false, false, false, false, false, false, false, false, false, false, false, false, false, false, false, false, false, false, false, false, false, false, false] rfl rfl (any_of HT_.out (by kernel_rfl)) (fun _ _ _ h => h) (Or.inl ⟨by rfl, ?_⟩) ?_ ?_; rotate_left
           ·
            intro w'; go_simp
            with_reducible rfl
           rotate_left
           ·
            simp only [Act.put, zU, zV, zW, i64_w, i32_w]; rfl
           refine take_ (i := 7) (N := some 92) (v := ?_) (a' := ?_) #[true, true, true, true, true, true, true, true, false, false, false, false, false, false, false, false, false, false, false, false, false, false, false, false, false, false, false, false, false, false, false] rfl rfl (take_ofW HT_.out HW_.out (by kernel_rfl)) (fun _ _ _ h => h) (Or.inl ⟨by rfl, ?_⟩) hHeld ?_ ?_; rotate_left
           ·
            rintro w' ⟨s0, s1, s2, s3, s4, s5, s6⟩
            go_simp
            with_reducible rfl
           rotate_left
           ·
            simp only [Act.put, zU, zV, zW, i64_w, i32_w]; rfl
           refine take_ (i := 8) (N := some 93) (v := ?_) (a' := ?_) #[true, true, true, true, true, true, true, true, true, false, false, false, false, false, false, false, false, false, false, false, false, false, false, false, false, false, false, false, false, false, false] rfl rfl (take_ofW HT_.out HW_.out (by kernel_rfl)) (fun _ _ _ h => h) (Or.inl ⟨by rfl, ?_⟩) hHeld ?_ ?_; rotate_left
           ·
            rintro w' ⟨s0, s1, s2, s3, s4, s5, s6⟩
            go_simp
            with_reducible rfl
           rotate_left
           ·
            simp only [Act.put, zU, zV, zW, i64_w, i32_w]; rfl
           refine pure_ (i := 9) (N := some 94) (v := ?_) (a' := ?_) #[true, true, true, true, true, true, true, true, true, true, false, false, false, false, false, false, false, false, false, false, false, false, false, false, false, false, false, false, false, false, false] rfl rfl (any_of HT_.out (by kernel_rfl)) (fun _ _ _ h => h) (Or.inl ⟨by rfl, ?_⟩) ?_ ?_; rotate_left
           ·
            intro w'; go_simp
            with_reducible rfl
           rotate_left
           ·
            simp only [Act.put, zU, zV, zW, i64_w, i32_w]; rfl
           refine pure_ (i := 10) (N := some 95) (v := ?_) (a' := ?_) #[true, true, true, true, true, true, true, true, true, true, true, false, false, false, false, false, false, false, false, false, false, false, false, false, false, false, false, false, false, false, false] rfl rfl (any_of HT_.out (by kernel_rfl)) (fun _ _ _ h => h) (Or.inl ⟨by rfl, ?_⟩) ?_ ?_; rotate_left
           ·
            intro w'; go_simp
            with_reducible rfl
           rotate_left
           ·
            simp only [Act.put, zU, zV, zW, i64_w, i32_w]; rfl
           refine pure_ (i := 11) (N := some 96) (v := ?_) (a' := ?_) #[true, true, true, true, true, true, true, true, true, true, true, true, false, false, false, false, false, false, false, false, false, false, false, false, false, false, false, false, false, false, false] rfl rfl (any_of HT_.out (by kernel_rfl)) (fun _ _ _ h => h) (Or.inl ⟨by rfl, ?_⟩) ?_ ?_; rotate_left
           ·
            intro w'; go_simp
            with_reducible rfl
           rotate_left
           ·
            simp only [Act.put, zU, zV, zW, i64_w, i32_w]; rfl
           refine pure_ (i := 12) (N := some 97) (v := ?_) (a' := ?_) #[true, true, true, true, true, true, true, true, true, true, true, true, true, false, false, false, false, false, false, false, false, false, false, false, false, false, false, false, false, false, false] rfl rfl (any_of HT_.out (by kernel_rfl)) (fun _ _ _ h => h) (Or.inl ⟨by rfl, ?_⟩) ?_ ?_; rotate_left
           ·
            intro w'; go_simp
            with_reducible rfl
           rotate_left
           ·
            simp only [Act.put, zU, zV, zW, i64_w, i32_w]; rfl
           refine pure_ (i := 13) (N := some 98) (v := ?_) (a' := ?_) #[true, true, true, true, true, true, true, true, true, true, true, true, true, true, false, false, false, false, false, false, false, false, false, false, false, false, false, false, false, false, false] rfl rfl (any_of HT_.out (by kernel_rfl)) (fun _ _ _ h => h) (Or.inl ⟨by rfl, ?_⟩) ?_ ?_; rotate_left
           ·
            intro w'; go_simp
            with_reducible rfl
           rotate_left
           ·
            simp only [Act.put, zU, zV, zW, i64_w, i32_w]; rfl
           refine pure_ (i := 17) (N := some 102) (v := ?_) (a' := ?_) #[true, true, true, true, true, true, true, true, true, true, true, true, true, true, false, false, false, true, false, false, false, false, false, false, false, false, false, false, false, false, false] rfl rfl (any_of HT_.out (by kernel_rfl)) (fun _ _ _ h => h) (Or.inl ⟨by rfl, ?_⟩) ?_ ?_; rotate_left
           ·
            intro w'; go_simp
            with_reducible rfl
           rotate_left
           ·
            simp only [Act.put, zU, zV, zW, i64_w, i32_w]; rfl
           refine take_ (i := 14) (N := some 99) (v := ?_) (a' := ?_) #[true, true, true, true, true, true, true, true, true, true, true, true, true, true, true, false, false, true, false, false, false, false, false, false, false, false, false, false, false, false, false] rfl rfl (take_ofW HT_.out HW_.out (by kernel_rfl)) (fun _ _ _ h => h) (Or.inl ⟨by rfl, ?_⟩) hHeld ?_ ?_; rotate_left
           ·
            rintro w' ⟨s0, s1, s2, s3, s4, s5, s6⟩
            go_simp
            with_reducible rfl
           rotate_left
           ·
            simp only [Act.put, zU, zV, zW, i64_w, i32_w]; rfl
           refine take_ (i := 18) (N := some 103) (v := ?_) (a' := ?_) #[true, true, true, true, true, true, true, true, true, true, true, true, true, true, true, false, false, true, true, false, false, false, false, false, false, false, false, false, false, false, false] rfl rfl (take_ofW HT_.out HW_.out (by kernel_rfl)) (fun _ _ _ h => h) (Or.inl ⟨by rfl, ?_⟩) hHeld ?_ ?_; rotate_left
           ·
            rintro w' ⟨s0, s1, s2, s3, s4, s5, s6⟩
            go_simp
            with_reducible rfl
           rotate_left
           ·
            simp only [Act.put, zU, zV, zW, i64_w, i32_w]; rfl
           refine pure_ (i := 19) (N := some 104) (v := ?_) (a' := ?_) #[true, true, true, true, true, true, true, true, true, true, true, true, true, true, true, false, false, true, true, true, false, false, false, false, false, false, false, false, false, false, false] rfl rfl (any_of HT_.out (by kernel_rfl)) (fun _ _ _ h => h) (Or.inl ⟨by rfl, ?_⟩) ?_ ?_; rotate_left
           ·
            intro w'; go_simp
            with_reducible rfl
           rotate_left
           ·
            simp only [Act.put, zU, zV, zW, i64_w, i32_w]; rfl
           refine one_ (i := 15) (N := some 100) #[true, true, true, true, true, true, true, true, true, true, true, true, true, true, true, true, false, true, true, true, false, false, false, false, false, false, false, false, false, false, false] rfl rfl (one_of HT_.out (by kernel_rfl)) (by decide) (fun K hK => ?_); refine goes_ Tryd.func10 (by kernel_rfl) rfl #[.slice Ao7 t201.length co7] (by rfl) rfl rfl (by (try simp only [List.map_toArray, List.map_cons, List.map_nil]); first | done | rfl | (simp only [List.length_drop, List.length_take]; rfl)) ?_
           with_reducible refine (msg_Strip.calls k1 _ _ t201 t221 _ ?side1 ?side2 A52.out).mono ?_
           (case side1 => repeat (first | exact (Kd.R_reads' HO_210004.out).2.2 | (with_reducible refine Kd.C_alloc ?_ _) | (with_reducible refine Kd.C_drewN ?_ _) | (with_reducible refine Kd.C_drew ?_)))
           (case side2 => exact (Kd.R_reads' HO_210004.out).2.1)
           rintro e w58 ⟨v222, rfl, ho0, hb⟩
           refine ⟨_, rfl, ?_⟩; have n0_ := zM (Kd.R_elder' (by (with_reducible repeat (first|apply zD|apply zE|apply zF)); exact HO_210004.out) (Kd.R_base ho0) hb)
           have n1_ := zM (Kd.R_elder' (by (with_reducible repeat (first|apply zD|apply zE|apply zF)); exact HO_210006.out) (Kd.R_base ho0) hb); have n2_ := zM (Kd.R_lower (Kd.R_new' (Kd.R_new' ho0 (Kd.R_lt (by (with_reducible repeat (first|apply zD|apply zE|apply zF)); exact HO_210004.out))) (Kd.R_lt (by (with_reducible repeat (first|apply zD|apply zE|apply zF)); exact HO_210006.out))) (below_size (by repeat (first | (with_reducible first | exact HB.out | apply zG|apply zH|apply zI | refine below_set ?_ GE209.out) | exact HB.out))))
           have n3_ := zM (blk_below (g := gb209) (o := .cells #[.string t197, .string t198, .string t199, .string t200, .slice Ao7 t201.length co7, .string t204, .slice Ao8 t205.length co8] 24 (0, 0)) (by (with_reducible repeat (first|apply zA|apply zB|apply zC)); exact BK209.out) hb); have n4_ := zM (zS (by repeat (first | (with_reducible first | exact HB.out | apply zG|apply zH|apply zI | refine below_set ?_ GE209.out) | exact HB.out)) hb)
           clear HO_210004; clear HO_210006; clear BK209; clear HB; have HO_210004 := n0_; have HO_210006 := n1_; have HO223 := n2_; have BK209 := n3_; have HB := n4_; clear n0_ n1_ n2_ n3_ n4_; (try clear hb); (try clear hb2); (try clear hk); (try clear hi); (try clear ho0); obtain ⟨Ao59, co59, eo59⟩ := Kd.R_slice HO223.out; (first | subst eo59 | (injection eo59 with f1_ f2_ f3_; have f4_ := f1_.symm; have f5_ := f3_.symm; clear f1_ f2_ f3_; subst f4_; subst f5_))
           refine hK.out _ _ ⟨(blk_cell BK209.out 0).trans rfl, (blk_cell BK209.out 1).trans rfl, (blk_cell BK209.out 2).trans rfl, (blk_cell BK209.out 3).trans rfl, (blk_cell BK209.out 4).trans rfl, (blk_cell BK209.out 5).trans rfl, (blk_cell BK209.out 6).trans rfl⟩ (fun hHeld => ?_); clear hK K; refine norm_ (a' := ?_) ?_ ?_; rotate_left
           ·
            show Act.put _ (some 100) _ = _
            simp only [Act.put, zU, zV, zW, i64_w, i32_w]; rfl
           refine pure_ (i := 16) (N := some 101) (v := ?_) (a' := ?_) #[true, true, true, true, true, true, true, true, true, true, true, true, true, true, true, true, true, true, true, true, false, false, false, false, false, false, false, false, false, false, false] rfl rfl (any_of HT_.out (by kernel_rfl)) (fun _ _ _ h => h) (Or.inl ⟨by rfl, ?_⟩) ?_ ?_; rotate_left
           ·
            intro w'; go_simp
            with_reducible rfl
           rotate_left
           ·
            simp only [Act.put, zU, zV, zW, i64_w, i32_w]; rfl
           refine pure_ (i := 20) (N := some 105) (v := ?_) (a' := ?_) #[true, true, true, true, true, true, true, true, true, true, true, true, true, true, true, true, true, true, true, true, true, false, false, false, false, false, false, false, false, false, false] rfl rfl (any_of HT_.out (by kernel_rfl)) (fun _ _ _ h => h) (Or.inl ⟨by rfl, ?_⟩) ?_ ?_; rotate_left
           ·
            intro w'; go_simp
            with_reducible rfl
           rotate_left
           ·
            simp only [Act.put, zU, zV, zW, i64_w, i32_w]; rfl
           refine pure_ (i := 21) (N := some 106) (v := ?_) (a' := ?_) #[true, true, true, true, true, true, true, true, true, true, true, true, true, true, true, true, true, true, true, true, true, true, false, false, false, false, false, false, false, false, false] rfl rfl (any_of HT_.out (by kernel_rfl)) (fun _ _ _ h => h) (Or.inl ⟨by rfl, ?_⟩) ?_ ?_; rotate_left
           ·
            intro w'; go_simp
            with_reducible rfl
           rotate_left
           ·
            simp only [Act.put, zU, zV, zW, i64_w, i32_w]; rfl
           refine pure_ (i := 22) (N := some 107) (v := ?_) (a' := ?_) #[true, true, true, true, true, true, true, true, true, true, true, true, true, true, true, true, true, true, true, true, true, true, true, false, false, false, false, false, false, false, false] rfl rfl (any_of HT_.out (by kernel_rfl)) (fun _ _ _ h => h) (Or.inl ⟨by rfl, ?_⟩) ?_ ?_; rotate_left
           ·
            intro w'; go_simp
            with_reducible rfl
           rotate_left
           ·
            simp only [Act.put, zU, zV, zW, i64_w, i32_w]; rfl
           refine pure_ (i := 23) (N := some 108) (v := ?_) (a' := ?_) #[true, true, true, true, true, true, true, true, true, true, true, true, true, true, true, true, true, true, true, true, true, true, true, true, false, false, false, false, false, false, false] rfl rfl (any_of HT_.out (by kernel_rfl)) (fun _ _ _ h => h) (Or.inl ⟨by rfl, ?_⟩) ?_ ?_; rotate_left
           ·
            intro w'; go_simp
            with_reducible rfl
           rotate_left
           ·
            simp only [Act.put, zU, zV, zW, i64_w, i32_w]; rfl
           refine take_ (i := 24) (N := some 109) (v := ?_) (a' := ?_) #[true, true, true, true, true, true, true, true, true, true, true, true, true, true, true, true, true, true, true, true, true, true, true, true, true, false, false, false, false, false, false] rfl rfl (take_ofW HT_.out HW_.out (by kernel_rfl)) (fun _ _ _ h => h) (Or.inl ⟨by rfl, ?_⟩) hHeld ?_ ?_; rotate_left
           ·
            rintro w' ⟨s0, s1, s2, s3, s4, s5, s6⟩
            go_simp
            with_reducible rfl
           rotate_left
           ·
            simp only [Act.put, zU, zV, zW, i64_w, i32_w]; rfl
           refine pure_ (i := 25) (N := some 110) (v := ?_) (a' := ?_) #[true, true, true, true, true, true, true, true, true, true, true, true, true, true, true, true, true, true, true, true, true, true, true, true, true, true, false, false, false, false, false] rfl rfl (any_of HT_.out (by kernel_rfl)) (fun _ _ _ h => h) (Or.inl ⟨by rfl, ?_⟩) ?_ ?_; rotate_left
           ·
            intro w'; go_simp
            with_reducible rfl
           rotate_left
           ·
            simp only [Act.put, zU, zV, zW, i64_w, i32_w]; rfl
           refine pure_ (i := 26) (N := some 111) (v := ?_) (a' := ?_) #[true, true, true, true, true, true, true, true, true, true, true, true, true, true, true, true, true, true, true, true, true, true, true, true, true, true, true, false, false, false, false] rfl rfl (any_of HT_.out (by kernel_rfl)) (fun _ _ _ h => h) (Or.inl ⟨by rfl, ?_⟩) ?_ ?_; rotate_left
           ·
            intro w'; go_simp
            with_reducible rfl
           rotate_left
           ·
            simp only [Act.put, zU, zV, zW, i64_w, i32_w]; rfl
           refine pure_ (i := 27) (N := some 112) (v := ?_) (a' := ?_) #[true, true, true, true, true, true, true, true, true, true, true, true, true, true, true, true, true, true, true, true, true, true, true, true, true, true, true, true, false, false, false] rfl rfl (any_of HT_.out (by kernel_rfl)) (fun _ _ _ h => h) (Or.inl ⟨by rfl, ?_⟩) ?_ ?_; rotate_left
           ·
            intro w'; go_simp
            with_reducible rfl
           rotate_left
           ·
            simp only [Act.put, zU, zV, zW, i64_w, i32_w]; rfl
           refine one_ (i := 28) (N := some 113) #[true, true, true, true, true, true, true, true, true, true, true, true, true, true, true, true, true, true, true, true, true, true, true, true, true, true, true, true, true, false, false] rfl rfl (one_of HT_.out (by kernel_rfl)) (by decide) (fun K hK => ?_); refine goes_ Tryd.func7 (by kernel_rfl) rfl #[] (by rfl) rfl rfl (by (try simp only [List.map_toArray, List.map_cons, List.map_nil]); first | done | rfl | (simp only [List.length_drop, List.length_take]; rfl)) ?_
           with_reducible refine (ostlerlaw14_awake.calls k1  t224 _ ?side1 A55.out).mono ?_
           (case side1 => exact GI.below HG.out (by repeat (first | (with_reducible first | exact HB.out | apply zG|apply zH|apply zI | refine below_set ?_ GE209.out) | exact HB.out)))
           rintro e w60 ⟨rfl, hb⟩
           refine ⟨_, rfl, ?_⟩; have n0_ := zM (Kd.R_below (by (with_reducible repeat (first|apply zD|apply zE|apply zF)); exact HO_210004.out) hb)
           have n1_ := zM (Kd.R_below (by (with_reducible repeat (first|apply zD|apply zE|apply zF)); exact HO_210006.out) hb); have n2_ := zM (Kd.R_below (by (with_reducible repeat (first|apply zD|apply zE|apply zF)); exact HO223.out) hb)
           have n3_ := zM (blk_below (g := gb209) (o := .cells #[.string t197, .string t198, .string t199, .string t200, .slice Ao7 t201.length co7, .string t204, .slice Ao8 t205.length co8] 24 (0, 0)) (by (with_reducible repeat (first|apply zA|apply zB|apply zC)); exact BK209.out) hb); have n4_ := zM (zS (by repeat (first | (with_reducible first | exact HB.out | apply zG|apply zH|apply zI | refine below_set ?_ GE209.out) | exact HB.out)) hb)
           clear HO_210004; clear HO_210006; clear HO223; clear BK209; clear HB; have HO_210004 := n0_; have HO_210006 := n1_; have HO223 := n2_; have BK209 := n3_; have HB := n4_; clear n0_ n1_ n2_ n3_ n4_; (try clear hb); (try clear hb2); (try clear hk); (try clear hi); refine hK.out _ _ ⟨(blk_cell BK209.out 0).trans rfl, (blk_cell BK209.out 1).trans rfl, (blk_cell BK209.out 2).trans rfl, (blk_cell BK209.out 3).trans rfl, (blk_cell BK209.out 4).trans rfl, (blk_cell BK209.out 5).trans rfl, (blk_cell BK209.out 6).trans rfl⟩ (fun hHeld => ?_); clear hK K; refine norm_ (a' := ?_) ?_ ?_; rotate_left
           ·
            show Act.put _ (some 113) _ = _
            simp only [Act.put, zU, zV, zW, i64_w, i32_w]; rfl
           refine pure_ (i := 29) (N := some 114) (v := ?_) (a' := ?_) #[true, true, true, true, true, true, true, true, true, true, true, true, true, true, true, true, true, true, true, true, true, true, true, true, true, true, true, true, true, true, false] rfl rfl (any_of HT_.out (by kernel_rfl)) (fun _ _ _ h => h) (Or.inl ⟨by rfl, ?_⟩) ?_ ?_; rotate_left
           ·
            intro w'; go_simp
            with_reducible rfl
           rotate_left
           ·
            simp only [Act.put, zU, zV, zW, i64_w, i32_w]; rfl
           refine pure_ (i := 30) (N := some 2) (v := ?_) (a' := ?_) #[true, true, true, true, true, true, true, true, true, true, true, true, true, true, true, true, true, true, true, true, true, true, true, true, true, true, true, true, true, true, true] rfl rfl (any_of HT_.out (by kernel_rfl)) (fun _ _ _ h => h) (Or.inl ⟨by rfl, ?_⟩) ?_ ?_; rotate_left
           ·
            intro w'; go_simp
            with_reducible rfl
           rotate_left
           ·
            simp only [Act.put, zU, zV, zW, i64_w, i32_w]; rfl
           refine done_ (done_of HT_.out (by kernel_rfl)) ?_; try go_wp2
           go_ret
           exact ⟨by first | rfl | (simp [errW_none, errW_some] <;> rfl) | (simp [*, errW_none, errW_some] <;> rfl), by repeat (first | (with_reducible first | exact HB.out | apply zG|apply zH|apply zI | refine below_set ?_ GE209.out) | exact HB.out)⟩
          ·
           rw [if_neg c54] at H; have c54b0 : (t204.toList == ([] : List UInt8)) = false := beq_eq_false_iff_ne.mpr c54; have c54b1 : (t204.toList != ([] : List UInt8)) = true := bne_iff_ne.mpr c54
           exact absurd H (by simp)
         ·
          rw [if_neg c53] at H; have c53b0 : ((t221.length : Int) == (t201.length : Int)) = false := beq_eq_false_iff_ne.mpr c53; have c53b1 : ((t221.length : Int) != (t201.length : Int)) = true := bne_iff_ne.mpr c53; have c53b2 : (t221.length == t201.length) = false := by first | simpa using c53 | (simp at c53 ⊢; omega)
          exact absurd H (by simp)
        ·
         rw [if_neg c51] at H; have c51b0 : ((bt t200 0) == 47) = false := beq_eq_false_iff_ne.mpr c51; have c51b1 : ((bt t200 0) != 47) = true := bne_iff_ne.mpr c51
         exact absurd H (by simp)
       ·
        rw [if_neg c49] at H
        exact absurd H (by simp)
 ·
  rw [if_neg c3] at H
  have c3b0 : (t208 == 0) = false := beq_eq_false_iff_ne.mpr c3
  have c3b1 : (t208 != 0) = true := bne_iff_ne.mpr c3
  by_cases c61 : t208 = 140
  ·
   rw [if_pos c61] at H; have c61b0 : (t208 == 140) = true := beq_iff_eq.mpr c61; have c61b1 : (t208 != 140) = false := bne_eq_false_iff_eq.mpr c61; clear c61; by_cases c62 : t197.toList = ([] : List UInt8)
   ·
    rw [if_pos c62] at H; have c62b0 : (t197.toList == ([] : List UInt8)) = true := beq_iff_eq.mpr c62; have c62b1 : (t197.toList != ([] : List UInt8)) = false := bne_eq_false_iff_eq.mpr c62; clear c62; by_cases c63 : (t201.length : Int) = 0
    ·
     rw [if_pos c63] at H; have c63b0 : ((t201.length : Int) == 0) = true := beq_iff_eq.mpr c63; have c63b1 : ((t201.length : Int) != 0) = false := bne_eq_false_iff_eq.mpr c63; clear c63; replace H := Option.bind_eq_some_iff.mp H; obtain ⟨t210, A640, H⟩ := H; replace H : (some t210) = some r := H; have A64 := zM A640; clear A640; obtain rfl := Option.some.inj H; go_enter Tryd.func3, Tryd.ntmps3
     go_wp2_with (first | ((with_reducible refine gate_callee (f := 6) rfl ?_); refine goesL_ (some 10) rfl rfl Tryd.func6 (by kernel_rfl) rfl #[.slice A0 l0.length c0] rfl (by (try simp only [List.map_toArray, List.map_cons, List.map_nil]); first | done | rfl | (simp only [List.length_drop, List.length_take]; rfl)) ?_; (with_reducible refine (msg_Two.calls k _ _ l0 t197 t198 t199 t200 t201 t204 t205 t208 _ ?side1 ?side2 ?side3 A2.out).mono ?_); (case side1 => exact GI.below HG.out (by repeat (first | (with_reducible first | exact HB.out | apply zG|apply zH|apply zI) | exact HB.out))); (case side2 => repeat (first | exact HR0.out | (with_reducible refine Kd.C_alloc ?_ _) | (with_reducible refine Kd.C_drewN ?_ _) | (with_reducible refine Kd.C_drew ?_))); (case side3 => exact HC0.out); rintro e w65 ⟨v202, v206, rfl, ho0, ho1, hb⟩; refine ⟨_, rfl, ?_⟩; have n0_ := zM (Kd.R_lower ho0 (below_size (by repeat (first | (with_reducible first | exact HB.out | apply zG|apply zH|apply zI) | exact HB.out)))); have n1_ := zM (Kd.R_lower ho1 (below_size (by repeat (first | (with_reducible first | exact HB.out | apply zG|apply zH|apply zI) | exact HB.out)))); have n2_ := zM (zS (by repeat (first | (with_reducible first | exact HB.out | apply zG|apply zH|apply zI) | exact HB.out)) hb); clear HB; have HO203 := n0_; have HO207 := n1_; have HB := n2_; clear n0_ n1_ n2_; (try clear hb); (try clear hb2); (try clear hk); (try clear hi); (try clear ho0); (try clear ho1)) | ((with_reducible refine gate_dst (N := 3) rfl ?_); (try (refine gate_guard (by rfl) ?_; dsimp only)); refine box_event ?hg (N := 3) ?hd (cs := #[.string ⟨#[]⟩, .string ⟨#[]⟩, .string ⟨#[]⟩, .string ⟨#[]⟩, .slice none 0 0, .string ⟨#[]⟩, .slice none 0 0]) (t := 24) ?hr ?_; (case hd => rfl); (case hg => rfl); (case hr => first | (go_simp; done) | (go_simp; rfl)); intro gb209 hg w66 hbox hb; have n0_ := zM (Kd.R_below (by (with_reducible repeat (first|apply zD|apply zE|apply zF)); exact HO203.out) hb); have n1_ := zM (Kd.R_below (by (with_reducible repeat (first|apply zD|apply zE|apply zF)); exact HO207.out) hb); have n2_ := zM (zS (by repeat (first | (with_reducible first | exact HB.out | apply zG|apply zH|apply zI) | exact HB.out)) hb); have n3_ := zM (hbox); have n4_ := zM ((by rw [hg]; exact (below_size (by repeat (first | (with_reducible first | exact HB.out | apply zG|apply zH|apply zI) | exact HB.out))) : w.heap.size ≤ gb209)); have n5_ := zM ((by rw [hg]; exact (below_size (by repeat (first | (with_reducible first | exact HB.out | apply zG|apply zH|apply zI) | exact HB.out))) : w.heap.size ≤ gb209)); clear HO203; clear HO207; clear HB; have HO203 := n0_; have HO207 := n1_; have HB := n2_; have BK209 := n3_; have GW209 := n4_; have GE209 := n5_; clear n0_ n1_ n2_ n3_ n4_ n5_; clear hb hbox hg; have hcz67_0 : w66.cell? ⟨gb209, 0, none⟩ = some (.string ⟨#[]⟩) := (blk_cell BK209.out 0).trans rfl; have hcz67_1 : w66.cell? ⟨gb209, 1, none⟩ = some (.string ⟨#[]⟩) := (blk_cell BK209.out 1).trans rfl; have hcz67_2 : w66.cell? ⟨gb209, 2, none⟩ = some (.string ⟨#[]⟩) := (blk_cell BK209.out 2).trans rfl; have hcz67_3 : w66.cell? ⟨gb209, 3, none⟩ = some (.string ⟨#[]⟩) := (blk_cell BK209.out 3).trans rfl; have hcz67_4 : w66.cell? ⟨gb209, 4, none⟩ = some (.slice none 0 0) := (blk_cell BK209.out 4).trans rfl; have hcz67_5 : w66.cell? ⟨gb209, 5, none⟩ = some (.string ⟨#[]⟩) := (blk_cell BK209.out 5).trans rfl; have hcz67_6 : w66.cell? ⟨gb209, 6, none⟩ = some (.slice none 0 0) := (blk_cell BK209.out 6).trans rfl; have hfz67_0 := blk_frozen BK209.out 0; have hfz67_1 := blk_frozen BK209.out 1; have hfz67_2 := blk_frozen BK209.out 2; have hfz67_3 := blk_frozen BK209.out 3; have hfz67_4 := blk_frozen BK209.out 4; have hfz67_5 := blk_frozen BK209.out 5; have hfz67_6 := blk_frozen BK209.out 6; obtain ⟨Ao68, co68, eo68⟩ := Kd.R_slice HO203.out; subst eo68; obtain ⟨Ao69, co69, eo69⟩ := Kd.R_slice HO207.out; subst eo69) | (go_at_call 7; (with_reducible refine (ostlerlaw14_awake.calls k  t210 _ ?side1 A64.out).mono ?_); (case side1 => exact GI.below HG.out (by repeat (first | (with_reducible first | exact HB.out | apply zG|apply zH|apply zI | refine below_set ?_ GE209.out) | exact HB.out))); rintro e w70 ⟨rfl, hb⟩; have n0_ := zM (Kd.R_below (by (with_reducible repeat (first|apply zD|apply zE|apply zF)); exact (Kd.R_mono (Kd.R_far (p := ⟨gb209, 6, none⟩) (Kd.R_far (p := ⟨gb209, 5, none⟩) (Kd.R_far (p := ⟨gb209, 4, none⟩) (Kd.R_far (p := ⟨gb209, 3, none⟩) (Kd.R_far (p := ⟨gb209, 2, none⟩) (Kd.R_far (p := ⟨gb209, 1, none⟩) (Kd.R_far (p := ⟨gb209, 0, none⟩) (Kd.R_types HO203.out BK209.out (by decide)) (fun _ hk => hk.2) (.string t197)) (fun _ hk => hk.2) (.string t198)) (fun _ hk => hk.2) (.string t199)) (fun _ hk => hk.2) (.string t200)) (fun _ hk => hk.2) (.slice Ao68 t201.length co68)) (fun _ hk => hk.2) (.string t204)) (fun _ hk => hk.2) (.slice Ao69 t205.length co69)) (fun _ h_ => h_.1))) hb); have n1_ := zM (Kd.R_below (by (with_reducible repeat (first|apply zD|apply zE|apply zF)); exact (Kd.R_mono (Kd.R_far (p := ⟨gb209, 6, none⟩) (Kd.R_far (p := ⟨gb209, 5, none⟩) (Kd.R_far (p := ⟨gb209, 4, none⟩) (Kd.R_far (p := ⟨gb209, 3, none⟩) (Kd.R_far (p := ⟨gb209, 2, none⟩) (Kd.R_far (p := ⟨gb209, 1, none⟩) (Kd.R_far (p := ⟨gb209, 0, none⟩) (Kd.R_types HO207.out BK209.out (by decide)) (fun _ hk => hk.2) (.string t197)) (fun _ hk => hk.2) (.string t198)) (fun _ hk => hk.2) (.string t199)) (fun _ hk => hk.2) (.string t200)) (fun _ hk => hk.2) (.slice Ao68 t201.length co68)) (fun _ hk => hk.2) (.string t204)) (fun _ hk => hk.2) (.slice Ao69 t205.length co69)) (fun _ h_ => h_.1))) hb); have n2_ := zM (blk_below (g := gb209) (o := .cells #[.string t197, .string t198, .string t199, .string t200, .slice Ao68 t201.length co68, .string t204, .slice Ao69 t205.length co69] 24 (0, 0)) (by (with_reducible repeat (first|apply zA|apply zB|apply zC)); refine blk_put (cs := #[.string t197, .string t198, .string t199, .string t200, .slice Ao68 t201.length co68, .string t204, .slice none 0 0]) ?_ 6 _ rfl; (with_reducible repeat (first|apply zA|apply zB|apply zC)); refine blk_put (cs := #[.string t197, .string t198, .string t199, .string t200, .slice Ao68 t201.length co68, .string ⟨#[]⟩, .slice none 0 0]) ?_ 5 _ rfl; (with_reducible repeat (first|apply zA|apply zB|apply zC)); refine blk_put (cs := #[.string t197, .string t198, .string t199, .string t200, .slice none 0 0, .string ⟨#[]⟩, .slice none 0 0]) ?_ 4 _ rfl; (with_reducible repeat (first|apply zA|apply zB|apply zC)); refine blk_put (cs := #[.string t197, .string t198, .string t199, .string ⟨#[]⟩, .slice none 0 0, .string ⟨#[]⟩, .slice none 0 0]) ?_ 3 _ rfl; (with_reducible repeat (first|apply zA|apply zB|apply zC)); refine blk_put (cs := #[.string t197, .string t198, .string ⟨#[]⟩, .string ⟨#[]⟩, .slice none 0 0, .string ⟨#[]⟩, .slice none 0 0]) ?_ 2 _ rfl; (with_reducible repeat (first|apply zA|apply zB|apply zC)); refine blk_put (cs := #[.string t197, .string ⟨#[]⟩, .string ⟨#[]⟩, .string ⟨#[]⟩, .slice none 0 0, .string ⟨#[]⟩, .slice none 0 0]) ?_ 1 _ rfl; (with_reducible repeat (first|apply zA|apply zB|apply zC)); refine blk_put (cs := #[.string ⟨#[]⟩, .string ⟨#[]⟩, .string ⟨#[]⟩, .string ⟨#[]⟩, .slice none 0 0, .string ⟨#[]⟩, .slice none 0 0]) ?_ 0 _ rfl; (with_reducible repeat (first|apply zA|apply zB|apply zC)); exact BK209.out) hb); have n3_ := zM (zS (by repeat (first | (with_reducible first | exact HB.out | apply zG|apply zH|apply zI | refine below_set ?_ GE209.out) | exact HB.out)) hb); clear HO203; clear HO207; clear BK209; clear HB; have HO203 := n0_; have HO207 := n1_; have BK209 := n2_; have HB := n3_; clear n0_ n1_ n2_ n3_; (try clear hb); (try clear hb2); (try clear hk); (try clear hi)))
     go_ret
     exact ⟨by first | rfl | (simp [errW_none, errW_some] <;> rfl) | (simp [*, errW_none, errW_some] <;> rfl), by repeat (first | (with_reducible first | exact HB.out | apply zG|apply zH|apply zI | refine below_set ?_ GE209.out) | exact HB.out)⟩
    ·
     rw [if_neg c63] at H
     exact absurd H (by simp)
   ·
    rw [if_neg c62] at H
    exact absurd H (by simp)
  ·
   rw [if_neg c61] at H; have c61b0 : (t208 == 140) = false := beq_eq_false_iff_ne.mpr c61; have c61b1 : (t208 != 140) = true := bne_iff_ne.mpr c61; by_cases c71 : t208 = 141
   ·
    rw [if_pos c71] at H; have c71b0 : (t208 == 141) = true := beq_iff_eq.mpr c71; have c71b1 : (t208 != 141) = false := bne_eq_false_iff_eq.mpr c71; clear c71; by_cases c72 : t197.toList = ([] : List UInt8)
    ·
     rw [if_pos c72] at H; have c72b0 : (t197.toList == ([] : List UInt8)) = true := beq_iff_eq.mpr c72; have c72b1 : (t197.toList != ([] : List UInt8)) = false := bne_eq_false_iff_eq.mpr c72; clear c72; by_cases c73 : (t201.length : Int) = 0
     ·
      rw [if_pos c73] at H; have c73b0 : ((t201.length : Int) == 0) = true := beq_iff_eq.mpr c73; have c73b1 : ((t201.length : Int) != 0) = false := bne_eq_false_iff_eq.mpr c73; clear c73; replace H := Option.bind_eq_some_iff.mp H; obtain ⟨t211, A740, H⟩ := H; replace H : (some t211) = some r := H; have A74 := zM A740; clear A740; obtain rfl := Option.some.inj H; go_enter Tryd.func3, Tryd.ntmps3
      go_wp2_with (first | ((with_reducible refine gate_callee (f := 6) rfl ?_); refine goesL_ (some 10) rfl rfl Tryd.func6 (by kernel_rfl) rfl #[.slice A0 l0.length c0] rfl (by (try simp only [List.map_toArray, List.map_cons, List.map_nil]); first | done | rfl | (simp only [List.length_drop, List.length_take]; rfl)) ?_; (with_reducible refine (msg_Two.calls k _ _ l0 t197 t198 t199 t200 t201 t204 t205 t208 _ ?side1 ?side2 ?side3 A2.out).mono ?_); (case side1 => exact GI.below HG.out (by repeat (first | (with_reducible first | exact HB.out | apply zG|apply zH|apply zI) | exact HB.out))); (case side2 => repeat (first | exact HR0.out | (with_reducible refine Kd.C_alloc ?_ _) | (with_reducible refine Kd.C_drewN ?_ _) | (with_reducible refine Kd.C_drew ?_))); (case side3 => exact HC0.out); rintro e w75 ⟨v202, v206, rfl, ho0, ho1, hb⟩; refine ⟨_, rfl, ?_⟩; have n0_ := zM (Kd.R_lower ho0 (below_size (by repeat (first | (with_reducible first | exact HB.out | apply zG|apply zH|apply zI) | exact HB.out)))); have n1_ := zM (Kd.R_lower ho1 (below_size (by repeat (first | (with_reducible first | exact HB.out | apply zG|apply zH|apply zI) | exact HB.out)))); have n2_ := zM (zS (by repeat (first | (with_reducible first | exact HB.out | apply zG|apply zH|apply zI) | exact HB.out)) hb); clear HB; have HO203 := n0_; have HO207 := n1_; have HB := n2_; clear n0_ n1_ n2_; (try clear hb); (try clear hb2); (try clear hk); (try clear hi); (try clear ho0); (try clear ho1)) | ((with_reducible refine gate_dst (N := 3) rfl ?_); (try (refine gate_guard (by rfl) ?_; dsimp only)); refine box_event ?hg (N := 3) ?hd (cs := #[.string ⟨#[]⟩, .string ⟨#[]⟩, .string ⟨#[]⟩, .string ⟨#[]⟩, .slice none 0 0, .string ⟨#[]⟩, .slice none 0 0]) (t := 24) ?hr ?_; (case hd => rfl); (case hg => rfl); (case hr => first | (go_simp; done) | (go_simp; rfl)); intro gb209 hg w76 hbox hb; have n0_ := zM (Kd.R_below (by (with_reducible repeat (first|apply zD|apply zE|apply zF)); exact HO203.out) hb); have n1_ := zM (Kd.R_below (by (with_reducible repeat (first|apply zD|apply zE|apply zF)); exact HO207.out) hb); have n2_ := zM (zS (by repeat (first | (with_reducible first | exact HB.out | apply zG|apply zH|apply zI) | exact HB.out)) hb); have n3_ := zM (hbox); have n4_ := zM ((by rw [hg]; exact (below_size (by repeat (first | (with_reducible first | exact HB.out | apply zG|apply zH|apply zI) | exact HB.out))) : w.heap.size ≤ gb209)); have n5_ := zM ((by rw [hg]; exact (below_size (by repeat (first | (with_reducible first | exact HB.out | apply zG|apply zH|apply zI) | exact HB.out))) : w.heap.size ≤ gb209)); clear HO203; clear HO207; clear HB; have HO203 := n0_; have HO207 := n1_; have HB := n2_; have BK209 := n3_; have GW209 := n4_; have GE209 := n5_; clear n0_ n1_ n2_ n3_ n4_ n5_; clear hb hbox hg; have hcz77_0 : w76.cell? ⟨gb209, 0, none⟩ = some (.string ⟨#[]⟩) := (blk_cell BK209.out 0).trans rfl; have hcz77_1 : w76.cell? ⟨gb209, 1, none⟩ = some (.string ⟨#[]⟩) := (blk_cell BK209.out 1).trans rfl; have hcz77_2 : w76.cell? ⟨gb209, 2, none⟩ = some (.string ⟨#[]⟩) := (blk_cell BK209.out 2).trans rfl; have hcz77_3 : w76.cell? ⟨gb209, 3, none⟩ = some (.string ⟨#[]⟩) := (blk_cell BK209.out 3).trans rfl; have hcz77_4 : w76.cell? ⟨gb209, 4, none⟩ = some (.slice none 0 0) := (blk_cell BK209.out 4).trans rfl; have hcz77_5 : w76.cell? ⟨gb209, 5, none⟩ = some (.string ⟨#[]⟩) := (blk_cell BK209.out 5).trans rfl; have hcz77_6 : w76.cell? ⟨gb209, 6, none⟩ = some (.slice none 0 0) := (blk_cell BK209.out 6).trans rfl; have hfz77_0 := blk_frozen BK209.out 0; have hfz77_1 := blk_frozen BK209.out 1; have hfz77_2 := blk_frozen BK209.out 2; have hfz77_3 := blk_frozen BK209.out 3; have hfz77_4 := blk_frozen BK209.out 4; have hfz77_5 := blk_frozen BK209.out 5; have hfz77_6 := blk_frozen BK209.out 6; obtain ⟨Ao78, co78, eo78⟩ := Kd.R_slice HO203.out; subst eo78; obtain ⟨Ao79, co79, eo79⟩ := Kd.R_slice HO207.out; subst eo79) | (go_at_call 7; (with_reducible refine (ostlerlaw14_awake.calls k  t211 _ ?side1 A74.out).mono ?_); (case side1 => exact GI.below HG.out (by repeat (first | (with_reducible first | exact HB.out | apply zG|apply zH|apply zI | refine below_set ?_ GE209.out) | exact HB.out))); rintro e w80 ⟨rfl, hb⟩; have n0_ := zM (Kd.R_below (by (with_reducible repeat (first|apply zD|apply zE|apply zF)); exact (Kd.R_mono (Kd.R_far (p := ⟨gb209, 6, none⟩) (Kd.R_far (p := ⟨gb209, 5, none⟩) (Kd.R_far (p := ⟨gb209, 4, none⟩) (Kd.R_far (p := ⟨gb209, 3, none⟩) (Kd.R_far (p := ⟨gb209, 2, none⟩) (Kd.R_far (p := ⟨gb209, 1, none⟩) (Kd.R_far (p := ⟨gb209, 0, none⟩) (Kd.R_types HO203.out BK209.out (by decide)) (fun _ hk => hk.2) (.string t197)) (fun _ hk => hk.2) (.string t198)) (fun _ hk => hk.2) (.string t199)) (fun _ hk => hk.2) (.string t200)) (fun _ hk => hk.2) (.slice Ao78 t201.length co78)) (fun _ hk => hk.2) (.string t204)) (fun _ hk => hk.2) (.slice Ao79 t205.length co79)) (fun _ h_ => h_.1))) hb); have n1_ := zM (Kd.R_below (by (with_reducible repeat (first|apply zD|apply zE|apply zF)); exact (Kd.R_mono (Kd.R_far (p := ⟨gb209, 6, none⟩) (Kd.R_far (p := ⟨gb209, 5, none⟩) (Kd.R_far (p := ⟨gb209, 4, none⟩) (Kd.R_far (p := ⟨gb209, 3, none⟩) (Kd.R_far (p := ⟨gb209, 2, none⟩) (Kd.R_far (p := ⟨gb209, 1, none⟩) (Kd.R_far (p := ⟨gb209, 0, none⟩) (Kd.R_types HO207.out BK209.out (by decide)) (fun _ hk => hk.2) (.string t197)) (fun _ hk => hk.2) (.string t198)) (fun _ hk => hk.2) (.string t199)) (fun _ hk => hk.2) (.string t200)) (fun _ hk => hk.2) (.slice Ao78 t201.length co78)) (fun _ hk => hk.2) (.string t204)) (fun _ hk => hk.2) (.slice Ao79 t205.length co79)) (fun _ h_ => h_.1))) hb); have n2_ := zM (blk_below (g := gb209) (o := .cells #[.string t197, .string t198, .string t199, .string t200, .slice Ao78 t201.length co78, .string t204, .slice Ao79 t205.length co79] 24 (0, 0)) (by (with_reducible repeat (first|apply zA|apply zB|apply zC)); refine blk_put (cs := #[.string t197, .string t198, .string t199, .string t200, .slice Ao78 t201.length co78, .string t204, .slice none 0 0]) ?_ 6 _ rfl; (with_reducible repeat (first|apply zA|apply zB|apply zC)); refine blk_put (cs := #[.string t197, .string t198, .string t199, .string t200, .slice Ao78 t201.length co78, .string ⟨#[]⟩, .slice none 0 0]) ?_ 5 _ rfl; (with_reducible repeat (first|apply zA|apply zB|apply zC)); refine blk_put (cs := #[.string t197, .string t198, .string t199, .string t200, .slice none 0 0, .string ⟨#[]⟩, .slice none 0 0]) ?_ 4 _ rfl; (with_reducible repeat (first|apply zA|apply zB|apply zC)); refine blk_put (cs := #[.string t197, .string t198, .string t199, .string ⟨#[]⟩, .slice none 0 0, .string ⟨#[]⟩, .slice none 0 0]) ?_ 3 _ rfl; (with_reducible repeat (first|apply zA|apply zB|apply zC)); refine blk_put (cs := #[.string t197, .string t198, .string ⟨#[]⟩, .string ⟨#[]⟩, .slice none 0 0, .string ⟨#[]⟩, .slice none 0 0]) ?_ 2 _ rfl; (with_reducible repeat (first|apply zA|apply zB|apply zC)); refine blk_put (cs := #[.string t197, .string ⟨#[]⟩, .string ⟨#[]⟩, .string ⟨#[]⟩, .slice none 0 0, .string ⟨#[]⟩, .slice none 0 0]) ?_ 1 _ rfl; (with_reducible repeat (first|apply zA|apply zB|apply zC)); refine blk_put (cs := #[.string ⟨#[]⟩, .string ⟨#[]⟩, .string ⟨#[]⟩, .string ⟨#[]⟩, .slice none 0 0, .string ⟨#[]⟩, .slice none 0 0]) ?_ 0 _ rfl; (with_reducible repeat (first|apply zA|apply zB|apply zC)); exact BK209.out) hb); have n3_ := zM (zS (by repeat (first | (with_reducible first | exact HB.out | apply zG|apply zH|apply zI | refine below_set ?_ GE209.out) | exact HB.out)) hb); clear HO203; clear HO207; clear BK209; clear HB; have HO203 := n0_; have HO207 := n1_; have BK209 := n2_; have HB := n3_; clear n0_ n1_ n2_ n3_; (try clear hb); (try clear hb2); (try clear hk); (try clear hi)))
      go_ret
      exact ⟨by first | rfl | (simp [errW_none, errW_some] <;> rfl) | (simp [*, errW_none, errW_some] <;> rfl), by repeat (first | (with_reducible first | exact HB.out | apply zG|apply zH|apply zI | refine below_set ?_ GE209.out) | exact HB.out)⟩
     ·
      rw [if_neg c73] at H
      exact absurd H (by simp)
    ·
     rw [if_neg c72] at H
     exact absurd H (by simp)
   ·
    rw [if_neg c71] at H; have c71b0 : (t208 == 141) = false := beq_eq_false_iff_ne.mpr c71; have c71b1 : (t208 != 141) = true := bne_iff_ne.mpr c71; by_cases c81 : t208 = 142
    ·
     rw [if_pos c81] at H; have c81b0 : (t208 == 142) = true := beq_iff_eq.mpr c81; have c81b1 : (t208 != 142) = false := bne_eq_false_iff_eq.mpr c81; clear c81; by_cases c82 : t197.toList = ([] : List UInt8)
     ·
      rw [if_pos c82] at H; have c82b0 : (t197.toList == ([] : List UInt8)) = true := beq_iff_eq.mpr c82; have c82b1 : (t197.toList != ([] : List UInt8)) = false := bne_eq_false_iff_eq.mpr c82; clear c82; by_cases c83 : (t201.length : Int) = 0
      ·
       rw [if_pos c83] at H; have c83b0 : ((t201.length : Int) == 0) = true := beq_iff_eq.mpr c83; have c83b1 : ((t201.length : Int) != 0) = false := bne_eq_false_iff_eq.mpr c83; clear c83; replace H := Option.bind_eq_some_iff.mp H; obtain ⟨t212, A840, H⟩ := H; replace H : (some t212) = some r := H; have A84 := zM A840; clear A840; obtain rfl := Option.some.inj H; go_enter Tryd.func3, Tryd.ntmps3
       go_wp2_with (first | ((with_reducible refine gate_callee (f := 6) rfl ?_); refine goesL_ (some 10) rfl rfl Tryd.func6 (by kernel_rfl) rfl #[.slice A0 l0.length c0] rfl (by (try simp only [List.map_toArray, List.map_cons, List.map_nil]); first | done | rfl | (simp only [List.length_drop, List.length_take]; rfl)) ?_; (with_reducible refine (msg_Two.calls k _ _ l0 t197 t198 t199 t200 t201 t204 t205 t208 _ ?side1 ?side2 ?side3 A2.out).mono ?_); (case side1 => exact GI.below HG.out (by repeat (first | (with_reducible first | exact HB.out | apply zG|apply zH|apply zI) | exact HB.out))); (case side2 => repeat (first | exact HR0.out | (with_reducible refine Kd.C_alloc ?_ _) | (with_reducible refine Kd.C_drewN ?_ _) | (with_reducible refine Kd.C_drew ?_))); (case side3 => exact HC0.out); rintro e w85 ⟨v202, v206, rfl, ho0, ho1, hb⟩; refine ⟨_, rfl, ?_⟩; have n0_ := zM (Kd.R_lower ho0 (below_size (by repeat (first | (with_reducible first | exact HB.out | apply zG|apply zH|apply zI) | exact HB.out)))); have n1_ := zM (Kd.R_lower ho1 (below_size (by repeat (first | (with_reducible first | exact HB.out | apply zG|apply zH|apply zI) | exact HB.out)))); have n2_ := zM (zS (by repeat (first | (with_reducible first | exact HB.out | apply zG|apply zH|apply zI) | exact HB.out)) hb); clear HB; have HO203 := n0_; have HO207 := n1_; have HB := n2_; clear n0_ n1_ n2_; (try clear hb); (try clear hb2); (try clear hk); (try clear hi); (try clear ho0); (try clear ho1)) | ((with_reducible refine gate_dst (N := 3) rfl ?_); (try (refine gate_guard (by rfl) ?_; dsimp only)); refine box_event ?hg (N := 3) ?hd (cs := #[.string ⟨#[]⟩, .string ⟨#[]⟩, .string ⟨#[]⟩, .string ⟨#[]⟩, .slice none 0 0, .string ⟨#[]⟩, .slice none 0 0]) (t := 24) ?hr ?_; (case hd => rfl); (case hg => rfl); (case hr => first | (go_simp; done) | (go_simp; rfl)); intro gb209 hg w86 hbox hb; have n0_ := zM (Kd.R_below (by (with_reducible repeat (first|apply zD|apply zE|apply zF)); exact HO203.out) hb); have n1_ := zM (Kd.R_below (by (with_reducible repeat (first|apply zD|apply zE|apply zF)); exact HO207.out) hb); have n2_ := zM (zS (by repeat (first | (with_reducible first | exact HB.out | apply zG|apply zH|apply zI) | exact HB.out)) hb); have n3_ := zM (hbox); have n4_ := zM ((by rw [hg]; exact (below_size (by repeat (first | (with_reducible first | exact HB.out | apply zG|apply zH|apply zI) | exact HB.out))) : w.heap.size ≤ gb209)); have n5_ := zM ((by rw [hg]; exact (below_size (by repeat (first | (with_reducible first | exact HB.out | apply zG|apply zH|apply zI) | exact HB.out))) : w.heap.size ≤ gb209)); clear HO203; clear HO207; clear HB; have HO203 := n0_; have HO207 := n1_; have HB := n2_; have BK209 := n3_; have GW209 := n4_; have GE209 := n5_; clear n0_ n1_ n2_ n3_ n4_ n5_; clear hb hbox hg; have hcz87_0 : w86.cell? ⟨gb209, 0, none⟩ = some (.string ⟨#[]⟩) := (blk_cell BK209.out 0).trans rfl; have hcz87_1 : w86.cell? ⟨gb209, 1, none⟩ = some (.string ⟨#[]⟩) := (blk_cell BK209.out 1).trans rfl; have hcz87_2 : w86.cell? ⟨gb209, 2, none⟩ = some (.string ⟨#[]⟩) := (blk_cell BK209.out 2).trans rfl; have hcz87_3 : w86.cell? ⟨gb209, 3, none⟩ = some (.string ⟨#[]⟩) := (blk_cell BK209.out 3).trans rfl; have hcz87_4 : w86.cell? ⟨gb209, 4, none⟩ = some (.slice none 0 0) := (blk_cell BK209.out 4).trans rfl; have hcz87_5 : w86.cell? ⟨gb209, 5, none⟩ = some (.string ⟨#[]⟩) := (blk_cell BK209.out 5).trans rfl; have hcz87_6 : w86.cell? ⟨gb209, 6, none⟩ = some (.slice none 0 0) := (blk_cell BK209.out 6).trans rfl; have hfz87_0 := blk_frozen BK209.out 0; have hfz87_1 := blk_frozen BK209.out 1; have hfz87_2 := blk_frozen BK209.out 2; have hfz87_3 := blk_frozen BK209.out 3; have hfz87_4 := blk_frozen BK209.out 4; have hfz87_5 := blk_frozen BK209.out 5; have hfz87_6 := blk_frozen BK209.out 6; obtain ⟨Ao88, co88, eo88⟩ := Kd.R_slice HO203.out; subst eo88; obtain ⟨Ao89, co89, eo89⟩ := Kd.R_slice HO207.out; subst eo89) | (go_at_call 7; (with_reducible refine (ostlerlaw14_awake.calls k  t212 _ ?side1 A84.out).mono ?_); (case side1 => exact GI.below HG.out (by repeat (first | (with_reducible first | exact HB.out | apply zG|apply zH|apply zI | refine below_set ?_ GE209.out) | exact HB.out))); rintro e w90 ⟨rfl, hb⟩; have n0_ := zM (Kd.R_below (by (with_reducible repeat (first|apply zD|apply zE|apply zF)); exact (Kd.R_mono (Kd.R_far (p := ⟨gb209, 6, none⟩) (Kd.R_far (p := ⟨gb209, 5, none⟩) (Kd.R_far (p := ⟨gb209, 4, none⟩) (Kd.R_far (p := ⟨gb209, 3, none⟩) (Kd.R_far (p := ⟨gb209, 2, none⟩) (Kd.R_far (p := ⟨gb209, 1, none⟩) (Kd.R_far (p := ⟨gb209, 0, none⟩) (Kd.R_types HO203.out BK209.out (by decide)) (fun _ hk => hk.2) (.string t197)) (fun _ hk => hk.2) (.string t198)) (fun _ hk => hk.2) (.string t199)) (fun _ hk => hk.2) (.string t200)) (fun _ hk => hk.2) (.slice Ao88 t201.length co88)) (fun _ hk => hk.2) (.string t204)) (fun _ hk => hk.2) (.slice Ao89 t205.length co89)) (fun _ h_ => h_.1))) hb); have n1_ := zM (Kd.R_below (by (with_reducible repeat (first|apply zD|apply zE|apply zF)); exact (Kd.R_mono (Kd.R_far (p := ⟨gb209, 6, none⟩) (Kd.R_far (p := ⟨gb209, 5, none⟩) (Kd.R_far (p := ⟨gb209, 4, none⟩) (Kd.R_far (p := ⟨gb209, 3, none⟩) (Kd.R_far (p := ⟨gb209, 2, none⟩) (Kd.R_far (p := ⟨gb209, 1, none⟩) (Kd.R_far (p := ⟨gb209, 0, none⟩) (Kd.R_types HO207.out BK209.out (by decide)) (fun _ hk => hk.2) (.string t197)) (fun _ hk => hk.2) (.string t198)) (fun _ hk => hk.2) (.string t199)) (fun _ hk => hk.2) (.string t200)) (fun _ hk => hk.2) (.slice Ao88 t201.length co88)) (fun _ hk => hk.2) (.string t204)) (fun _ hk => hk.2) (.slice Ao89 t205.length co89)) (fun _ h_ => h_.1))) hb); have n2_ := zM (blk_below (g := gb209) (o := .cells #[.string t197, .string t198, .string t199, .string t200, .slice Ao88 t201.length co88, .string t204, .slice Ao89 t205.length co89] 24 (0, 0)) (by (with_reducible repeat (first|apply zA|apply zB|apply zC)); refine blk_put (cs := #[.string t197, .string t198, .string t199, .string t200, .slice Ao88 t201.length co88, .string t204, .slice none 0 0]) ?_ 6 _ rfl; (with_reducible repeat (first|apply zA|apply zB|apply zC)); refine blk_put (cs := #[.string t197, .string t198, .string t199, .string t200, .slice Ao88 t201.length co88, .string ⟨#[]⟩, .slice none 0 0]) ?_ 5 _ rfl; (with_reducible repeat (first|apply zA|apply zB|apply zC)); refine blk_put (cs := #[.string t197, .string t198, .string t199, .string t200, .slice none 0 0, .string ⟨#[]⟩, .slice none 0 0]) ?_ 4 _ rfl; (with_reducible repeat (first|apply zA|apply zB|apply zC)); refine blk_put (cs := #[.string t197, .string t198, .string t199, .string ⟨#[]⟩, .slice none 0 0, .string ⟨#[]⟩, .slice none 0 0]) ?_ 3 _ rfl; (with_reducible repeat (first|apply zA|apply zB|apply zC)); refine blk_put (cs := #[.string t197, .string t198, .string ⟨#[]⟩, .string ⟨#[]⟩, .slice none 0 0, .string ⟨#[]⟩, .slice none 0 0]) ?_ 2 _ rfl; (with_reducible repeat (first|apply zA|apply zB|apply zC)); refine blk_put (cs := #[.string t197, .string ⟨#[]⟩, .string ⟨#[]⟩, .string ⟨#[]⟩, .slice none 0 0, .string ⟨#[]⟩, .slice none 0 0]) ?_ 1 _ rfl; (with_reducible repeat (first|apply zA|apply zB|apply zC)); refine blk_put (cs := #[.string ⟨#[]⟩, .string ⟨#[]⟩, .string ⟨#[]⟩, .string ⟨#[]⟩, .slice none 0 0, .string ⟨#[]⟩, .slice none 0 0]) ?_ 0 _ rfl; (with_reducible repeat (first|apply zA|apply zB|apply zC)); exact BK209.out) hb); have n3_ := zM (zS (by repeat (first | (with_reducible first | exact HB.out | apply zG|apply zH|apply zI | refine below_set ?_ GE209.out) | exact HB.out)) hb); clear HO203; clear HO207; clear BK209; clear HB; have HO203 := n0_; have HO207 := n1_; have BK209 := n2_; have HB := n3_; clear n0_ n1_ n2_ n3_; (try clear hb); (try clear hb2); (try clear hk); (try clear hi)))
       go_ret
       exact ⟨by first | rfl | (simp [errW_none, errW_some] <;> rfl) | (simp [*, errW_none, errW_some] <;> rfl), by repeat (first | (with_reducible first | exact HB.out | apply zG|apply zH|apply zI | refine below_set ?_ GE209.out) | exact HB.out)⟩
      ·
       rw [if_neg c83] at H
       exact absurd H (by simp)
     ·
      rw [if_neg c82] at H
      exact absurd H (by simp)
    ·
     rw [if_neg c81] at H
     exact absurd H (by simp)

end Go.Proofs.YtgeekchnolahhaaDoor.PP
