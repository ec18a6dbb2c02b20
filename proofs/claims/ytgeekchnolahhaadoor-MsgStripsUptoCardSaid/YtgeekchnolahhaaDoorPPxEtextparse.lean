-- Written by a program of this session (a changed copy of the kit's print) out of the translation. Not trusted: Lean checks it.
import Derived.Test.YtgeekchnolahhaaDoorPPx0
import Derived.Test.YtgeekchnolahhaaDoorPPxEstrconvParseUint
import Derived.Test.YtgeekchnolahhaaDoorShelf
import Derived.BigCall
import Derived.BigGuard
import Derived.Laws.Strings3
import Derived.Laws.Closers25
import Derived.Laws.Closers25b
namespace Go.Proofs.YtgeekchnolahhaaDoor.PP
open Go.RowKit Go.Proofs.YtgeekchnolahhaaDoorW.PrintWords Go.Proofs.YtgeekchnolahhaaDoorW.PrintLast Go.Proofs.YtgeekchnolahhaaDoorW.PrintMore
attribute [local go_sem] max2_int min2_int max_two min_two max_three min_three max_four min_four   -- for this text's walks alone
set_option linter.unusedVariables false
set_option linter.unusedSimpArgs false

/-! ### text_parse: function 37 (an extern) -/
/-! #### plain laws -/
theorem numOf_ge (b : Nat) (hb : 1 ≤ b) : ∀ (l : List UInt8) (acc : Nat), acc ≤ numOf b acc l
  | [], acc => Nat.le_refl _
  | c :: l, acc => by
    have h := numOf_ge b hb l (acc * b + (digOf b c).getD 0); have h2 : acc * 1 ≤ acc * b := Nat.mul_le_mul_left _ hb; show acc ≤ numOf b (acc * b + (digOf b c).getD 0) l
    omega
theorem hexEnd_all : ∀ (l : List UInt8) (acc : Nat), acc ≤ 18446744073709551615 → l.all (fun c => (digOf 16 c).isSome) = true →
    hexEnd 18446744073709551615 acc l = if numOf 16 acc l ≤ 18446744073709551615 then .ok (numOf 16 acc l) else .range
  | [], acc, ha, _ => by simp [hexEnd, numOf, ha]
  | c :: l, acc, ha, hl => by
    rw [List.all_cons, Bool.and_eq_true] at hl; obtain ⟨d, hd⟩ := Option.isSome_iff_exists.mp hl.1; have hd16 := digOf_lt hd; have hn : numOf 16 acc (c :: l) = numOf 16 (acc * 16 + d) l := by simp only [numOf, hd, Option.getD_some]
    have hge := numOf_ge 16 (by omega) l (acc * 16 + d); rw [hn]; simp only [hexEnd, hd]; by_cases hc : 1152921504606846976 ≤ acc
    · rw [if_pos hc, if_neg (by omega)]
    · rw [if_neg hc, if_neg (by omega)]
      exact hexEnd_all l _ (by omega) hl.2
theorem decM_all : ∀ (l : List UInt8) (acc : Nat), acc ≤ 18446744073709551615 → l.all (fun c => (digOf 10 c).isSome) = true →
    Lib.parseUintM 18446744073709551615 acc l = if numOf 10 acc l ≤ 18446744073709551615 then .ok (numOf 10 acc l) else .range
  | [], acc, ha, _ => by simp [Lib.parseUintM, numOf, ha]
  | c :: l, acc, ha, hl => by
    rw [List.all_cons, Bool.and_eq_true] at hl; have hd : 48 ≤ c.toNat ∧ c.toNat ≤ 57 := dig10 hl.1; have hv : digOf 10 c = some (c.toNat - 48) := by unfold digOf; rw [if_pos hd]
    have hn : numOf 10 acc (c :: l) = numOf 10 (acc * 10 + (c.toNat - 48)) l := by simp only [numOf, hv, Option.getD_some]
    have hge := numOf_ge 10 (by omega) l (acc * 10 + (c.toNat - 48)); rw [hn]; simp only [Lib.parseUintM]; rw [if_pos hd]; by_cases hc : 1844674407370955162 ≤ acc
    · rw [if_pos hc, if_neg (by omega)]
    · rw [if_neg hc]
      by_cases ho : 18446744073709551615 < acc * 10 + (c.toNat - 48)
      · rw [if_pos ho, if_neg (by omega)]
      · rw [if_neg ho]
        exact decM_all l _ (by omega) hl.2
theorem dec_int {l : List UInt8} (hne : l ≠ []) (hl : l.all (fun c => (digOf 10 c).isSome) = true) :
    Lib.parseIntB 64 l = if numOf 10 0 l < 9223372036854775808 then .ok (numOf 10 0 l : Int) else .range := by
  cases l with
  | nil => exact absurd rfl hne
  | cons c r =>
    have hc : 48 ≤ c.toNat ∧ c.toNat ≤ 57 := dig10 (by rw [List.all_cons, Bool.and_eq_true] at hl; exact hl.1); have hU : Lib.parseUintB 64 (c :: r) = if numOf 10 0 (c :: r) ≤ 18446744073709551615 then .ok (numOf 10 0 (c :: r)) else .range := by
      unfold Lib.parseUintB
      rw [if_neg (by simp), show (2 : Nat) ^ 64 - 1 = 18446744073709551615 from by decide]; exact decM_all _ _ (by omega) hl
    unfold Lib.parseIntB
    simp only
    rw [if_neg (by omega), hU]; by_cases h1 : numOf 10 0 (c :: r) ≤ 18446744073709551615
    · rw [if_pos h1]
      simp only
      have h45 : ¬ c.toNat = 45 := by omega
      by_cases h2 : numOf 10 0 (c :: r) < 9223372036854775808
      · rw [if_neg (by rw [show (2 : Nat) ^ (64 - 1) = 9223372036854775808 from by decide]; omega), if_neg (by omega), if_neg h45, if_pos h2]
      · rw [if_pos ⟨h45, by rw [show (2 : Nat) ^ (64 - 1) = 9223372036854775808 from by decide]; omega⟩, if_neg h2]
    · rw [if_neg h1, if_neg (by omega)]
/-! #### one byte: strconv.ParseUint(.., base, 8) -/
theorem GI.syn_cell {w : World} (h : GI w) : ∃ te pe, w.cell? ⟨2, 0, none⟩ = some (.iface te pe) := by
  obtain ⟨te, pe, k⟩ := h.syn
  exact ⟨te, pe, by have h0 := World.var?_cell (show Tryd.prog.globalNamed "strconv.ErrSyntax" = some 2 by kernel_rfl) k 0; simpa using h0⟩
theorem GI.rng_cell {w : World} (h : GI w) : ∃ te pe, w.cell? ⟨3, 0, none⟩ = some (.iface te pe) := by
  obtain ⟨te, pe, k⟩ := h.rng
  exact ⟨te, pe, by have h0 := World.var?_cell (show Tryd.prog.globalNamed "strconv.ErrRange" = some 3 by kernel_rfl) k 0; simpa using h0⟩
theorem bytesWorld_below' (w : World) (s : ByteArray) : Below w.heap.size w (Lib.bytesWorld w 5 s) := ⟨rfl, rfl, rfl, by rw [Lib.bytesWorld_size]; omega, fun j hj => Lib.bytesWorld_at_old w _ s j hj⟩
def OneByte (b : Nat) (c : UInt8) (w : World) (e : Ending) (w' : World) : Prop :=
  Below w.heap.size w w' ∧ ((∃ d : Nat, digOf b c = some d ∧ e = .returned (.tuple #[.int .u64 d, .nilIface])) ∨ (digOf b c = none ∧ ∃ te pe, e = .returned (.tuple #[.int .u64 0, .iface te pe])))
set_option maxHeartbeats 4000000 in
set_option maxRecDepth 100000 in
theorem one16 (t : ByteArray) (c : UInt8) (ht : t.data.toList = [c]) (w : World) (hG : GI w) :
    Calls Tryd.prog 44 #[.string t, .int .i64 16, .int .i64 8] w (OneByte 16 c w) := by
  have hsz : t.size = 1 := by rw [Lib.size_eq, ht]; rfl
  have hU := hex_uint8 t (by omega) (by omega) w
  rw [ht] at hU
  cases hd : digOf 16 c with
  | some d =>
    have hd16 := digOf_lt hd; have hE : hexEnd 255 0 [c] = .ok d := by simp only [hexEnd, hd]; rw [if_neg (by omega), if_neg (by omega), Nat.zero_mul, Nat.zero_add]
    rw [hE] at hU; have hU : Calls Tryd.prog 61 #[.string t, .int .i64 16, .int .i64 8] w fun e w' => e = .returned (.tuple #[.int .u64 d, .nilIface]) ∧ w' = Lib.bytesWorld w 5 t := hU
    go_enter Tryd.func44, Tryd.ntmps44; go_wp2_with (go_at_call 61; refine hU.mono ?_; rintro e w1 ⟨rfl, hw1⟩)
    go_ret2
    exact ⟨bytesWorld_below' w t, .inl ⟨d, hd, rfl⟩⟩
  | none =>
    have hE : hexEnd 255 0 [c] = Lib.NumEnd.syntax := by simp only [hexEnd, hd]
    rw [hE] at hU; have hU : Calls Tryd.prog 61 #[.string t, .int .i64 16, .int .i64 8] w fun e w' => e = .returned (.tuple #[.int .u64 0, .iface 99 (.int .i64 2)]) ∧ w' = Lib.bytesWorld w 5 t := hU
    obtain ⟨te, pe, hv⟩ := (hG.below (bytesWorld_below' w t)).syn_cell; have hT := Any.strconv_toError_syntax Tryd.laysC245 ⟨#[80, 97, 114, 115, 101, 85, 105, 110, 116]⟩ t 16 8 (.iface te pe) (Lib.bytesWorld w 5 t) (by omega) hv (.inr ⟨te, pe, rfl⟩); have hb := bytesWorld_below' w t; obtain ⟨W1, hW1⟩ : ∃ W1, W1 = Lib.bytesWorld w 5 t := ⟨_, rfl⟩; rw [← hW1] at hU hT hb; clear hW1 hv hE; go_enter Tryd.func44, Tryd.ntmps44; go_wp2_with (first | (go_at_call 61; refine hU.mono ?_; rintro e w1 ⟨rfl, rfl⟩) | (go_at_call 62; refine hT.mono ?_; rintro e w2 ⟨N, rfl, h1, h2, h3⟩))
    go_ret2
    exact ⟨below_step hb h3, .inr ⟨hd, _, _, rfl⟩⟩
theorem one10 (t : ByteArray) (c : UInt8) (ht : t.data.toList = [c]) (w : World) (hG : GI w) :
    Calls Tryd.prog 44 #[.string t, .int .i64 10, .int .i64 8] w (OneByte 10 c w) := by
  have hsz : t.size = 1 := by rw [Lib.size_eq, ht]; rfl
  by_cases hd : 48 ≤ c.toNat ∧ c.toNat ≤ 57
  · have hv : digOf 10 c = some (c.toNat - 48) := by unfold digOf; rw [if_pos hd]
    have hE : Lib.parseUintB 8 t.data.toList = .ok (c.toNat - 48) := by
      rw [ht]; unfold Lib.parseUintB; rw [if_neg (by simp), show (2 : Nat) ^ 8 - 1 = 255 from by decide]; simp only [Lib.parseUintM]; rw [if_pos hd, if_neg (by omega), if_neg (by omega), Nat.zero_mul, Nat.zero_add]
    refine (Any.strconv_ParseUint_10_at8_ok Tryd.laysPu14 t (by omega) _ hE w).mono ?_; rintro e w' ⟨rfl, hw⟩
    refine ⟨?_, .inl ⟨_, hv, rfl⟩⟩; rcases hw with rfl | rfl
    · exact Below.refl _ _
    · exact bytesWorld_below' w t
  · have hv : digOf 10 c = none := by unfold digOf; rw [if_neg hd, if_neg (by omega), if_neg (by omega)]
    have hE : Lib.parseUintB 8 t.data.toList = Lib.NumEnd.syntax := by
      rw [ht]; unfold Lib.parseUintB; rw [if_neg (by simp), show (2 : Nat) ^ 8 - 1 = 255 from by decide]; simp only [Lib.parseUintM]; rw [if_neg hd]
    obtain ⟨te, pe, hs⟩ := hG.syn_cell; refine (Any.strconv_ParseUint_10_at8_syntax Tryd.laysPu14 t (by omega) hE (.iface te pe) w hs (.inr ⟨te, pe, rfl⟩)).mono ?_; rintro e w' ⟨N, rfl, _, _, hb⟩
    exact ⟨hb, .inr ⟨hv, _, _, rfl⟩⟩
/-! #### all digits: strconv.ParseInt(.., base, 64) -/
def AllDigits (b : Nat) (t : ByteArray) (w : World) (e : Ending) (w' : World) : Prop :=
  Below w.heap.size w w' ∧ ((numOf b 0 t.data.toList < 9223372036854775808 ∧ e = .returned (.tuple #[.int .i64 (numOf b 0 t.data.toList), .nilIface])) ∨ (¬ numOf b 0 t.data.toList < 9223372036854775808 ∧ ∃ (x : Int) (te : TypeId) (pe : Value), e = .returned (.tuple #[.int .i64 x, .iface te pe])))
theorem all10 (t : ByteArray) (hne : t.data.toList ≠ []) (hmax : t.size ≤ 140737488355328) (hl : t.data.toList.all (fun c => (digOf 10 c).isSome) = true) (w : World) (hG : GI w) :
    Calls Tryd.prog 45 #[.string t, .int .i64 10, .int .i64 64] w (AllDigits 10 t w) := by
  have hE := dec_int hne hl
  by_cases h1 : numOf 10 0 t.data.toList < 9223372036854775808
  · rw [if_pos h1] at hE
    refine (Any.strconv_ParseInt_10_at64_ok Tryd.laysC174 t (by omega) _ hE w).mono ?_; rintro e w' ⟨rfl, hw⟩
    refine ⟨?_, .inl ⟨h1, rfl⟩⟩; rcases hw with rfl | ⟨t', rfl⟩
    · exact Below.refl _ _
    · exact bytesWorld_below' w t'
  · rw [if_neg h1] at hE
    obtain ⟨te, pe, hs⟩ := hG.rng_cell; refine (Any.strconv_ParseInt_10_at64_range Tryd.laysC174 t (by omega) hE (.iface te pe) w hs (.inr ⟨te, pe, rfl⟩)).mono ?_; rintro e w' ⟨N, rfl, _, _, hb⟩
    exact ⟨hb, .inr ⟨h1, _, _, _, rfl⟩⟩
set_option maxHeartbeats 16000000 in
set_option maxRecDepth 100000 in
theorem int16 (t : ByteArray) (hne : t.data.toList ≠ []) (hmax : t.size ≤ 140737488355328) (hl : t.data.toList.all (fun c => (digOf 16 c).isSome) = true) (w : World) :
    Calls Tryd.prog 63 #[.string t, .int .i64 16, .int .i64 64] w fun e w' => w' = Lib.bytesWorld w 5 t ∧ e = .returned (if numOf 16 0 t.data.toList < 9223372036854775808 then .tuple #[.int .i64 (numOf 16 0 t.data.toList), .nilIface] else .tuple #[.int .i64 9223372036854775807, .iface 99 (.int .i64 1)]) := by
  have hsz : t.size ≠ 0 := by
    intro h0; exact hne (List.eq_nil_of_length_eq_zero (by rw [data_length]; exact h0))
  have hpos : 0 < t.size := by omega
  have hemp : t.toList.isEmpty = false := by
    rw [← decide_eq_emptyBytes]; exact decide_eq_false (fun h => hsz (by rw [h]; rfl))
  obtain ⟨c0, r, hL⟩ : ∃ c0 r, t.data.toList = c0 :: r := by
    cases h : t.data.toList with
    | nil => exact absurd h hne
    | cons c0 r => exact ⟨c0, r, rfl⟩
  have hs0 : t[0]'hpos = c0 := by have := Lib.getD_at t 0 hpos; rw [hL] at this; exact this
  have hc0 : c0.toNat ≠ 43 ∧ c0.toNat ≠ 45 := by
    rw [hL, List.all_cons, Bool.and_eq_true] at hl; obtain ⟨d, hd⟩ := Option.isSome_iff_exists.mp hl.1; have := digOf_cases hd; omega
  have hU := hex_uint64 t hsz hmax w
  rw [hexEnd_all _ 0 (by omega) hl] at hU
  obtain ⟨v, hv⟩ : ∃ v, v = numOf 16 0 t.data.toList := ⟨_, rfl⟩
  rw [← hv] at hU ⊢
  clear hv hl hne
  have hq1 : ∀ W, (binOp .neq 70 (.iface 99 (.int .i64 1)) (.iface 99 (.int .i64 1))).run Tryd.prog W = .ok (.bool false) W := fun W => by kernel_rfl
  have hn43 : ((c0.toNat : Int) == 43) = false := beq_eq_false_iff_ne.2 (by omega)
  have hn45 : ((c0.toNat : Int) == 45) = false := beq_eq_false_iff_ne.2 (by omega)
  obtain ⟨W1, hW1⟩ : ∃ W1, W1 = Lib.bytesWorld w 5 t := ⟨_, rfl⟩
  rw [← hW1] at hU ⊢
  clear hW1 hc0 hL
  by_cases hbig : v ≤ 18446744073709551615
  · rw [if_pos hbig] at hU
    obtain ⟨a, ha⟩ : ∃ a : Int, a = (v : Int) := ⟨_, rfl⟩; have hU : Calls Tryd.prog 61 #[.string t, .int .i64 16, .int .i64 64] w fun e w' => e = .returned (.tuple #[.int .u64 a, .nilIface]) ∧ w' = W1 := by rw [ha]; exact hU
    have a0 : 0 ≤ a := by omega
    have a1 : a ≤ 18446744073709551615 := by omega
    by_cases hout : v < 9223372036854775808
    · rw [if_pos hout, ← ha]
      have iin : a < 9223372036854775808 := by omega
      clear hout hbig ha; go_enter Tryd.func63, Tryd.ntmps63; go_wp2_with (go_at_call 61; refine hU.mono ?_; rintro e w1 ⟨rfl, rfl⟩)
      go_ret2
      exact ⟨rfl, rfl⟩
    · rw [if_neg hout]
      have iout : 9223372036854775808 ≤ a := by omega
      clear hout hbig ha; go_enter Tryd.func63, Tryd.ntmps63; go_wp2_with (go_at_call 61; refine hU.mono ?_; rintro e w1 ⟨rfl, rfl⟩)
      go_ret2
      exact ⟨rfl, rfl⟩
  · rw [if_neg hbig] at hU
    rw [if_neg (by omega)]; clear hbig; have hU : Calls Tryd.prog 61 #[.string t, .int .i64 16, .int .i64 64] w fun e w' => e = .returned (.tuple #[.int .u64 18446744073709551615, .iface 99 (.int .i64 1)]) ∧ w' = W1 := hU
    go_enter Tryd.func63, Tryd.ntmps63; go_wp2_with (go_at_call 61; refine hU.mono ?_; rintro e w1 ⟨rfl, rfl⟩)
    go_ret2
    exact ⟨rfl, rfl⟩
set_option maxHeartbeats 4000000 in
set_option maxRecDepth 100000 in
theorem all16 (t : ByteArray) (hne : t.data.toList ≠ []) (hmax : t.size ≤ 140737488355328) (hl : t.data.toList.all (fun c => (digOf 16 c).isSome) = true) (w : World) (hG : GI w) :
    Calls Tryd.prog 45 #[.string t, .int .i64 16, .int .i64 64] w (AllDigits 16 t w) := by
  have hI := int16 t hne hmax hl w
  have hb := bytesWorld_below' w t
  by_cases h1 : numOf 16 0 t.data.toList < 9223372036854775808
  · rw [if_pos h1] at hI
    generalize hv : numOf 16 0 t.data.toList = v at hI
    obtain ⟨W1, hW1⟩ : ∃ W1, W1 = Lib.bytesWorld w 5 t := ⟨_, rfl⟩; rw [← hW1] at hI hb; have HV := Lib.hid hv; have H1 := Lib.hid h1; clear hW1 hv h1; go_enter Tryd.func45, Tryd.ntmps45; go_wp2_with (go_at_call 63; refine hI.mono ?_; rintro e w1 ⟨rfl, rfl⟩)
    go_ret2
    exact ⟨hb, .inl ⟨H1.out, by rw [HV.out]; rfl⟩⟩
  · rw [if_neg h1] at hI
    obtain ⟨te, pe, hs⟩ := (hG.below hb).rng_cell; have hT := Any.strconv_toError_range Tryd.laysC245 ⟨#[80, 97, 114, 115, 101, 73, 110, 116]⟩ t 16 64 (.iface te pe) (Lib.bytesWorld w 5 t) (by omega) hs (.inr ⟨te, pe, rfl⟩); obtain ⟨W1, hW1⟩ : ∃ W1, W1 = Lib.bytesWorld w 5 t := ⟨_, rfl⟩; rw [← hW1] at hI hb hT; have H1 := Lib.hid h1; clear hW1 hs h1; go_enter Tryd.func45, Tryd.ntmps45; go_wp2_with (first | (go_at_call 63; refine hI.mono ?_; rintro e w1 ⟨rfl, rfl⟩) | (go_at_call 62; refine hT.mono ?_; rintro e w2 ⟨N, rfl, h1, h2, h3⟩))
    go_ret2
    exact ⟨below_step hb h3, .inr ⟨H1.out, _, _, _, rfl⟩⟩
theorem extract_one (s : ByteArray) (k : Nat) (hk : k < s.size) : (s.extract k (k + 1)).data.toList = [s.data.toList.getD k 0] := by
  have hk' : k < s.data.toList.length := by rw [data_length]; exact hk
  rw [Lib.extract_data, List.drop_eq_getElem_cons hk']
  simp [List.getD, List.getElem?_eq_getElem hk']
theorem all_take {P : UInt8 → Bool} (l : List UInt8) (k : Nat) (hk : k < l.length) : (l.take (k + 1)).all P = ((l.take k).all P && P (l.getD k 0)) := by
  rw [List.take_succ_eq_append_getElem hk, List.all_append]
  simp [List.getD, List.getElem?_eq_getElem hk]
theorem all_false {P : UInt8 → Bool} (l : List UInt8) (k : Nat) (hk : k < l.length) (h : P (l.getD k 0) = false) : l.all P = false := by
  rw [List.all_eq_false]
  refine ⟨l.getD k 0, ?_, by rw [h]; simp⟩
  simp [List.getD, List.getElem?_eq_getElem hk]
def text_parse.f (a0 : ByteArray) (a1 : Int) : Option (Int × Int) :=
  if a0.size ≤ 140737488355328 then (if a1 = 10 ∨ a1 = 16 then (if a0.data.toList = [] then some (0, 10) else (if a0.data.toList.all (fun c => (digOf a1.toNat c).isSome) = true then (if numOf a1.toNat 0 a0.data.toList < 9223372036854775808 then some ((numOf a1.toNat 0 a0.data.toList : Int), 0) else some (0, 5)) else some (0, 10))) else none) else none
def text_parse.spec (b : Nat) (l : List UInt8) : Int × Int :=
  if l = [] then (0, 10) else (if l.all (fun c => (digOf b c).isSome) = true then (if numOf b 0 l < 9223372036854775808 then ((numOf b 0 l : Int), 0) else (0, 5)) else (0, 10))
set_option maxHeartbeats 8000000 in
set_option maxRecDepth 100000 in
theorem text_parse.any (b : Int) (bn : Nat) (a0 : ByteArray) (hs : a0.size ≤ 140737488355328) (w : World) (hG : GI w)
    (H1 : ∀ (t : ByteArray) (c : UInt8), t.data.toList = [c] → ∀ W, GI W → Calls Tryd.prog 44 #[.string t, .int .i64 b, .int .i64 8] W (OneByte bn c W))
    (H2 : a0.data.toList ≠ [] → a0.data.toList.all (fun c => (digOf bn c).isSome) = true → ∀ W, GI W → Calls Tryd.prog 45 #[.string a0, .int .i64 b, .int .i64 64] W (AllDigits bn a0 W)) :
    Calls Tryd.prog 37 #[.string a0, .int .i64 b] w fun e w' => e = .returned (.tuple #[.int .i64 (text_parse.spec bn a0.data.toList).1, .int .i64 (text_parse.spec bn a0.data.toList).2]) ∧ Below w.heap.size w w' := by
  have HH1 := Lib.hid H1
  have HH2 := Lib.hid H2
  have HG := Lib.hid hG
  clear H1 H2 hG
  generalize hr : text_parse.spec bn a0.data.toList = r
  have HR := Lib.hid hr
  clear hr
  go_enter Tryd.func37, Tryd.ntmps37
  go_wp2
  go_loopw [13] (fun i wr => ∃ k : Nat, k ≤ a0.size ∧ i = .int .i64 k ∧ Below w.heap.size w wr ∧ Hid ((a0.data.toList.take k).all (fun c => (digOf bn c).isSome) = true)) (fun i _ => a0.size - (intOf i).toNat)
  case atStart => exact ⟨0, Nat.zero_le _, rfl, Below.refl _ _, rfl⟩
  case round =>
    obtain ⟨k, hk, rfl, hb, hall⟩ := hrel; have HGr := Lib.hid (HG.out.below hb); by_cases hlt : k < a0.size
    · have hkl : k < a0.data.toList.length := by rw [data_length]; exact hlt
      have C := HH1.out (a0.extract k (k + 1)) _ (extract_one a0 k hlt) wr HGr.out; have hat := all_take (P := fun c => (digOf bn c).isSome) a0.data.toList k hkl; have haf := all_false (P := fun c => (digOf bn c).isSome) a0.data.toList k hkl; generalize a0.data.toList.getD k 0 = c at C hat haf
      have i1 : (k : Int) + 1 ≤ (a0.size : Int) := by omega
      have i2 : (0 : Int) ≤ (k : Int) := by omega
      have i3 : (k : Int) ≤ (k : Int) + 1 := by omega
      cases hd : digOf bn c with
      | some d =>
        have C2 : Calls Tryd.prog 44 #[.string (a0.extract k (k + 1)), .int .i64 b, .int .i64 8] wr fun e w' => e = .returned (.tuple #[.int .u64 d, .nilIface]) ∧ Below wr.heap.size wr w' := C.mono fun e w' h => by
          obtain ⟨hb1, h1 | h1⟩ := h
          · obtain ⟨d', hd', rfl⟩ := h1
            rw [hd] at hd'; obtain rfl := Option.some.inj hd'; exact ⟨rfl, hb1⟩
          · rw [hd] at h1; cases h1.1
        have HC2 := Lib.hid C2; have HN : Hid ((a0.data.toList.take (k + 1)).all (fun c => (digOf bn c).isSome) = true) := by rw [hat, hall.out, hd]; rfl
        clear C C2 hat haf hd hkl; go_wp2_with (go_at_call 44; refine HC2.out.mono ?_; rintro e w1 ⟨rfl, hb1⟩)
        go_roundw
        case rel => exact ⟨k + 1, by omega, by go_num, below_step hb hb1, HN⟩
        case measure => simp [intOf]; omega
      | none =>
        have C2 : Calls Tryd.prog 44 #[.string (a0.extract k (k + 1)), .int .i64 b, .int .i64 8] wr fun e w' => ∃ te pe, e = .returned (.tuple #[.int .u64 0, .iface te pe]) ∧ Below wr.heap.size wr w' := C.mono fun e w' h => by
          obtain ⟨hb1, h1 | h1⟩ := h
          · obtain ⟨d', hd', _⟩ := h1
            rw [hd] at hd'; cases hd'
          · obtain ⟨te, pe, rfl⟩ := h1.2
            exact ⟨te, pe, rfl, hb1⟩
        have HC2 := Lib.hid C2; have hf : a0.data.toList.all (fun c => (digOf bn c).isSome) = false := haf (by rw [hd]; rfl)
        have hne : a0.data.toList ≠ [] := fun h => by rw [h] at hkl; simp at hkl
        have HN : Hid (r = (0, 10)) := by have := HR.out; unfold text_parse.spec at this; rw [if_neg hne, hf] at this; exact this.symm
        clear C C2 hat haf hd hkl hf hne; go_wp2_with (go_at_call 44; refine HC2.out.mono ?_; rintro e w1 ⟨te, pe, rfl, hb1⟩)
        go_ret2
        exact ⟨by rw [HN.out]; rfl, below_step hb hb1⟩
    · have hkk : k = a0.size := by omega
      subst hkk; rw [List.take_of_length_le (by rw [data_length]; exact Nat.le_refl _)] at hall
      by_cases hne : a0.data.toList = []
      · have hemp : a0.toList.isEmpty = true := by rw [Lib.toList_data, hne]; rfl
        have hemp2 : a0.toList = [] := by rw [Lib.toList_data, hne]
        have HN : Hid (r = (0, 10)) := by have := HR.out; unfold text_parse.spec at this; rw [if_pos hne] at this; exact this.symm
        clear hne hall; go_wp2; go_ret2
        exact ⟨by rw [HN.out]; rfl, hb⟩
      · have hemp : a0.toList.isEmpty = false := by rw [Lib.toList_data]; cases h : a0.data.toList <;> simp_all
        have C := HH2.out hne hall.out wr HGr.out; have HQ : Hid (r = if numOf bn 0 a0.data.toList < 9223372036854775808 then ((numOf bn 0 a0.data.toList : Int), 0) else (0, 5)) := by have := HR.out; unfold text_parse.spec at this; rw [if_neg hne, if_pos hall.out] at this; exact this.symm
        by_cases hv : numOf bn 0 a0.data.toList < 9223372036854775808
        · have C2 : Calls Tryd.prog 45 #[.string a0, .int .i64 b, .int .i64 64] wr fun e w' => e = .returned (.tuple #[.int .i64 r.1, .nilIface]) ∧ Below wr.heap.size wr w' := C.mono fun e w' h => by
            obtain ⟨hb1, h1 | h1⟩ := h
            · refine ⟨?_, hb1⟩
              rw [h1.2, HQ.out, if_pos hv]
            · exact absurd hv h1.1
          have HC2 := Lib.hid C2; have HN : Hid (r.2 = 0) := by show r.2 = 0; rw [HQ.out, if_pos hv]
          clear C C2 hne hall hv; go_wp2_with (go_at_call 45; refine HC2.out.mono ?_; rintro e w1 ⟨rfl, hb1⟩)
          go_ret2
          exact ⟨by rw [HN.out]; rfl, below_step hb hb1⟩
        · have C2 : Calls Tryd.prog 45 #[.string a0, .int .i64 b, .int .i64 64] wr fun e w' => ∃ (x : Int) (te : TypeId) (pe : Value), e = .returned (.tuple #[.int .i64 x, .iface te pe]) ∧ Below wr.heap.size wr w' := C.mono fun e w' h => by
            obtain ⟨hb1, h1 | h1⟩ := h
            · exact absurd h1.1 hv
            · obtain ⟨x, te, pe, rfl⟩ := h1.2
              exact ⟨x, te, pe, rfl, hb1⟩
          have HC2 := Lib.hid C2; have HN : Hid (r = (0, 5)) := by show r = (0, 5); rw [HQ.out, if_neg hv]
          clear C C2 hne hall hv HQ; go_wp2_with (go_at_call 45; refine HC2.out.mono ?_; rintro e w1 ⟨x, te, pe, rfl, hb1⟩)
          go_ret2
          exact ⟨by rw [HN.out]; rfl, below_step hb hb1⟩
theorem text_parse.f_eq {a0 : ByteArray} {a1 : Int} {bn : Nat} (hb : a1.toNat = bn) (hs : a0.size ≤ 140737488355328) (h1 : a1 = 10 ∨ a1 = 16) : text_parse.f a0 a1 = some (text_parse.spec bn a0.data.toList) := by
  subst hb
  unfold text_parse.f text_parse.spec
  rw [if_pos hs, if_pos h1]
  split
  · rfl
  · split
    · split <;> rfl
    · rfl
theorem text_parse.calls (a0 : ByteArray) (a1 : Int) (r1 : Int) (r2 : Int) (w : World) (hG : GI w) (h : text_parse.f a0 a1 = some (r1, r2)) :
    Calls Tryd.prog 37 #[.string a0, .int .i64 a1] w fun e w' => e = .returned (.tuple #[.int .i64 r1, .int .i64 r2]) ∧ Below w.heap.size w w' := by
  by_cases hs : a0.size ≤ 140737488355328
  case neg => unfold text_parse.f at h; rw [if_neg hs] at h; cases h
  by_cases h1 : a1 = 10 ∨ a1 = 16
  case neg => unfold text_parse.f at h; rw [if_pos hs, if_neg h1] at h; cases h
  rw [text_parse.f_eq rfl hs h1] at h
  have h2 := Option.some.inj h
  rcases h1 with rfl | rfl
  · refine (text_parse.any 10 10 a0 hs w hG one10 (fun hne hl W hW => all10 a0 hne hs hl W hW)).mono ?_
    rintro e w' ⟨rfl, hb⟩
    exact ⟨by rw [show text_parse.spec 10 a0.data.toList = (r1, r2) from h2], hb⟩
  · refine (text_parse.any 16 16 a0 hs w hG one16 (fun hne hl W hW => all16 a0 hne hs hl W hW)).mono ?_
    rintro e w' ⟨rfl, hb⟩
    exact ⟨by rw [show text_parse.spec 16 a0.data.toList = (r1, r2) from h2], hb⟩

end Go.Proofs.YtgeekchnolahhaaDoor.PP
