-- Written by a program of this session (a changed copy of the kit's print) out of the translation. Not trusted: Lean checks it.
import Derived.Test.YtbndichleiameaaDoorPPx0
import Derived.Test.YtbndichleiameaaDoorPPx3
import Derived.OneCell
import Derived.Deep.DeepMust
namespace Go.Proofs.YtbndichleiameaaDoor.PP
open Go.RowKit Go.Proofs.YtbndichleiameaaDoorW.PrintWords Go.Proofs.YtbndichleiameaaDoorW.PrintLast Go.Proofs.YtbndichleiameaaDoorW.PrintMore
attribute [local go_sem] max2_int min2_int max_two min_two max_three min_three max_four min_four   -- for this text's walks alone
set_option linter.unusedVariables false
set_option linter.unusedSimpArgs false

/-! ### text_List: function 24 (an extern) -/
/-- What the closure does: the piece from at_ to_ to, without blanks at its ends, is a member unless it is empty. -/
def text_List.m (s : ByteArray) (at_ to_ : Nat) (out : List ByteArray) : Option (List ByteArray) :=
  if at_ ≤ to_ then (if to_ ≤ s.size then ((text_Trim.f (s.extract at_ to_)).bind fun m => if m.toList = [] then some out else (if out.length < 8796093022208 then some (out ++ [m]) else none)) else none) else none
def text_List.l0 : Nat → ByteArray → Nat → Nat → List ByteArray → Option (List ByteArray)
  | 0, _, _, _, _ => none
  | k + 1, s, i, at_, out => if i < s.size then (if bt s (i : Int) = 34 then ((text_quoted.f k (s.extract i s.size)).bind fun q => if 1 ≤ q then (if (i : Int) + q ≤ (s.size : Int) then text_List.l0 k s (i + q.toNat) at_ out else none) else none) else (if bt s (i : Int) = 44 then ((text_List.m s at_ i out).bind fun out' => text_List.l0 k s (i + 1) (i + 1) out') else text_List.l0 k s (i + 1) at_ out)) else text_List.m s at_ s.size out
def text_List.f (k : Nat) (a0 : ByteArray) : Option (List ByteArray) := if a0.size ≤ 140737488355328 then text_List.l0 k a0 0 0 [] else none
theorem text_List.mono_l : ∀ k, (∀ y0 y1 y2 y3, LeO (text_List.l0 k y0 y1 y2 y3) (text_List.l0 (k + 1) y0 y1 y2 y3))
  | 0 => fun _ _ _ _ r h => by simp [text_List.l0] at h
  | k + 1 => by
    have ih0 := text_List.mono_l k
    intro y0 y1 y2 y3
    unfold text_List.l0
    refine LeO.ite (LeO.ite (LeO.bind (text_quoted.mono _ _) fun _ => LeO.ite (LeO.ite (ih0 _ _ _ _) (LeO.refl _)) (LeO.refl _)) (LeO.ite (LeO.bind (LeO.refl _) fun _ => ih0 _ _ _ _) (ih0 _ _ _ _))) (LeO.refl _)
theorem text_List.mono : ∀ a0 k, LeO (text_List.f k a0) (text_List.f (k + 1) a0) := by
  intro a0 k
  unfold text_List.f
  exact LeO.ite (text_List.mono_l k _ _ _ _) (LeO.refl _)
/-- The closure's variables in memory. -/
structure text_List.LW (s : ByteArray) (B : Nat) (w : World) (at_ : Nat) (out : List ByteArray) : Prop where
  b0 : w.heap[B]? = some (.cells #[.string s] 9 (0, 0))
  b2 : w.heap[B + 1 + 1]? = some (.cells #[.int .i64 at_] 3 (0, 0))
  b1 : ∃ v, w.heap[B + 1]? = some (.cells #[v] 51 (0, 0)) ∧ Kd.R Kd.string 9 w (B + 3) (fun k => B + 3 ≤ k) v out
theorem text_List.LW.drewN {s : ByteArray} {B : Nat} {w : World} {at_ : Nat} {out : List ByteArray} (h : text_List.LW s B w at_ out) (n : Nat) : text_List.LW s B (w.drewN n) at_ out :=
  ⟨blk_drewN h.b0 n, blk_drewN h.b2 n, h.b1.imp fun _ k => ⟨blk_drewN k.1 n, Kd.R_drewN k.2 n⟩⟩
set_option maxHeartbeats 8000000 in
set_option maxRecDepth 100000 in
theorem text_List.member (s : ByteArray) (at_ to_ : Nat) (out out' : List ByteArray) (B : Nat) (w : World) (hw : text_List.LW s B w at_ out) (hB : B + 3 ≤ w.heap.size) (hs : s.size ≤ 140737488355328) (h : text_List.m s at_ to_ out = some out') :
    Calls Tryd.prog 36 #[.int .i64 to_, .pointer (some ⟨B, 0, none⟩), .pointer (some ⟨B + 1 + 1, 0, none⟩), .pointer (some ⟨B + 1, 0, none⟩)] w fun e w' => e = .returned (.tuple #[]) ∧ text_List.LW s B w' (to_ + 1) out' ∧ Below B w w' := by
  unfold text_List.m at h
  by_cases h1 : at_ ≤ to_
  case neg => rw [if_neg h1] at h; cases h
  rw [if_pos h1] at h
  by_cases h2 : to_ ≤ s.size
  case neg => rw [if_neg h2] at h; cases h
  rw [if_pos h2] at h
  obtain ⟨m, hm, h⟩ := Option.bind_eq_some_iff.mp h
  obtain ⟨v, hb1, hR⟩ := hw.b1
  obtain ⟨A, cap, rfl⟩ := Kd.R_slice hR
  have hb0 := hw.b0; have hb2 := hw.b2
  clear hw
  have c0 := cell_of_one hb0; have c1 := cell_of_one hb1; have c2 := cell_of_one hb2
  have f1 := free_of_one hb1; have f2 := free_of_one hb2
  have Hb0 := Lib.hid hb0; have Hb1 := Lib.hid hb1; have Hb2 := Lib.hid hb2; have HR := Lib.hid hR; have Hm := Lib.hid hm; have HH := Lib.hid h
  clear hb0 hb1 hb2 hR hm h
  have i0 : (0 : Int) ≤ (at_ : Int) := by omega
  have i1 : (at_ : Int) ≤ (to_ : Int) := by omega
  have i2 : (to_ : Int) ≤ (s.size : Int) := by omega
  go_enter Tryd.func36, Tryd.ntmps36
  go_wp2_with fail
  refine (text_Trim.calls (s.extract at_ to_) m _ Hm.out).mono ?_
  rintro e w1 ⟨rfl, hb⟩
  have hz := hb.size
  have hb0 := blk_below Hb0.out hb; have hb1 := blk_below Hb1.out hb; have hb2 := blk_below Hb2.out hb
  have HR1 := Lib.hid (Kd.R_below HR.out hb)
  have hbB : Below B w w1 := hb.mono (by omega)
  clear c0 c1 c2 f1 f2 Hb0 Hb1 Hb2 HR hb
  have c0 := cell_of_one hb0; have c1 := cell_of_one hb1; have c2 := cell_of_one hb2
  have f1 := free_of_one hb1; have f2 := free_of_one hb2
  have Hb0 := Lib.hid hb0; have Hb1 := Lib.hid hb1; have Hb2 := Lib.hid hb2
  clear hb0 hb1 hb2
  by_cases hm0 : m.toList = []
  · have hh := HH.out
    rw [if_pos hm0] at hh
    obtain rfl := Option.some.inj hh
    have hme : m.toList.isEmpty = true := by rw [hm0]; rfl
    clear hh HH
    go_wp2
    go_end0
    refine ⟨rfl, ⟨blk_far Hb0.out (by dsimp only; omega) _, ?_, _, blk_far Hb1.out (by dsimp only; omega) _, Kd.R_far HR1.out (fun k hk => by show k ≠ B + 1 + 1; omega) _⟩, hbB.setCell (by dsimp only; omega) _⟩
    exact one_setCell Hb2.out
  · have hh := HH.out
    rw [if_neg hm0] at hh
    by_cases hl : out.length < 8796093022208
    case neg => rw [if_neg hl] at hh; cases hh
    rw [if_pos hl] at hh
    obtain rfl := Option.some.inj hh
    have hme : m.toList.isEmpty = false := by cases he : m.toList <;> simp_all
    have HL := Lib.hid hl
    clear hh HH hm0 hl
    go_wp2_with ((with_reducible refine gate_builtin (b := .append) (xs := #[.tmp 13, .tmp 15]) rfl ?_); at_builtin; refine Kd.R_append Kd.string (w0 := w1) (B + 3) rfl (.tmp 13) (.tmp 15) 51 9 (.string ⟨#[]⟩) 16 rfl Tryd.underlying51 info9 rfl (by decide) (by omega) (.slice A out.length cap) out m [.string m] (fun k => B + 3 ≤ k) (fun _ => False) rfl rfl ?aP (fun _ hk => hk.elim) ?aF ?aO ?aB ?aS ?aL ?_; (case aP => exact rfl); (case aB => exact Below.refl _ _); (case aF => exact fun k hk => by omega); (case aO => exact HR1.out); (case aS => omega); (case aL => have := HL.out; omega); intro v2 w2 ho hb hg hat; clear hg hat; obtain ⟨A2, cap2, rfl⟩ := Kd.R_slice ho; have hb1' := (hb.block (B + 1) (by omega)).trans Hb1.out; have hb2' := (hb.block (B + 1 + 1) (by omega)).trans Hb2.out; have Hb0' := Lib.hid ((hb.block B (by omega)).trans Hb0.out); have c1 := cell_of_one hb1'; have f1 := free_of_one hb1'; have c2 := cell_of_one hb2'; have f2 := free_of_one hb2'; have Hb1' := Lib.hid hb1'; have Hb2' := Lib.hid hb2'; have HO := Lib.hid ho; have hbB2 : Below B w w2 := hbB.trans (hb.mono (by omega)); clear hb1' hb2' hb ho)
    go_end0
    have hlen : (out ++ [m]).length = out.length + 1 := by simp
    have ho := HO.out
    rw [hlen] at ho
    refine ⟨rfl, ⟨blk_far (blk_far Hb0'.out (by dsimp only; omega) _) (by dsimp only; omega) _, one_setCell (blk_far Hb2'.out (by dsimp only; omega) _), _, blk_far (one_setCell Hb1'.out) (by dsimp only; omega) _, Kd.R_far (Kd.R_far ho (fun k hk => by show k ≠ B + 1; omega) _) (fun k hk => by show k ≠ B + 1 + 1; omega) _⟩, (hbB2.setCell (by dsimp only; omega) _).setCell (by dsimp only; omega) _⟩
set_option maxHeartbeats 8000000 in
set_option maxRecDepth 100000 in
theorem text_List.calls (k : Nat) (a0 : ByteArray) (r : List ByteArray) (w : World) (h : text_List.f k a0 = some r) :
    Calls Tryd.prog 24 #[.string a0] w fun e w' => ∃ v0_ : Value, e = .returned (v0_) ∧ Kd.R Kd.string 9 w' w.heap.size (fun _ => True) v0_ r ∧ Below w.heap.size w w' := by
  unfold text_List.f at h
  by_cases hs : a0.size ≤ 140737488355328
  case neg => rw [if_neg hs] at h; cases h
  rw [if_pos hs] at h
  have H' := Aside0.mk h
  clear h
  have hb0 : Below w.heap.size w (((w.alloc (.cells #[.string a0] 9)).alloc (.cells #[.slice none 0 0] 51)).alloc (.cells #[.int .i64 0] 3)) := (((Below.refl _ _).alloc (Nat.le_refl _) _).alloc (by simp) _).alloc (by simp; omega) _
  go_enter Tryd.func24, Tryd.ntmps24
  go_wp2
  go_loopg [6] k (fun kq v6 wr => ∃ (i at_ : Nat) (out : List ByteArray), v6 = .int .i64 i ∧ i ≤ a0.size ∧ text_List.LW a0 w.heap.size wr at_ out ∧ Below w.heap.size w wr ∧ w.heap.size + 3 ≤ wr.heap.size ∧ Aside0 (text_List.l0 kq a0 i at_ out = some r) ∧ Aside0 (kq ≤ k))
  case atStart =>
    refine ⟨0, 0, [], rfl, Nat.zero_le _, ⟨?_, ?_, _, ?_, Kd.R_nil _ _ _ _ _⟩, hb0, by simp, H', ⟨Nat.le_refl _⟩⟩
    · exact blk_alloc (blk_alloc (blk_new _ _) _) _
    · have := blk_new ((w.alloc (.cells #[.string a0] 9)).alloc (.cells #[.slice none 0 0] 51)) (.cells #[.int .i64 0] 3)
      simpa using this
    · have := blk_alloc (blk_new (w.alloc (.cells #[.string a0] 9)) (.cells #[.slice none 0 0] 51)) (.cells #[.int .i64 0] 3)
      simpa using this
  case round =>
    clear H' hb0
    obtain ⟨i, at_, out, rfl, hi, hw, hb, hz, HA, HK⟩ := hrel
    cases gk with
    | zero => exact absurd HA.out (by simp [text_List.l0])
    | succ k1 =>
      have H := HA.out
      clear HA
      simp only [text_List.l0] at H
      have c0 := cell_of_one hw.b0
      have HW := Lib.hid hw
      clear hw
      have hii : (i : Int) ≤ (a0.size : Int) := by omega
      by_cases c2 : i < a0.size
      · rw [if_pos c2] at H
        have c2b : decide ((i : Int) < (a0.size : Int)) = true := decide_eq_true (by omega)
        have c2c : decide (i < a0.size) = true := decide_eq_true c2
        have hx : ∀ h : i < a0.size, ((a0[i]'h).toNat : Int) = bt a0 (i : Int) := by simpa using bt_at a0 (i : Int)
        by_cases c3 : bt a0 (i : Int) = 34
        · rw [if_pos c3] at H
          obtain ⟨q, hq, H⟩ := Option.bind_eq_some_iff.mp H
          by_cases c4 : 1 ≤ q
          case neg => rw [if_neg c4] at H; cases H
          rw [if_pos c4] at H
          by_cases c5 : (i : Int) + q ≤ (a0.size : Int)
          case neg => rw [if_neg c5] at H; cases H
          rw [if_pos c5] at H
          have H' := Aside0.mk H
          have Hq := Lib.hid hq
          have c3b : (bt a0 (i : Int) == 34) = true := beq_iff_eq.mpr c3
          clear H hq c3
          have c5' : q ≤ (a0.size : Int) := by omega
          go_wp2_with (go_at_call 37; refine (text_quoted.calls k1 (a0.extract i a0.size) q _ Hq.out).mono ?_; rintro e w' ⟨rfl, ⟨nd, rfl⟩⟩)
          go_roundg k1
          case measure => have := HK.out; omega
          case rel =>
            refine ⟨i + q.toNat, at_, out, ?_, by omega, HW.out.drewN _, pw_below_drewN hb _, hz, H', ⟨by have := HK.out; omega⟩⟩
            exact congrArg (Value.int IntKind.i64) (by omega)
        · rw [if_neg c3] at H
          have c3b : (bt a0 (i : Int) == 34) = false := beq_eq_false_iff_ne.mpr c3
          by_cases c6 : bt a0 (i : Int) = 44
          · rw [if_pos c6] at H
            obtain ⟨out', ho, H⟩ := Option.bind_eq_some_iff.mp H
            have H' := Aside0.mk H
            have Ho := Lib.hid ho
            have c6b : (bt a0 (i : Int) == 44) = true := beq_iff_eq.mpr c6
            clear H ho c3 c6
            go_wp2_with (go_at_call 36; refine (text_List.member a0 at_ i out out' w.heap.size _ HW.out hz hs Ho.out).mono ?_; rintro e w1 ⟨rfl, hw1, hb1⟩)
            go_roundg k1
            case measure => have := HK.out; omega
            case rel => exact ⟨i + 1, i + 1, out', by go_num, by omega, hw1, hb.trans (hb1), Nat.le_trans hz hb1.size, H', ⟨by have := HK.out; omega⟩⟩
          · rw [if_neg c6] at H
            have c6b : (bt a0 (i : Int) == 44) = false := beq_eq_false_iff_ne.mpr c6
            have H' := Aside0.mk H
            clear H c3 c6
            go_wp2
            go_roundg k1
            case measure => have := HK.out; omega
            case rel => exact ⟨i + 1, at_, out, by go_num, by omega, HW.out, hb, hz, H', ⟨by have := HK.out; omega⟩⟩
      · have hie : i = a0.size := by omega
        subst hie
        rw [if_neg c2] at H
        have Ho := Lib.hid H
        clear H
        go_wp2_with (go_at_call 36; refine (text_List.member a0 at_ a0.size out r w.heap.size _ HW.out hz hs Ho.out).mono ?_; rintro e w1 ⟨rfl, hw1, hb1⟩; obtain ⟨v1, hv1, hR1⟩ := hw1.b1; obtain ⟨A1, cap1, rfl⟩ := Kd.R_slice hR1; have c1 := cell_of_one hv1; have HR1 := Lib.hid hR1; clear hw1 hv1 hR1)
        go_ret
        exact ⟨_, rfl, Kd.R_mono (Kd.R_lower HR1.out (by omega)) (fun _ _ => trivial), hb.trans hb1⟩

end Go.Proofs.YtbndichleiameaaDoor.PP
