-- Written by a program of this session (a changed copy of the kit's print) out of the translation. Not trusted: Lean checks it.
import Derived.Test.YtlbnnmdjmikedaaGreatDoorPPx0
import Derived.Test.YtlbnnmdjmikedaaGreatDoorPPx11
import Derived.Test.YtlbnnmdjmikedaaGreatDoorPPxEstringsIndex
import Derived.Test.YtlbnnmdjmikedaaGreatDoorPPx13
import Derived.Test.YtlbnnmdjmikedaaGreatDoorPPxEdateahead
import Derived.Test.YtlbnnmdjmikedaaGreatDoorPPx15
import Derived.Test.YtlbnnmdjmikedaaGreatDoorPPx18
import Derived.LoopN
import Derived.Handy
import Derived.LoopTactic
import Derived.Deep.RegionLaw
import Derived.Deep.RegionHeld3
namespace Go.Proofs.YtlbnnmdjmikedaaGreatDoor.PP
open Go.RowKit Go.Proofs.YtlbnnmdjmikedaaGreatDoorW.PrintWords Go.Proofs.YtlbnnmdjmikedaaGreatDoorW.PrintLast Go.Proofs.YtlbnnmdjmikedaaGreatDoorW.PrintMore
attribute [local go_sem] max2_int min2_int max_two min_two max_three min_three max_four min_four   -- for this text's walks alone
set_option linter.unusedVariables false
set_option linter.unusedSimpArgs false

/-! ### date_Parse: function 32 (an extern) -/
def monthsB : ByteArray := ⟨#[74, 97, 110, 70, 101, 98, 77, 97, 114, 65, 112, 114, 77, 97, 121, 74, 117, 110, 74, 117, 108, 65, 117, 103, 83, 101, 112, 79, 99, 116, 78, 111, 118, 68, 101, 99]⟩
def date_secOf (u ah n1 n2 n3 n4 : Int) : Int :=
  wrap64 ((wrap64 ((wrap64 ((wrap64 ((wrap64 ((wrap64 ((wrap64 (u + ah)) + n1)) - 1)) * 86400)) + (wrap64 (n2 * 3600)))) + (wrap64 (n3 * 60)))) + n4)
def date_Parse.tail (k : Nat) (a0 : ByteArray) (n0 n1 n2 n3 n4 : Int) : Option (Int × Int) :=
  (strings_Index.f monthsB (a0.extract 8 11)).bind fun mo => if mo < 0 then some (0, 20) else (if Int.tmod mo 3 = 0 then (if n0 < 1970 then some (0, 20) else
    ((date_until.f n0).bind fun u => ((date_leap.f n0).bind fun lp => ((date_ahead.f (wrap64 (Int.tdiv mo 3)) lp).bind fun ah =>
      ((date_Format.f k (date_secOf u ah n1 n2 n3 n4)).bind fun bt => (if bt.2 = 0 then (if bt.1.toList = a0.toList then some (date_secOf u ah n1 n2 n3 n4, 0) else some (0, 20)) else some (0, 20))))))) else some (0, 20))
def date_Parse.f (k : Nat) (a0 : ByteArray) : Option (Int × Int) :=
  if a0.size = 29 then
    ((text_Number.f (a0.extract 12 16)).bind fun n0 => if n0.2 = 0 then
    ((text_Number.f (a0.extract 5 7)).bind fun n1 => if n1.2 = 0 then
    ((text_Number.f (a0.extract 17 19)).bind fun n2 => if n2.2 = 0 then
    ((text_Number.f (a0.extract 20 22)).bind fun n3 => if n3.2 = 0 then
    ((text_Number.f (a0.extract 23 25)).bind fun n4 => if n4.2 = 0 then date_Parse.tail k a0 n0.1 n1.1 n2.1 n3.1 n4.1 else some (0, 20)) else some (0, 20)) else some (0, 20)) else some (0, 20)) else some (0, 20))
  else some (0, 20)
theorem date_Parse.mono : ∀ a0 k, LeO (date_Parse.f k a0) (date_Parse.f (k + 1) a0) := by
  intro a0 k
  have ht : ∀ n0 n1 n2 n3 n4, LeO (date_Parse.tail k a0 n0 n1 n2 n3 n4) (date_Parse.tail (k + 1) a0 n0 n1 n2 n3 n4) := by
    intro n0 n1 n2 n3 n4
    unfold date_Parse.tail
    refine LeO.bind (LeO.refl _) fun mo => LeO.ite (LeO.refl _) (LeO.ite (LeO.ite (LeO.refl _) (LeO.bind (LeO.refl _) fun u => LeO.bind (LeO.refl _) fun lp => LeO.bind (LeO.refl _) fun ah => LeO.bind (date_Format.mono _ _) fun bt => LeO.refl _)) (LeO.refl _))
  unfold date_Parse.f
  refine LeO.ite ?_ (LeO.refl _)
  refine LeO.bind (LeO.refl _) fun n0 => LeO.ite (LeO.bind (LeO.refl _) fun n1 => LeO.ite (LeO.bind (LeO.refl _) fun n2 => LeO.ite (LeO.bind (LeO.refl _) fun n3 => LeO.ite (LeO.bind (LeO.refl _) fun n4 => LeO.ite (ht _ _ _ _ _) (LeO.refl _)) (LeO.refl _)) (LeO.refl _)) (LeO.refl _)) (LeO.refl _)
/-- The array and what lies round it. -/
def date_Parse.S (w : World) (A : Array Value) (w' : World) : Prop := w'.heap[w.heap.size]? = some (.cells A 74) ∧ Below w.heap.size w w' ∧ w.heap.size + 2 ≤ w'.heap.size
theorem date_Parse.keep0 {w W : World} {n1 : Int} {A : Array Value} (h : W.cell? ⟨w.heap.size, 1, none⟩ = some (.int .i64 n1) ∧ date_Parse.S w A W) (n : Nat) : (W.drewN n).cell? ⟨w.heap.size, 1, none⟩ = some (.int .i64 n1) ∧ date_Parse.S w A (W.drewN n) := ⟨h.1, blk_drewN h.2.1 n, pw_below_drewN h.2.2.1 n, h.2.2.2⟩
theorem date_Parse.keep1 {w W W1 : World} {n1 : Int} {A : Array Value} (h : W.cell? ⟨w.heap.size, 1, none⟩ = some (.int .i64 n1) ∧ date_Parse.S w A W) (hb : Below W.heap.size W W1) : W1.cell? ⟨w.heap.size, 1, none⟩ = some (.int .i64 n1) ∧ date_Parse.S w A W1 := ⟨pw_cell_below hb h.1, blk_below h.2.1 hb, h.2.2.1.trans (hb.mono (by have := h.2.2.2; omega)), Nat.le_trans h.2.2.2 hb.size⟩
set_option maxHeartbeats 8000000 in
set_option maxRecDepth 100000 in
theorem date_Parse.calls (k : Nat) (a0 : ByteArray) (r1 : Int) (r2 : Int) (w : World) (hG : GI w) (h : date_Parse.f k a0 = some (r1, r2)) :
    Calls Tryz.prog 32 #[.string a0] w fun e w' => e = .returned (.tuple #[.int .i64 r1, .int .i64 r2]) ∧ Below w.heap.size w w' := by
  unfold date_Parse.f at h
  have HG := Aside0.mk hG
  clear hG
  by_cases hs : a0.size = 29
  case neg =>
    rw [if_neg hs] at h
    obtain ⟨rfl, rfl⟩ := Prod.mk.inj (Option.some.inj h)
    have hz : ((a0.size : Int) != 29) = true := bne_iff_ne.2 (by omega)
    clear h hs
    go_enter Tryz.func32, Tryz.ntmps32
    go_wp2
    go_ret2
    exact ⟨rfl, Below.refl _ _⟩
  rw [if_pos hs] at h
  have hz : ((a0.size : Int) != 29) = false := by rw [hs]; rfl
  have i0 : (16 : Int) ≤ (a0.size : Int) := by omega
  have i1 : (7 : Int) ≤ (a0.size : Int) := by omega
  have i2 : (19 : Int) ≤ (a0.size : Int) := by omega
  have i3 : (22 : Int) ≤ (a0.size : Int) := by omega
  have i4 : (25 : Int) ≤ (a0.size : Int) := by omega
  have i5 : (11 : Int) ≤ (a0.size : Int) := by omega
  have H := Aside0.mk h
  clear h hs
  go_enter Tryz.func32, Tryz.ntmps32
  go_wp2
  go_region_law fail
  go_wp2
  refine wp_loop_rounds 6 ?_
  rw [rounds_succ]
  go_wp2_with fail
  have hA := blk_drewN (blk_alloc (blk_new w (.cells #[.int .i64 0, .int .i64 0, .int .i64 0, .int .i64 0, .int .i64 0] 74)) (.cells #[.string (a0.extract 12 16), .string (a0.extract 5 7), .string (a0.extract 17 19), .string (a0.extract 20 22), .string (a0.extract 23 25)] 9)) 1
  have hS := blk_drewN (blk_new (w.alloc (.cells #[.int .i64 0, .int .i64 0, .int .i64 0, .int .i64 0, .int .i64 0] 74)) (.cells #[.string (a0.extract 12 16), .string (a0.extract 5 7), .string (a0.extract 17 19), .string (a0.extract 20 22), .string (a0.extract 23 25)] 9)) 1
  have hB : Below w.heap.size w (((w.alloc (.cells #[.int .i64 0, .int .i64 0, .int .i64 0, .int .i64 0, .int .i64 0] 74)).alloc (.cells #[.string (a0.extract 12 16), .string (a0.extract 5 7), .string (a0.extract 17 19), .string (a0.extract 20 22), .string (a0.extract 23 25)] 9)).drew) := below_drew (((Below.refl _ _).alloc (Nat.le_refl _) _).alloc (by simp) _)
  have hz2 : w.heap.size + 2 ≤ (((w.alloc (.cells #[.int .i64 0, .int .i64 0, .int .i64 0, .int .i64 0, .int .i64 0] 74)).alloc (.cells #[.string (a0.extract 12 16), .string (a0.extract 5 7), .string (a0.extract 17 19), .string (a0.extract 20 22), .string (a0.extract 23 25)] 9)).drew).heap.size := by simp
  rw [show (w.alloc (.cells #[.int .i64 0, .int .i64 0, .int .i64 0, .int .i64 0, .int .i64 0] 74)).heap.size = w.heap.size + 1 by simp] at hS
  have hA : (((w.alloc (.cells #[.int .i64 0, .int .i64 0, .int .i64 0, .int .i64 0, .int .i64 0] 74)).alloc (.cells #[.string (a0.extract 12 16), .string (a0.extract 5 7), .string (a0.extract 17 19), .string (a0.extract 20 22), .string (a0.extract 23 25)] 9)).drew).heap[w.heap.size]? = some (.cells #[.int .i64 0, .int .i64 0, .int .i64 0, .int .i64 0, .int .i64 0] 74) := hA
  have HA_ := Lib.hid hA; have HS_ := Lib.hid hS; have HB_ := Lib.hid hB; have HZ_ := Lib.hid hz2
  clear hA hS hB hz2
  obtain ⟨⟨n0, e0⟩, hn, h⟩ := Option.bind_eq_some_iff.mp H.out
  refine (text_Number.calls (a0.extract 12 16) n0 e0 _ (HG.out.below HB_.out) hn).mono ?_
  rintro e_ w1 ⟨rfl, hb⟩
  have hA := blk_below HA_.out hb; have hS := blk_below HS_.out hb; have hB := HB_.out.trans (hb.mono (by have := HZ_.out; omega)); have hz2 := Nat.le_trans HZ_.out hb.size
  clear HA_ HS_ HB_ HZ_ hb hn H
  dsimp only at h
  by_cases he : e0 = 0
  case neg =>
    rw [if_neg he] at h
    obtain ⟨rfl, rfl⟩ := Prod.mk.inj (Option.some.inj h)
    have hen : (e0 != 0) = true := bne_iff_ne.2 he
    have HB_ := Lib.hid hB
    clear h he hA hS hB hz2
    go_wp2_with fail
    go_ret2
    exact ⟨rfl, HB_.out⟩
  rw [if_pos he] at h
  have H := Aside0.mk h
  have hen : (e0 != 0) = false := by rw [he]; rfl
  clear h he
  have hf : w1.frozen? ⟨w.heap.size, 0, none⟩ = false := blk_frozen hA 0
  have hl : w1.cell? ⟨w.heap.size, 0, none⟩ = some (.int .i64 0) := (blk_cell hA 0).trans rfl
  have hA : (w1.setCell ⟨w.heap.size, 0, none⟩ (.int .i64 n0)).heap[w.heap.size]? = some (.cells #[.int .i64 n0, .int .i64 0, .int .i64 0, .int .i64 0, .int .i64 0] 74) := blk_set hA 0 (.int .i64 n0)
  have hS : (w1.setCell ⟨w.heap.size, 0, none⟩ (.int .i64 n0)).heap[w.heap.size + 1]? = some (.cells #[.string (a0.extract 12 16), .string (a0.extract 5 7), .string (a0.extract 17 19), .string (a0.extract 20 22), .string (a0.extract 23 25)] 9) := blk_far hS (by simp) _
  have hB : Below w.heap.size w (w1.setCell ⟨w.heap.size, 0, none⟩ (.int .i64 n0)) := hB.setCell (by simp) _
  have hz2 : w.heap.size + 2 ≤ (w1.setCell ⟨w.heap.size, 0, none⟩ (.int .i64 n0)).heap.size := by simpa using hz2
  have HA_ := Lib.hid hA; have HS_ := Lib.hid hS; have HB_ := Lib.hid hB; have HZ_ := Lib.hid hz2
  clear hA hS hB hz2
  have hc : (w1.setCell ⟨w.heap.size, 0, none⟩ (.int .i64 n0)).cell? ⟨w.heap.size + 1, 1, none⟩ = some (.string (a0.extract 5 7)) := (blk_cell HS_.out 1).trans rfl
  go_wp2_with fail
  have hA := HA_.out; have hS := HS_.out; have hB := HB_.out; have hz2 := HZ_.out
  clear HA_ HS_ HB_ HZ_ hf hl hc
  rw [rounds_succ]
  have hc : (w1.setCell ⟨w.heap.size, 0, none⟩ (.int .i64 n0)).cell? ⟨w.heap.size + 1, 1, none⟩ = some (.string (a0.extract 5 7)) := (blk_cell hS 1).trans rfl
  have HA_ := Lib.hid hA; have HS_ := Lib.hid hS; have HB_ := Lib.hid hB; have HZ_ := Lib.hid hz2
  clear hA hS hB hz2
  go_wp2_with fail
  have hA := HA_.out; have hS := HS_.out; have hB := HB_.out; have hz2 := HZ_.out
  clear HA_ HS_ HB_ HZ_ hc
  have HA_ := Lib.hid hA; have HS_ := Lib.hid hS; have HB_ := Lib.hid hB; have HZ_ := Lib.hid hz2
  clear hA hS hB hz2
  obtain ⟨⟨n1, e1⟩, hn, h⟩ := Option.bind_eq_some_iff.mp H.out
  refine (text_Number.calls (a0.extract 5 7) n1 e1 _ (HG.out.below HB_.out) hn).mono ?_
  rintro e_ w2 ⟨rfl, hb⟩
  have hA := blk_below HA_.out hb; have hS := blk_below HS_.out hb; have hB := HB_.out.trans (hb.mono (by have := HZ_.out; omega)); have hz2 := Nat.le_trans HZ_.out hb.size
  clear HA_ HS_ HB_ HZ_ hb hn H
  dsimp only at h
  by_cases he : e1 = 0
  case neg =>
    rw [if_neg he] at h
    obtain ⟨rfl, rfl⟩ := Prod.mk.inj (Option.some.inj h)
    have hen : (e1 != 0) = true := bne_iff_ne.2 he
    have HB_ := Lib.hid hB
    clear h he hA hS hB hz2
    go_wp2_with fail
    go_ret2
    exact ⟨rfl, HB_.out⟩
  rw [if_pos he] at h
  have H := Aside0.mk h
  have hen : (e1 != 0) = false := by rw [he]; rfl
  clear h he
  have hf : w2.frozen? ⟨w.heap.size, 1, none⟩ = false := blk_frozen hA 1
  have hl : w2.cell? ⟨w.heap.size, 1, none⟩ = some (.int .i64 0) := (blk_cell hA 1).trans rfl
  have hA : (w2.setCell ⟨w.heap.size, 1, none⟩ (.int .i64 n1)).heap[w.heap.size]? = some (.cells #[.int .i64 n0, .int .i64 n1, .int .i64 0, .int .i64 0, .int .i64 0] 74) := blk_set hA 1 (.int .i64 n1)
  have hS : (w2.setCell ⟨w.heap.size, 1, none⟩ (.int .i64 n1)).heap[w.heap.size + 1]? = some (.cells #[.string (a0.extract 12 16), .string (a0.extract 5 7), .string (a0.extract 17 19), .string (a0.extract 20 22), .string (a0.extract 23 25)] 9) := blk_far hS (by simp) _
  have hB : Below w.heap.size w (w2.setCell ⟨w.heap.size, 1, none⟩ (.int .i64 n1)) := hB.setCell (by simp) _
  have hz2 : w.heap.size + 2 ≤ (w2.setCell ⟨w.heap.size, 1, none⟩ (.int .i64 n1)).heap.size := by simpa using hz2
  have HA_ := Lib.hid hA; have HS_ := Lib.hid hS; have HB_ := Lib.hid hB; have HZ_ := Lib.hid hz2
  clear hA hS hB hz2
  have hc : (w2.setCell ⟨w.heap.size, 1, none⟩ (.int .i64 n1)).cell? ⟨w.heap.size + 1, 2, none⟩ = some (.string (a0.extract 17 19)) := (blk_cell HS_.out 2).trans rfl
  go_wp2_with fail
  have hA := HA_.out; have hS := HS_.out; have hB := HB_.out; have hz2 := HZ_.out
  clear HA_ HS_ HB_ HZ_ hf hl hc
  rw [rounds_succ]
  have hc : (w2.setCell ⟨w.heap.size, 1, none⟩ (.int .i64 n1)).cell? ⟨w.heap.size + 1, 2, none⟩ = some (.string (a0.extract 17 19)) := (blk_cell hS 2).trans rfl
  have HA_ := Lib.hid hA; have HS_ := Lib.hid hS; have HB_ := Lib.hid hB; have HZ_ := Lib.hid hz2
  clear hA hS hB hz2
  go_wp2_with fail
  have hA := HA_.out; have hS := HS_.out; have hB := HB_.out; have hz2 := HZ_.out
  clear HA_ HS_ HB_ HZ_ hc
  have HA_ := Lib.hid hA; have HS_ := Lib.hid hS; have HB_ := Lib.hid hB; have HZ_ := Lib.hid hz2
  clear hA hS hB hz2
  obtain ⟨⟨n2, e2⟩, hn, h⟩ := Option.bind_eq_some_iff.mp H.out
  refine (text_Number.calls (a0.extract 17 19) n2 e2 _ (HG.out.below HB_.out) hn).mono ?_
  rintro e_ w3 ⟨rfl, hb⟩
  have hA := blk_below HA_.out hb; have hS := blk_below HS_.out hb; have hB := HB_.out.trans (hb.mono (by have := HZ_.out; omega)); have hz2 := Nat.le_trans HZ_.out hb.size
  clear HA_ HS_ HB_ HZ_ hb hn H
  dsimp only at h
  by_cases he : e2 = 0
  case neg =>
    rw [if_neg he] at h
    obtain ⟨rfl, rfl⟩ := Prod.mk.inj (Option.some.inj h)
    have hen : (e2 != 0) = true := bne_iff_ne.2 he
    have HB_ := Lib.hid hB
    clear h he hA hS hB hz2
    go_wp2_with fail
    go_ret2
    exact ⟨rfl, HB_.out⟩
  rw [if_pos he] at h
  have H := Aside0.mk h
  have hen : (e2 != 0) = false := by rw [he]; rfl
  clear h he
  have hf : w3.frozen? ⟨w.heap.size, 2, none⟩ = false := blk_frozen hA 2
  have hl : w3.cell? ⟨w.heap.size, 2, none⟩ = some (.int .i64 0) := (blk_cell hA 2).trans rfl
  have hA : (w3.setCell ⟨w.heap.size, 2, none⟩ (.int .i64 n2)).heap[w.heap.size]? = some (.cells #[.int .i64 n0, .int .i64 n1, .int .i64 n2, .int .i64 0, .int .i64 0] 74) := blk_set hA 2 (.int .i64 n2)
  have hS : (w3.setCell ⟨w.heap.size, 2, none⟩ (.int .i64 n2)).heap[w.heap.size + 1]? = some (.cells #[.string (a0.extract 12 16), .string (a0.extract 5 7), .string (a0.extract 17 19), .string (a0.extract 20 22), .string (a0.extract 23 25)] 9) := blk_far hS (by simp) _
  have hB : Below w.heap.size w (w3.setCell ⟨w.heap.size, 2, none⟩ (.int .i64 n2)) := hB.setCell (by simp) _
  have hz2 : w.heap.size + 2 ≤ (w3.setCell ⟨w.heap.size, 2, none⟩ (.int .i64 n2)).heap.size := by simpa using hz2
  have HA_ := Lib.hid hA; have HS_ := Lib.hid hS; have HB_ := Lib.hid hB; have HZ_ := Lib.hid hz2
  clear hA hS hB hz2
  have hc : (w3.setCell ⟨w.heap.size, 2, none⟩ (.int .i64 n2)).cell? ⟨w.heap.size + 1, 3, none⟩ = some (.string (a0.extract 20 22)) := (blk_cell HS_.out 3).trans rfl
  go_wp2_with fail
  have hA := HA_.out; have hS := HS_.out; have hB := HB_.out; have hz2 := HZ_.out
  clear HA_ HS_ HB_ HZ_ hf hl hc
  rw [rounds_succ]
  have hc : (w3.setCell ⟨w.heap.size, 2, none⟩ (.int .i64 n2)).cell? ⟨w.heap.size + 1, 3, none⟩ = some (.string (a0.extract 20 22)) := (blk_cell hS 3).trans rfl
  have HA_ := Lib.hid hA; have HS_ := Lib.hid hS; have HB_ := Lib.hid hB; have HZ_ := Lib.hid hz2
  clear hA hS hB hz2
  go_wp2_with fail
  have hA := HA_.out; have hS := HS_.out; have hB := HB_.out; have hz2 := HZ_.out
  clear HA_ HS_ HB_ HZ_ hc
  have HA_ := Lib.hid hA; have HS_ := Lib.hid hS; have HB_ := Lib.hid hB; have HZ_ := Lib.hid hz2
  clear hA hS hB hz2
  obtain ⟨⟨n3, e3⟩, hn, h⟩ := Option.bind_eq_some_iff.mp H.out
  refine (text_Number.calls (a0.extract 20 22) n3 e3 _ (HG.out.below HB_.out) hn).mono ?_
  rintro e_ w4 ⟨rfl, hb⟩
  have hA := blk_below HA_.out hb; have hS := blk_below HS_.out hb; have hB := HB_.out.trans (hb.mono (by have := HZ_.out; omega)); have hz2 := Nat.le_trans HZ_.out hb.size
  clear HA_ HS_ HB_ HZ_ hb hn H
  dsimp only at h
  by_cases he : e3 = 0
  case neg =>
    rw [if_neg he] at h
    obtain ⟨rfl, rfl⟩ := Prod.mk.inj (Option.some.inj h)
    have hen : (e3 != 0) = true := bne_iff_ne.2 he
    have HB_ := Lib.hid hB
    clear h he hA hS hB hz2
    go_wp2_with fail
    go_ret2
    exact ⟨rfl, HB_.out⟩
  rw [if_pos he] at h
  have H := Aside0.mk h
  have hen : (e3 != 0) = false := by rw [he]; rfl
  clear h he
  have hf : w4.frozen? ⟨w.heap.size, 3, none⟩ = false := blk_frozen hA 3
  have hl : w4.cell? ⟨w.heap.size, 3, none⟩ = some (.int .i64 0) := (blk_cell hA 3).trans rfl
  have hA : (w4.setCell ⟨w.heap.size, 3, none⟩ (.int .i64 n3)).heap[w.heap.size]? = some (.cells #[.int .i64 n0, .int .i64 n1, .int .i64 n2, .int .i64 n3, .int .i64 0] 74) := blk_set hA 3 (.int .i64 n3)
  have hS : (w4.setCell ⟨w.heap.size, 3, none⟩ (.int .i64 n3)).heap[w.heap.size + 1]? = some (.cells #[.string (a0.extract 12 16), .string (a0.extract 5 7), .string (a0.extract 17 19), .string (a0.extract 20 22), .string (a0.extract 23 25)] 9) := blk_far hS (by simp) _
  have hB : Below w.heap.size w (w4.setCell ⟨w.heap.size, 3, none⟩ (.int .i64 n3)) := hB.setCell (by simp) _
  have hz2 : w.heap.size + 2 ≤ (w4.setCell ⟨w.heap.size, 3, none⟩ (.int .i64 n3)).heap.size := by simpa using hz2
  have HA_ := Lib.hid hA; have HS_ := Lib.hid hS; have HB_ := Lib.hid hB; have HZ_ := Lib.hid hz2
  clear hA hS hB hz2
  have hc : (w4.setCell ⟨w.heap.size, 3, none⟩ (.int .i64 n3)).cell? ⟨w.heap.size + 1, 4, none⟩ = some (.string (a0.extract 23 25)) := (blk_cell HS_.out 4).trans rfl
  go_wp2_with fail
  have hA := HA_.out; have hS := HS_.out; have hB := HB_.out; have hz2 := HZ_.out
  clear HA_ HS_ HB_ HZ_ hf hl hc
  rw [rounds_succ]
  have hc : (w4.setCell ⟨w.heap.size, 3, none⟩ (.int .i64 n3)).cell? ⟨w.heap.size + 1, 4, none⟩ = some (.string (a0.extract 23 25)) := (blk_cell hS 4).trans rfl
  have HA_ := Lib.hid hA; have HS_ := Lib.hid hS; have HB_ := Lib.hid hB; have HZ_ := Lib.hid hz2
  clear hA hS hB hz2
  go_wp2_with fail
  have hA := HA_.out; have hS := HS_.out; have hB := HB_.out; have hz2 := HZ_.out
  clear HA_ HS_ HB_ HZ_ hc
  have HA_ := Lib.hid hA; have HS_ := Lib.hid hS; have HB_ := Lib.hid hB; have HZ_ := Lib.hid hz2
  clear hA hS hB hz2
  obtain ⟨⟨n4, e4⟩, hn, h⟩ := Option.bind_eq_some_iff.mp H.out
  refine (text_Number.calls (a0.extract 23 25) n4 e4 _ (HG.out.below HB_.out) hn).mono ?_
  rintro e_ w5 ⟨rfl, hb⟩
  have hA := blk_below HA_.out hb; have hS := blk_below HS_.out hb; have hB := HB_.out.trans (hb.mono (by have := HZ_.out; omega)); have hz2 := Nat.le_trans HZ_.out hb.size
  clear HA_ HS_ HB_ HZ_ hb hn H
  dsimp only at h
  by_cases he : e4 = 0
  case neg =>
    rw [if_neg he] at h
    obtain ⟨rfl, rfl⟩ := Prod.mk.inj (Option.some.inj h)
    have hen : (e4 != 0) = true := bne_iff_ne.2 he
    have HB_ := Lib.hid hB
    clear h he hA hS hB hz2
    go_wp2_with fail
    go_ret2
    exact ⟨rfl, HB_.out⟩
  rw [if_pos he] at h
  have H := Aside0.mk h
  have hen : (e4 != 0) = false := by rw [he]; rfl
  clear h he
  have hf : w5.frozen? ⟨w.heap.size, 4, none⟩ = false := blk_frozen hA 4
  have hl : w5.cell? ⟨w.heap.size, 4, none⟩ = some (.int .i64 0) := (blk_cell hA 4).trans rfl
  have hA : (w5.setCell ⟨w.heap.size, 4, none⟩ (.int .i64 n4)).heap[w.heap.size]? = some (.cells #[.int .i64 n0, .int .i64 n1, .int .i64 n2, .int .i64 n3, .int .i64 n4] 74) := blk_set hA 4 (.int .i64 n4)
  have hS : (w5.setCell ⟨w.heap.size, 4, none⟩ (.int .i64 n4)).heap[w.heap.size + 1]? = some (.cells #[.string (a0.extract 12 16), .string (a0.extract 5 7), .string (a0.extract 17 19), .string (a0.extract 20 22), .string (a0.extract 23 25)] 9) := blk_far hS (by simp) _
  have hB : Below w.heap.size w (w5.setCell ⟨w.heap.size, 4, none⟩ (.int .i64 n4)) := hB.setCell (by simp) _
  have hz2 : w.heap.size + 2 ≤ (w5.setCell ⟨w.heap.size, 4, none⟩ (.int .i64 n4)).heap.size := by simpa using hz2
  have HA_ := Lib.hid hA; have HS_ := Lib.hid hS; have HB_ := Lib.hid hB; have HZ_ := Lib.hid hz2
  clear hA hS hB hz2
  go_wp2_with fail
  have hA := HA_.out; have hS := HS_.out; have hB := HB_.out; have hz2 := HZ_.out
  clear HA_ HS_ HB_ HZ_ hf hl
  rw [rounds_succ]
  unfold date_Parse.tail at H
  obtain ⟨mo, hmo, h⟩ := Option.bind_eq_some_iff.mp H.out
  have HG5 := Lib.hid (HG.out.below hB)
  have HA_ := Lib.hid hA; have HS_ := Lib.hid hS; have HB_ := Lib.hid hB; have HZ_ := Lib.hid hz2
  have Hm := Lib.hid hmo; have Hh := Lib.hid h
  clear hA hS hB hz2 hmo h H
  go_wp2_with fail
  refine (strings_Index.calls monthsB (a0.extract 8 11) mo _ HG5.out Hm.out).mono ?_
  rintro e_ w6 ⟨rfl, ⟨nd, rfl⟩⟩
  have hl0 : ((w5.setCell ⟨w.heap.size, 4, none⟩ (.int .i64 n4)).drewN nd).cell? ⟨w.heap.size, 0, none⟩ = some (.int .i64 n0) := (blk_cell (blk_drewN HA_.out nd) 0).trans rfl
  have h := Hh.out
  by_cases hm0 : mo < 0
  case pos =>
    rw [if_pos hm0] at h
    have hmb : decide (mo < 0) = true := decide_eq_true hm0
    obtain ⟨rfl, rfl⟩ := Prod.mk.inj (Option.some.inj h)
    clear h Hh
    go_wp2_with fail
    go_ret2
    exact ⟨rfl, pw_below_drewN HB_.out _⟩
  rw [if_neg hm0] at h
  have hmb : decide (mo < 0) = false := decide_eq_false hm0
  have hm1 : 0 ≤ mo := by omega
  have hq : Int.tmod mo 3 = mo % 3 := Int.tmod_eq_emod_of_nonneg hm1
  rw [hq] at h
  clear hq hm0
  by_cases hm3 : mo % 3 = 0
  case neg =>
    rw [if_neg hm3] at h
    have hmc : (mo % 3 != 0) = true := bne_iff_ne.2 hm3
    clear hm3
    obtain ⟨rfl, rfl⟩ := Prod.mk.inj (Option.some.inj h)
    clear h Hh
    go_wp2_with fail
    go_ret2
    exact ⟨rfl, pw_below_drewN HB_.out _⟩
  rw [if_pos hm3] at h
  have hmc : (mo % 3 != 0) = false := by rw [hm3]; rfl
  clear hm3
  by_cases hy : n0 < 1970
  case pos =>
    rw [if_pos hy] at h
    have hyb : decide (n0 < 1970) = true := decide_eq_true hy
    clear hy
    obtain ⟨rfl, rfl⟩ := Prod.mk.inj (Option.some.inj h)
    clear h Hh
    go_wp2_with fail
    go_ret2
    exact ⟨rfl, pw_below_drewN HB_.out _⟩
  rw [if_neg hy] at h
  have hyb : decide (n0 < 1970) = false := decide_eq_false hy
  clear hy
  obtain ⟨u, hu, h⟩ := Option.bind_eq_some_iff.mp h
  obtain ⟨lp, hlp, h⟩ := Option.bind_eq_some_iff.mp h
  obtain ⟨ah, hah, h⟩ := Option.bind_eq_some_iff.mp h
  obtain ⟨⟨bs, be⟩, hbt, h⟩ := Option.bind_eq_some_iff.mp h
  rw [← i64_w] at hah
  have Hu := Lib.hid hu; have Hlp := Lib.hid hlp; have Hah := Lib.hid hah; have Hbt := Lib.hid hbt; have Hfin := Lib.hid h
  clear Hh hu hlp hah hbt h
  have hS0 : date_Parse.S w (#[.int .i64 n0, .int .i64 n1, .int .i64 n2, .int .i64 n3, .int .i64 n4]) ((w5.setCell ⟨w.heap.size, 4, none⟩ (.int .i64 n4)).drewN nd) := ⟨blk_drewN HA_.out nd, pw_below_drewN HB_.out nd, HZ_.out⟩
  have hl1 : ((w5.setCell ⟨w.heap.size, 4, none⟩ (.int .i64 n4)).drewN nd).cell? ⟨w.heap.size, 1, none⟩ = some (.int .i64 n1) := (blk_cell (blk_drewN HA_.out nd) 1).trans rfl
  clear HA_ HS_ HB_ HZ_ Hm HG5
  go_wp2_with fail
  obtain ⟨W, hW⟩ : ∃ W : World, W = (w5.setCell ⟨w.heap.size, 4, none⟩ (.int .i64 n4)).drewN nd := ⟨_, rfl⟩
  rw [← hW] at hS0 hl1 ⊢
  clear hW hl0 hmb hmc hyb
  go_region_held3 (fun w' => w'.cell? ⟨w.heap.size, 1, none⟩ = some (.int .i64 n1) ∧ date_Parse.S w (#[.int .i64 n0, .int .i64 n1, .int .i64 n2, .int .i64 n3, .int .i64 n4]) w') (first | exact ⟨hl1, hS0.1, below_drew hS0.2.1, hS0.2.2⟩ | exact date_Parse.keep0 (by assumption) _ | exact date_Parse.keep1 (by assumption) (by assumption) | exact date_Parse.keep0 ⟨by assumption, by assumption⟩ _ | exact date_Parse.keep1 ⟨by assumption, by assumption⟩ (by assumption)) (first | (go_at_call 46; (with_reducible refine (date_until.calls n0 u _ Hu.out).mono ?_); rintro e_ w6 ⟨rfl, ⟨nd1, rfl⟩⟩) | (go_at_call 48; (with_reducible refine (date_leap.calls n0 lp _ Hlp.out).mono ?_); rintro e_ w7 ⟨rfl, ⟨nd2, rfl⟩⟩) | (go_at_call 47; (with_reducible refine (date_ahead.calls (IntKind.i64.wrap (Int.tdiv mo 3)) lp ah _ Hah.out).mono ?_); rintro e_ w8 ⟨rfl, hb8⟩))
  have hS8 : date_Parse.S w (#[.int .i64 n0, .int .i64 n1, .int .i64 n2, .int .i64 n3, .int .i64 n4]) w8 := (show w8.cell? ⟨w.heap.size, 1, none⟩ = some (.int .i64 n1) ∧ date_Parse.S w (#[.int .i64 n0, .int .i64 n1, .int .i64 n2, .int .i64 n3, .int .i64 n4]) w8 by assumption).2
  have hc2 : w8.cell? ⟨w.heap.size, 2, none⟩ = some (.int .i64 n2) := (blk_cell hS8.1 2).trans rfl
  have hc3 : w8.cell? ⟨w.heap.size, 3, none⟩ = some (.int .i64 n3) := (blk_cell hS8.1 3).trans rfl
  have hc4 : w8.cell? ⟨w.heap.size, 4, none⟩ = some (.int .i64 n4) := (blk_cell hS8.1 4).trans rfl
  have HS8 := Lib.hid hS8
  clear hS8
  simp only [i64_w]
  go_wp2_with fail
  have hG8 : GI w8 := HG.out.below HS8.out.2.1
  have hbt := Hbt.out; unfold date_secOf at hbt
  with_reducible refine (date_Format.calls k _ bs be _ hG8 hbt).mono ?_
  rintro e_ w9 ⟨rfl, hb9⟩
  have hfin := Hfin.out
  have hB9 : Below w.heap.size w w9 := HS8.out.2.1.trans (hb9.mono (by have := HS8.out.2.2; omega))
  have HB9 := Lib.hid hB9
  clear hbt hb9 hG8 HS8 hB9 hc2 hc3 hc4
  by_cases hbe : be = 0
  case neg =>
    try dsimp only at hfin
    rw [if_neg hbe] at hfin
    obtain ⟨rfl, rfl⟩ := Prod.mk.inj (Option.some.inj hfin)
    have hbc : (be != 0) = true := bne_iff_ne.2 hbe
    clear hfin hbe Hfin Hbt
    go_wp2_with fail
    go_ret2
    exact ⟨rfl, HB9.out⟩
  try dsimp only at hfin
  rw [if_pos hbe] at hfin
  have hbc : (be != 0) = false := by rw [hbe]; rfl
  by_cases hbs : bs.toList = a0.toList
  case neg =>
    rw [if_neg hbs] at hfin
    obtain ⟨rfl, rfl⟩ := Prod.mk.inj (Option.some.inj hfin)
    have hbd : (bs.toList == a0.toList) = false := beq_eq_false_iff_ne.2 hbs
    have hbn : (bs.toList != a0.toList) = true := bne_iff_ne.2 hbs
    clear hfin hbe hbs Hfin Hbt
    go_wp2_with fail
    go_ret2
    exact ⟨rfl, HB9.out⟩
  rw [if_pos hbs] at hfin
  obtain ⟨rfl, rfl⟩ := Prod.mk.inj (Option.some.inj hfin)
  have hbd : (bs.toList == a0.toList) = true := beq_iff_eq.2 hbs
  have hbn : (bs.toList != a0.toList) = false := by rw [hbs]; simp
  clear hfin hbe hbs Hfin Hbt
  go_wp2_with fail
  go_ret2
  exact ⟨by simp only [date_secOf]; rfl, HB9.out⟩

end Go.Proofs.YtlbnnmdjmikedaaGreatDoor.PP
