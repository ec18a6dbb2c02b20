-- Written by a program of this session (a changed copy of the kit's print) out of the translation. Not trusted: Lean checks it.
import Derived.Test.YtciibddoejhmlaaGreatDoorPPx0
import Derived.Test.YtciibddoejhmlaaGreatDoorPPx15
import Derived.Test.YtciibddoejhmlaaGreatDoorPPxEstringsBuilderWriteString
import Derived.Test.YtciibddoejhmlaaGreatDoorPPxEstringsBuilderWriteString
import Derived.LoopN
import Derived.Handy
import Derived.LoopTactic
import Derived.Deep.RegionLaw
import Derived.Deep.RegionHeld3
namespace Go.Proofs.YtciibddoejhmlaaGreatDoor.PP
open Go.RowKit Go.Proofs.YtciibddoejhmlaaGreatDoorW.PrintWords Go.Proofs.YtciibddoejhmlaaGreatDoorW.PrintLast Go.Proofs.YtciibddoejhmlaaGreatDoorW.PrintMore
attribute [local go_sem] max2_int min2_int max_two min_two max_three min_three max_four min_four   -- for this text's walks alone
set_option linter.unusedVariables false
set_option linter.unusedSimpArgs false

/-! ### ranges_Parts: function 20 (an extern) -/
def dashB : ByteArray := ⟨#[45, 45]⟩
def crlfB : ByteArray := ⟨#[13, 10]⟩
def crlf2B : ByteArray := ⟨#[13, 10, 13, 10]⟩
def ctB : ByteArray := ⟨#[13, 10, 67, 111, 110, 116, 101, 110, 116, 45, 84, 121, 112, 101, 58, 32]⟩
def crB : ByteArray := ⟨#[13, 10, 67, 111, 110, 116, 101, 110, 116, 45, 82, 97, 110, 103, 101, 58, 32]⟩
/-- One range's piece of the body. -/
def ranges_Parts.piece (body kind line : ByteArray) (r : S23) (t : ByteArray) : List UInt8 :=
  dashB.data.toList ++ line.data.toList ++ ctB.data.toList ++ kind.data.toList ++ crB.data.toList ++ t.data.toList ++ crlf2B.data.toList ++ (body.extract r.f0.toNat (r.f1 + 1).toNat).data.toList ++ crlfB.data.toList
/-- The pieces of all ranges, acc standing ahead; 'some none': a range that may not be. -/
def ranges_Parts.go (body kind line : ByteArray) : List S23 → List UInt8 → Option (Option (List UInt8))
  | [], acc => some (some acc)
  | r :: l, acc => if r.f0 < 0 then some none else (if r.f1 < r.f0 then some none else (if r.f1 ≥ (body.size : Int) then some none else
      ((ranges_Told.f r.f0 r.f1 (body.size : Int)).bind fun t => if (acc ++ ranges_Parts.piece body kind line r t).length ≤ 140737488355328 then ranges_Parts.go body kind line l (acc ++ ranges_Parts.piece body kind line r t) else none)))
def ranges_Parts.f (a0 a1 a2 : ByteArray) (a3 : List S23) : Option (ByteArray × Int) :=
  if a0.size ≤ 140737488355328 then (if a3.length ≤ 140737488355328 then ((ranges_Parts.go a0 a1 a2 a3 []).bind fun o => match o with
    | none => some (⟨#[]⟩, 1)
    | some acc => if a3 = [] then some (⟨#[]⟩, 1) else (if acc.length + 2 + a2.size + 4 ≤ 140737488355328 then some ((⟨acc.toArray⟩ : ByteArray) ++ (⟨#[45, 45]⟩ : ByteArray) ++ a2 ++ (⟨#[45, 45, 13, 10]⟩ : ByteArray), 0) else none)) else none) else none
/-- What holds at the head of each round. -/
structure ranges_Parts.Inv (a0 a1 a2 : ByteArray) (l3 : List S23) (o : Option (List UInt8)) (w : World) (kq i : Nat) (acc : List UInt8) (wr : World) : Prop where
  len : i + kq = l3.length
  bld : bldIs w.heap.size w.heap.size (Lib.byteCells acc) wr
  below : Below w.heap.size w wr
  size : w.heap.size + 1 ≤ wr.heap.size
  go : ranges_Parts.go a0 a1 a2 (l3.drop i) acc = some o
  ne : acc = [] → i = 0
theorem ranges_Parts.keepP {W1 W W2 : World} {g : Nat} {f t : Int} (h : W.cell? ⟨g, 0, none⟩ = some (.int .i64 f) ∧ W.cell? ⟨g, 1, none⟩ = some (.int .i64 t) ∧ Below W1.heap.size W1 W) (hb : Below W.heap.size W W2) :
    W2.cell? ⟨g, 0, none⟩ = some (.int .i64 f) ∧ W2.cell? ⟨g, 1, none⟩ = some (.int .i64 t) ∧ Below W1.heap.size W1 W2 := ⟨pw_cell_below hb h.1, pw_cell_below hb h.2.1, h.2.2.trans (hb.mono h.2.2.size)⟩
set_option maxHeartbeats 8000000 in
set_option maxRecDepth 100000 in
theorem ranges_Parts.calls (a0 : ByteArray) (a1 : ByteArray) (a2 : ByteArray) (A3 : Option Addr) (c3 : Nat) (l3 : List (S23)) (r1 : ByteArray) (r2 : Int) (w : World) (hG : GI w) (hr3 : Kd.C k23 w A3 l3.length l3) (hc3 : l3.length ≤ c3) (h : ranges_Parts.f a0 a1 a2 l3 = some (r1, r2)) :
    Calls Tryz.prog 20 #[.string a0, .string a1, .string a2, .slice A3 l3.length c3] w fun e w' => e = .returned (.tuple #[.string r1, .int .i64 r2]) ∧ Below w.heap.size w w' := by
  unfold ranges_Parts.f at h
  by_cases hs0 : a0.size ≤ 140737488355328
  case neg => rw [if_neg hs0] at h; cases h
  rw [if_pos hs0] at h
  by_cases hs3 : l3.length ≤ 140737488355328
  case neg => rw [if_neg hs3] at h; cases h
  rw [if_pos hs3] at h
  obtain ⟨o, ho, h⟩ := Option.bind_eq_some_iff.mp h
  have HR := Lib.hid hr3
  have HG := Lib.hid hG
  have HO := Aside0.mk ho
  have HF := Aside0.mk h
  clear hr3 hG ho h hc3
  have hb0 := bld_new w
  have HB0 := Lib.hid hb0
  clear hb0
  go_enter Tryz.func20, Tryz.ntmps20
  go_wp2
  go_loopg [17] l3.length (fun kq v17 wr => ∃ (i : Nat) (acc : List UInt8), v17 = .int .i64 i ∧ ranges_Parts.Inv a0 a1 a2 l3 o w kq i acc wr)
  case atStart => exact ⟨0, [], rfl, ⟨by omega, HB0.out, (Below.refl _ _).alloc (Nat.le_refl _) _, by simp, HO.out, fun h => rfl⟩⟩
  case round =>
    clear HO HB0
    obtain ⟨i, acc, rfl, HI⟩ := hrel
    have hik := HI.len
    by_cases hlt : i < l3.length
    · obtain ⟨k1, rfl⟩ : ∃ k1, gk = k1 + 1 := ⟨gk - 1, by omega⟩
      have p0 : (0 : Int) ≤ (i : Int) := by omega
      have p1 : (i : Int) < (l3.length : Int) := by omega
      obtain ⟨ad, rfl, x0, x1⟩ := at_T23 (Kd.C_below HR.out HI.below) (i : Int) p0 p1
      rw [Int.toNat_natCast] at x0 x1
      have hd : l3.drop i = rd_T23 l3 i :: l3.drop (i + 1) := by
        rw [List.drop_eq_getElem_cons hlt]; simp [rd_T23, List.getD, List.getElem?_eq_getElem hlt]
      have hgo := HI.go
      rw [hd, ranges_Parts.go] at hgo
      generalize rd_T23 l3 (i : Int) = r at x0 x1 hgo
      obtain ⟨f, t⟩ := r
      dsimp only at x0 x1 hgo
      clear hd
      have HI' := Lib.hid HI
      clear HI hik
      by_cases q0 : f < 0
      case pos =>
        rw [if_pos q0] at hgo
        obtain rfl := Option.some.inj hgo
        have e := HF.out
        obtain ⟨rfl, rfl⟩ := Prod.mk.inj (Option.some.inj e)
        have q0b : decide (f < 0) = true := decide_eq_true (by omega)
        clear hgo e HF q0
        go_wp2
        go_ret2
        exact ⟨rfl, HI'.out.below.alloc HI'.out.below.size _⟩
      rw [if_neg q0] at hgo
      have q0b : decide (f < 0) = false := decide_eq_false (by omega)
      by_cases q1 : t < f
      case pos =>
        rw [if_pos q1] at hgo
        obtain rfl := Option.some.inj hgo
        have e := HF.out
        obtain ⟨rfl, rfl⟩ := Prod.mk.inj (Option.some.inj e)
        have q1b : decide (t < f) = true := decide_eq_true (by omega)
        clear hgo e HF q1
        go_wp2
        go_ret2
        exact ⟨rfl, HI'.out.below.alloc HI'.out.below.size _⟩
      rw [if_neg q1] at hgo
      have q1b : decide (t < f) = false := decide_eq_false (by omega)
      by_cases q2 : t ≥ (a0.size : Int)
      case pos =>
        rw [if_pos q2] at hgo
        obtain rfl := Option.some.inj hgo
        have e := HF.out
        obtain ⟨rfl, rfl⟩ := Prod.mk.inj (Option.some.inj e)
        have q2b : decide ((a0.size : Int) ≤ t) = true := decide_eq_true (by omega)
        clear hgo e HF q2
        go_wp2
        go_ret2
        exact ⟨rfl, HI'.out.below.alloc HI'.out.below.size _⟩
      rw [if_neg q2] at hgo
      have q2b : decide ((a0.size : Int) ≤ t) = false := decide_eq_false (by omega)
      obtain ⟨tt, htt, hgo⟩ := Option.bind_eq_some_iff.mp hgo
      by_cases hlen : (acc ++ ranges_Parts.piece a0 a1 a2 ⟨f, t⟩ tt).length ≤ 140737488355328
      case neg => rw [if_neg hlen] at hgo; cases hgo
      rw [if_pos hlen] at hgo
      have f0 : 0 ≤ f := by omega
      have f1 : f ≤ t + 1 := by omega
      have f2 : t + 1 ≤ (a0.size : Int) := by omega
      have f3 : 0 ≤ t + 1 := by omega
      have f4 : 0 ≤ t := by omega
      have Htt := Lib.hid htt; have Hlen := Lib.hid hlen; have Hgo := Aside0.mk hgo
      clear htt hlen hgo q0 q1 q2
      go_wp2
      have HI2 := HI'.out
      have hB1 : bldIs w.heap.size w.heap.size (Lib.byteCells acc) (wr.alloc (.cells #[.int .i64 f, .int .i64 t] 23)) := HI2.bld.alloc _
      have hb1 : Below w.heap.size w (wr.alloc (.cells #[.int .i64 f, .int .i64 t] 23)) := HI2.below.alloc HI2.below.size _
      have hs1 : wr.heap.size + 1 ≤ (wr.alloc (.cells #[.int .i64 f, .int .i64 t] 23)).heap.size := by simp
      have hs2 : w.heap.size + 1 ≤ wr.heap.size := HI2.size
      have y0 : (wr.alloc (.cells #[.int .i64 f, .int .i64 t] 23)).cell? ⟨wr.heap.size, 0, none⟩ = some (.int .i64 f) := (blk_cell (blk_new _ _) 0).trans rfl
      have y1 : (wr.alloc (.cells #[.int .i64 f, .int .i64 t] 23)).cell? ⟨wr.heap.size, 1, none⟩ = some (.int .i64 t) := (blk_cell (blk_new _ _) 1).trans rfl
      generalize wr.alloc (.cells #[.int .i64 f, .int .i64 t] 23) = W1 at hB1 hb1 hs1 y0 y1 ⊢
      clear HI2
      have hs3 : w.heap.size ≤ W1.heap.size := by omega
      have hg : IntKind.i64.wrap (t + 1) = t + 1 := IntWalk.i64_in _ (by omega)
      go_region_held3 (fun w' => w'.cell? ⟨wr.heap.size, 0, none⟩ = some (.int .i64 f) ∧ w'.cell? ⟨wr.heap.size, 1, none⟩ = some (.int .i64 t) ∧ Below W1.heap.size W1 w') (first | exact ⟨y0, y1, below_drew (Below.refl _ _)⟩ | exact ranges_Parts.keepP (by assumption) (by assumption) | exact ranges_Parts.keepP ⟨by assumption, by assumption, by assumption⟩ (by assumption)) (first | (go_at_call 7; (with_reducible refine (ranges_Told.calls f t (a0.size : Int) tt _ (HG.out.below (hb1.trans ((show Below W1.heap.size W1 _ by first | assumption | exact below_drew (Below.refl _ _)).mono hs3))) Htt.out).mono ?_); rintro e_ w2 ⟨rfl, hb2⟩))
      have hh : w2.cell? ⟨wr.heap.size, 0, none⟩ = some (.int .i64 f) ∧ w2.cell? ⟨wr.heap.size, 1, none⟩ = some (.int .i64 t) ∧ Below W1.heap.size W1 w2 := by assumption
      have hB := bld_below hB1 hh.2.2
      have hb : Below w.heap.size w w2 := hb1.trans (hh.2.2.mono hs3)
      have hs : w.heap.size + 1 ≤ w2.heap.size := by have := hh.2.2.size; omega
      clear hh hB1 hb1 hs1 y0 y1 hs3 hg x0 x1
      have HB := Lib.hid hB; have HBel := Lib.hid hb; have HS := Lib.hid hs
      clear hB hb hs
      go_wp2
      refine wp_loop_rounds 10 ?_
      rw [rounds_succ]
      have hi : ∀ w, (Instr.index 53 (.agg #[Value.string (⟨#[45, 45]⟩), Value.string (a2), Value.string (⟨#[13, 10, 67, 111, 110, 116, 101, 110, 116, 45, 84, 121, 112, 101, 58, 32]⟩), Value.string (a1), Value.string (⟨#[13, 10, 67, 111, 110, 116, 101, 110, 116, 45, 82, 97, 110, 103, 101, 58, 32]⟩), Value.string (tt), Value.string (⟨#[13, 10, 13, 10]⟩), Value.string (a0.extract f.toNat (t + 1).toNat), Value.string (⟨#[13, 10]⟩)]) (.int .i64 0)).run Tryz.prog w = .ok (.string ⟨#[45, 45]⟩) w := fun _ => by kernel_rfl
      go_wp2_with fail
      clear hi
      have hl : (acc).length + (dashB.data.toList : List UInt8).length ≤ 140737488355328 := by have h_ := Hlen.out; simp only [ranges_Parts.piece, List.length_append] at h_ ⊢; omega
      refine (bld_write' w.heap.size w.heap.size (acc) dashB _ HB.out hl (by have := HS.out; omega)).mono ?_
      rintro e_ w3 ⟨rfl, hB, hb, hk⟩
      have HB2 : Hid (bldIs w.heap.size w.heap.size (Lib.byteCells (acc ++ dashB.data.toList)) w3) := Lib.hid hB
      have HBel2 := Lib.hid (HBel.out.trans hb); have HS2 := Lib.hid (Nat.le_trans HS.out hb.size)
      clear HB HBel HS hB hb hk hl
      have HB := HB2; have HBel := HBel2; have HS := HS2
      clear HB2 HBel2 HS2
      go_wp2_with fail
      rw [rounds_succ]
      have hi : ∀ w, (Instr.index 53 (.agg #[Value.string (⟨#[45, 45]⟩), Value.string (a2), Value.string (⟨#[13, 10, 67, 111, 110, 116, 101, 110, 116, 45, 84, 121, 112, 101, 58, 32]⟩), Value.string (a1), Value.string (⟨#[13, 10, 67, 111, 110, 116, 101, 110, 116, 45, 82, 97, 110, 103, 101, 58, 32]⟩), Value.string (tt), Value.string (⟨#[13, 10, 13, 10]⟩), Value.string (a0.extract f.toNat (t + 1).toNat), Value.string (⟨#[13, 10]⟩)]) (.int .i64 1)).run Tryz.prog w = .ok (.string a2) w := fun _ => by kernel_rfl
      go_wp2_with fail
      clear hi
      have hl : (acc ++ dashB.data.toList).length + (a2.data.toList : List UInt8).length ≤ 140737488355328 := by have h_ := Hlen.out; simp only [ranges_Parts.piece, List.length_append] at h_ ⊢; omega
      refine (bld_write' w.heap.size w.heap.size (acc ++ dashB.data.toList) a2 _ HB.out hl (by have := HS.out; omega)).mono ?_
      rintro e_ w4 ⟨rfl, hB, hb, hk⟩
      have HB2 : Hid (bldIs w.heap.size w.heap.size (Lib.byteCells (acc ++ dashB.data.toList ++ a2.data.toList)) w4) := Lib.hid hB
      have HBel2 := Lib.hid (HBel.out.trans hb); have HS2 := Lib.hid (Nat.le_trans HS.out hb.size)
      clear HB HBel HS hB hb hk hl
      have HB := HB2; have HBel := HBel2; have HS := HS2
      clear HB2 HBel2 HS2
      go_wp2_with fail
      rw [rounds_succ]
      have hi : ∀ w, (Instr.index 53 (.agg #[Value.string (⟨#[45, 45]⟩), Value.string (a2), Value.string (⟨#[13, 10, 67, 111, 110, 116, 101, 110, 116, 45, 84, 121, 112, 101, 58, 32]⟩), Value.string (a1), Value.string (⟨#[13, 10, 67, 111, 110, 116, 101, 110, 116, 45, 82, 97, 110, 103, 101, 58, 32]⟩), Value.string (tt), Value.string (⟨#[13, 10, 13, 10]⟩), Value.string (a0.extract f.toNat (t + 1).toNat), Value.string (⟨#[13, 10]⟩)]) (.int .i64 2)).run Tryz.prog w = .ok (.string ⟨#[13, 10, 67, 111, 110, 116, 101, 110, 116, 45, 84, 121, 112, 101, 58, 32]⟩) w := fun _ => by kernel_rfl
      go_wp2_with fail
      clear hi
      have hl : (acc ++ dashB.data.toList ++ a2.data.toList).length + (ctB.data.toList : List UInt8).length ≤ 140737488355328 := by have h_ := Hlen.out; simp only [ranges_Parts.piece, List.length_append] at h_ ⊢; omega
      refine (bld_write' w.heap.size w.heap.size (acc ++ dashB.data.toList ++ a2.data.toList) ctB _ HB.out hl (by have := HS.out; omega)).mono ?_
      rintro e_ w5 ⟨rfl, hB, hb, hk⟩
      have HB2 : Hid (bldIs w.heap.size w.heap.size (Lib.byteCells (acc ++ dashB.data.toList ++ a2.data.toList ++ ctB.data.toList)) w5) := Lib.hid hB
      have HBel2 := Lib.hid (HBel.out.trans hb); have HS2 := Lib.hid (Nat.le_trans HS.out hb.size)
      clear HB HBel HS hB hb hk hl
      have HB := HB2; have HBel := HBel2; have HS := HS2
      clear HB2 HBel2 HS2
      go_wp2_with fail
      rw [rounds_succ]
      have hi : ∀ w, (Instr.index 53 (.agg #[Value.string (⟨#[45, 45]⟩), Value.string (a2), Value.string (⟨#[13, 10, 67, 111, 110, 116, 101, 110, 116, 45, 84, 121, 112, 101, 58, 32]⟩), Value.string (a1), Value.string (⟨#[13, 10, 67, 111, 110, 116, 101, 110, 116, 45, 82, 97, 110, 103, 101, 58, 32]⟩), Value.string (tt), Value.string (⟨#[13, 10, 13, 10]⟩), Value.string (a0.extract f.toNat (t + 1).toNat), Value.string (⟨#[13, 10]⟩)]) (.int .i64 3)).run Tryz.prog w = .ok (.string a1) w := fun _ => by kernel_rfl
      go_wp2_with fail
      clear hi
      have hl : (acc ++ dashB.data.toList ++ a2.data.toList ++ ctB.data.toList).length + (a1.data.toList : List UInt8).length ≤ 140737488355328 := by have h_ := Hlen.out; simp only [ranges_Parts.piece, List.length_append] at h_ ⊢; omega
      refine (bld_write' w.heap.size w.heap.size (acc ++ dashB.data.toList ++ a2.data.toList ++ ctB.data.toList) a1 _ HB.out hl (by have := HS.out; omega)).mono ?_
      rintro e_ w6 ⟨rfl, hB, hb, hk⟩
      have HB2 : Hid (bldIs w.heap.size w.heap.size (Lib.byteCells (acc ++ dashB.data.toList ++ a2.data.toList ++ ctB.data.toList ++ a1.data.toList)) w6) := Lib.hid hB
      have HBel2 := Lib.hid (HBel.out.trans hb); have HS2 := Lib.hid (Nat.le_trans HS.out hb.size)
      clear HB HBel HS hB hb hk hl
      have HB := HB2; have HBel := HBel2; have HS := HS2
      clear HB2 HBel2 HS2
      go_wp2_with fail
      rw [rounds_succ]
      have hi : ∀ w, (Instr.index 53 (.agg #[Value.string (⟨#[45, 45]⟩), Value.string (a2), Value.string (⟨#[13, 10, 67, 111, 110, 116, 101, 110, 116, 45, 84, 121, 112, 101, 58, 32]⟩), Value.string (a1), Value.string (⟨#[13, 10, 67, 111, 110, 116, 101, 110, 116, 45, 82, 97, 110, 103, 101, 58, 32]⟩), Value.string (tt), Value.string (⟨#[13, 10, 13, 10]⟩), Value.string (a0.extract f.toNat (t + 1).toNat), Value.string (⟨#[13, 10]⟩)]) (.int .i64 4)).run Tryz.prog w = .ok (.string ⟨#[13, 10, 67, 111, 110, 116, 101, 110, 116, 45, 82, 97, 110, 103, 101, 58, 32]⟩) w := fun _ => by kernel_rfl
      go_wp2_with fail
      clear hi
      have hl : (acc ++ dashB.data.toList ++ a2.data.toList ++ ctB.data.toList ++ a1.data.toList).length + (crB.data.toList : List UInt8).length ≤ 140737488355328 := by have h_ := Hlen.out; simp only [ranges_Parts.piece, List.length_append] at h_ ⊢; omega
      refine (bld_write' w.heap.size w.heap.size (acc ++ dashB.data.toList ++ a2.data.toList ++ ctB.data.toList ++ a1.data.toList) crB _ HB.out hl (by have := HS.out; omega)).mono ?_
      rintro e_ w7 ⟨rfl, hB, hb, hk⟩
      have HB2 : Hid (bldIs w.heap.size w.heap.size (Lib.byteCells (acc ++ dashB.data.toList ++ a2.data.toList ++ ctB.data.toList ++ a1.data.toList ++ crB.data.toList)) w7) := Lib.hid hB
      have HBel2 := Lib.hid (HBel.out.trans hb); have HS2 := Lib.hid (Nat.le_trans HS.out hb.size)
      clear HB HBel HS hB hb hk hl
      have HB := HB2; have HBel := HBel2; have HS := HS2
      clear HB2 HBel2 HS2
      go_wp2_with fail
      rw [rounds_succ]
      have hi : ∀ w, (Instr.index 53 (.agg #[Value.string (⟨#[45, 45]⟩), Value.string (a2), Value.string (⟨#[13, 10, 67, 111, 110, 116, 101, 110, 116, 45, 84, 121, 112, 101, 58, 32]⟩), Value.string (a1), Value.string (⟨#[13, 10, 67, 111, 110, 116, 101, 110, 116, 45, 82, 97, 110, 103, 101, 58, 32]⟩), Value.string (tt), Value.string (⟨#[13, 10, 13, 10]⟩), Value.string (a0.extract f.toNat (t + 1).toNat), Value.string (⟨#[13, 10]⟩)]) (.int .i64 5)).run Tryz.prog w = .ok (.string tt) w := fun _ => by kernel_rfl
      go_wp2_with fail
      clear hi
      have hl : (acc ++ dashB.data.toList ++ a2.data.toList ++ ctB.data.toList ++ a1.data.toList ++ crB.data.toList).length + (tt.data.toList : List UInt8).length ≤ 140737488355328 := by have h_ := Hlen.out; simp only [ranges_Parts.piece, List.length_append] at h_ ⊢; omega
      refine (bld_write' w.heap.size w.heap.size (acc ++ dashB.data.toList ++ a2.data.toList ++ ctB.data.toList ++ a1.data.toList ++ crB.data.toList) tt _ HB.out hl (by have := HS.out; omega)).mono ?_
      rintro e_ w8 ⟨rfl, hB, hb, hk⟩
      have HB2 : Hid (bldIs w.heap.size w.heap.size (Lib.byteCells (acc ++ dashB.data.toList ++ a2.data.toList ++ ctB.data.toList ++ a1.data.toList ++ crB.data.toList ++ tt.data.toList)) w8) := Lib.hid hB
      have HBel2 := Lib.hid (HBel.out.trans hb); have HS2 := Lib.hid (Nat.le_trans HS.out hb.size)
      clear HB HBel HS hB hb hk hl
      have HB := HB2; have HBel := HBel2; have HS := HS2
      clear HB2 HBel2 HS2
      go_wp2_with fail
      rw [rounds_succ]
      have hi : ∀ w, (Instr.index 53 (.agg #[Value.string (⟨#[45, 45]⟩), Value.string (a2), Value.string (⟨#[13, 10, 67, 111, 110, 116, 101, 110, 116, 45, 84, 121, 112, 101, 58, 32]⟩), Value.string (a1), Value.string (⟨#[13, 10, 67, 111, 110, 116, 101, 110, 116, 45, 82, 97, 110, 103, 101, 58, 32]⟩), Value.string (tt), Value.string (⟨#[13, 10, 13, 10]⟩), Value.string (a0.extract f.toNat (t + 1).toNat), Value.string (⟨#[13, 10]⟩)]) (.int .i64 6)).run Tryz.prog w = .ok (.string ⟨#[13, 10, 13, 10]⟩) w := fun _ => by kernel_rfl
      go_wp2_with fail
      clear hi
      have hl : (acc ++ dashB.data.toList ++ a2.data.toList ++ ctB.data.toList ++ a1.data.toList ++ crB.data.toList ++ tt.data.toList).length + (crlf2B.data.toList : List UInt8).length ≤ 140737488355328 := by have h_ := Hlen.out; simp only [ranges_Parts.piece, List.length_append] at h_ ⊢; omega
      refine (bld_write' w.heap.size w.heap.size (acc ++ dashB.data.toList ++ a2.data.toList ++ ctB.data.toList ++ a1.data.toList ++ crB.data.toList ++ tt.data.toList) crlf2B _ HB.out hl (by have := HS.out; omega)).mono ?_
      rintro e_ w9 ⟨rfl, hB, hb, hk⟩
      have HB2 : Hid (bldIs w.heap.size w.heap.size (Lib.byteCells (acc ++ dashB.data.toList ++ a2.data.toList ++ ctB.data.toList ++ a1.data.toList ++ crB.data.toList ++ tt.data.toList ++ crlf2B.data.toList)) w9) := Lib.hid hB
      have HBel2 := Lib.hid (HBel.out.trans hb); have HS2 := Lib.hid (Nat.le_trans HS.out hb.size)
      clear HB HBel HS hB hb hk hl
      have HB := HB2; have HBel := HBel2; have HS := HS2
      clear HB2 HBel2 HS2
      go_wp2_with fail
      rw [rounds_succ]
      have hi : ∀ w, (Instr.index 53 (.agg #[Value.string (⟨#[45, 45]⟩), Value.string (a2), Value.string (⟨#[13, 10, 67, 111, 110, 116, 101, 110, 116, 45, 84, 121, 112, 101, 58, 32]⟩), Value.string (a1), Value.string (⟨#[13, 10, 67, 111, 110, 116, 101, 110, 116, 45, 82, 97, 110, 103, 101, 58, 32]⟩), Value.string (tt), Value.string (⟨#[13, 10, 13, 10]⟩), Value.string (a0.extract f.toNat (t + 1).toNat), Value.string (⟨#[13, 10]⟩)]) (.int .i64 7)).run Tryz.prog w = .ok (.string (a0.extract f.toNat (t + 1).toNat)) w := fun _ => by kernel_rfl
      go_wp2_with fail
      clear hi
      have hl : (acc ++ dashB.data.toList ++ a2.data.toList ++ ctB.data.toList ++ a1.data.toList ++ crB.data.toList ++ tt.data.toList ++ crlf2B.data.toList).length + ((a0.extract f.toNat (t + 1).toNat).data.toList : List UInt8).length ≤ 140737488355328 := by have h_ := Hlen.out; simp only [ranges_Parts.piece, List.length_append] at h_ ⊢; omega
      refine (bld_write' w.heap.size w.heap.size (acc ++ dashB.data.toList ++ a2.data.toList ++ ctB.data.toList ++ a1.data.toList ++ crB.data.toList ++ tt.data.toList ++ crlf2B.data.toList) (a0.extract f.toNat (t + 1).toNat) _ HB.out hl (by have := HS.out; omega)).mono ?_
      rintro e_ w10 ⟨rfl, hB, hb, hk⟩
      have HB2 : Hid (bldIs w.heap.size w.heap.size (Lib.byteCells (acc ++ dashB.data.toList ++ a2.data.toList ++ ctB.data.toList ++ a1.data.toList ++ crB.data.toList ++ tt.data.toList ++ crlf2B.data.toList ++ (a0.extract f.toNat (t + 1).toNat).data.toList)) w10) := Lib.hid hB
      have HBel2 := Lib.hid (HBel.out.trans hb); have HS2 := Lib.hid (Nat.le_trans HS.out hb.size)
      clear HB HBel HS hB hb hk hl
      have HB := HB2; have HBel := HBel2; have HS := HS2
      clear HB2 HBel2 HS2
      go_wp2_with fail
      rw [rounds_succ]
      have hi : ∀ w, (Instr.index 53 (.agg #[Value.string (⟨#[45, 45]⟩), Value.string (a2), Value.string (⟨#[13, 10, 67, 111, 110, 116, 101, 110, 116, 45, 84, 121, 112, 101, 58, 32]⟩), Value.string (a1), Value.string (⟨#[13, 10, 67, 111, 110, 116, 101, 110, 116, 45, 82, 97, 110, 103, 101, 58, 32]⟩), Value.string (tt), Value.string (⟨#[13, 10, 13, 10]⟩), Value.string (a0.extract f.toNat (t + 1).toNat), Value.string (⟨#[13, 10]⟩)]) (.int .i64 8)).run Tryz.prog w = .ok (.string ⟨#[13, 10]⟩) w := fun _ => by kernel_rfl
      go_wp2_with fail
      clear hi
      have hl : (acc ++ dashB.data.toList ++ a2.data.toList ++ ctB.data.toList ++ a1.data.toList ++ crB.data.toList ++ tt.data.toList ++ crlf2B.data.toList ++ (a0.extract f.toNat (t + 1).toNat).data.toList).length + (crlfB.data.toList : List UInt8).length ≤ 140737488355328 := by have h_ := Hlen.out; simp only [ranges_Parts.piece, List.length_append] at h_ ⊢; omega
      refine (bld_write' w.heap.size w.heap.size (acc ++ dashB.data.toList ++ a2.data.toList ++ ctB.data.toList ++ a1.data.toList ++ crB.data.toList ++ tt.data.toList ++ crlf2B.data.toList ++ (a0.extract f.toNat (t + 1).toNat).data.toList) crlfB _ HB.out hl (by have := HS.out; omega)).mono ?_
      rintro e_ w11 ⟨rfl, hB, hb, hk⟩
      have HB2 : Hid (bldIs w.heap.size w.heap.size (Lib.byteCells (acc ++ dashB.data.toList ++ a2.data.toList ++ ctB.data.toList ++ a1.data.toList ++ crB.data.toList ++ tt.data.toList ++ crlf2B.data.toList ++ (a0.extract f.toNat (t + 1).toNat).data.toList ++ crlfB.data.toList)) w11) := Lib.hid hB
      have HBel2 := Lib.hid (HBel.out.trans hb); have HS2 := Lib.hid (Nat.le_trans HS.out hb.size)
      clear HB HBel HS hB hb hk hl
      have HB := HB2; have HBel := HBel2; have HS := HS2
      clear HB2 HBel2 HS2
      go_wp2_with fail
      rw [rounds_succ]
      go_wp2_with fail
      go_roundg k1
      case measure => omega
      case rel =>
        have e1 : acc ++ ranges_Parts.piece a0 a1 a2 ⟨f, t⟩ tt = acc ++ dashB.data.toList ++ a2.data.toList ++ ctB.data.toList ++ a1.data.toList ++ crB.data.toList ++ tt.data.toList ++ crlf2B.data.toList ++ (a0.extract f.toNat (t + 1).toNat).data.toList ++ crlfB.data.toList := by simp only [ranges_Parts.piece, List.append_assoc]
        have h5 := Hgo.out
        rw [e1] at h5
        exact ⟨i + 1, _, by go_num, ⟨by have := HI'.out.len; omega, HB.out, HBel.out, HS.out, h5, fun h_ => absurd h_ (by simp [dashB])⟩⟩
    · have hie : i = l3.length := by omega
      subst hie
      have hgo := HI.go
      rw [List.drop_length, ranges_Parts.go] at hgo
      obtain rfl := Option.some.inj hgo
      have h := HF.out
      dsimp only at h
      have HB := Lib.hid HI.bld; have HBel := Lib.hid HI.below; have HS := Lib.hid HI.size; have HN := Lib.hid HI.ne
      clear HI HF hgo hik hlt
      by_cases hl : l3 = []
      case pos =>
        rw [if_pos hl] at h
        obtain ⟨rfl, rfl⟩ := Prod.mk.inj (Option.some.inj h)
        subst hl
        clear h
        go_wp2
        go_ret2
        exact ⟨rfl, HBel.out⟩
      rw [if_neg hl] at h
      have hl0 : 0 < l3.length := List.length_pos_iff.2 hl
      have hacc : acc ≠ [] := fun e => by have := HN.out e; omega
      by_cases hm : acc.length + 2 + a2.size + 4 ≤ 140737488355328
      case neg => rw [if_neg hm] at h; cases h
      rw [if_pos hm] at h
      obtain ⟨rfl, rfl⟩ := Prod.mk.inj (Option.some.inj h)
      have hz : ((l3.length : Int) == 0) = false := beq_eq_false_iff_ne.2 (by omega)
      have hz2 : (l3.length == 0) = false := beq_eq_false_iff_ne.2 (by omega)
      have hsz : (⟨acc.toArray⟩ : ByteArray).size = acc.length := by rw [← data_length]
      generalize hA : (⟨acc.toArray⟩ : ByteArray) = bs at hsz ⊢
      have k1 : ¬ (9223372036854775807 < bs.size + 2) := by omega
      have k2 : ¬ (9223372036854775807 < bs.size + 2 + a2.size) := by omega
      have k3 : ¬ (9223372036854775807 < bs.size + 2 + a2.size + 4) := by omega
      have HA := Lib.hid hA; have Hacc := Lib.hid hacc
      clear h hl hm HN hsz hA hacc hl0
      go_wp2_with fail
      refine (bld_string w.heap.size w.heap.size acc _ HB.out Hacc.out).mono ?_
      rw [HA.out]
      rintro e_ w2 ⟨rfl, hB, hb, hk⟩
      have HBel2 := Lib.hid (HBel.out.trans (hb))
      clear hB hb hk
      go_wp2
      go_ret2
      exact ⟨by rw [HA.out]; rfl, HBel2.out⟩

end Go.Proofs.YtciibddoejhmlaaGreatDoor.PP
