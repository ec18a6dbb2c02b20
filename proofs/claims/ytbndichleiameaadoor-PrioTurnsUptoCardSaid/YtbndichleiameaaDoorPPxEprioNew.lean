-- Written by a program of this session (a changed copy of the kit's print) out of the translation. Not trusted: Lean checks it.
import Derived.Test.YtbndichleiameaaDoorPPx0
import Derived.Maps.OwnSet
import Derived.LoopN
import Derived.Handy
import Derived.LoopTactic
import Derived.Deep.RegionLaw
import Derived.Deep.RegionHeld3
namespace Go.Proofs.YtbndichleiameaaDoor.PP
open Go.RowKit Go.Proofs.YtbndichleiameaaDoorW.PrintWords Go.Proofs.YtbndichleiameaaDoorW.PrintLast Go.Proofs.YtbndichleiameaaDoorW.PrintMore
attribute [local go_sem] max2_int min2_int max_two min_two max_three min_three max_four min_four   -- for this text's walks alone
set_option linter.unusedVariables false
set_option linter.unusedSimpArgs false

/-! ### prio_New: function 14 (an extern) -/
/-! #### a line: two maps behind a pointer; what each of its methods does (function and type numbers of seat YtbndichleiameaaDoor) -/
attribute [local go_sem] max2_int min2_int max_two min_two max_three min_three max_four min_four
def priR (v : Value) : Option (DataW Unit × List MemPlace) :=
  match v with
  | .agg cs => match cs.toList with
    | [.int .i64 u, .bool b] => if (Lit.int .i64 u).wf = true then some (.agg [.lit (.int .i64 u), .lit (.bool b)], []) else none
    | _ => none
  | _ => none
def priD (u : Int) (b : Bool) : DataW Unit := .agg [.lit (.int .i64 u), .lit (.bool b)]
theorem priR_mk {u : Int} (hu : (Lit.int .i64 u).wf = true) (b : Bool) : priR (.agg #[.int .i64 u, .bool b]) = some (priD u b, []) := by simp [priR, priD, hu]
theorem priR_inv {v : Value} {d : DataW Unit} {ps : List MemPlace} (h : priR v = some (d, ps)) : ∃ u b, v = .agg #[.int .i64 u, .bool b] ∧ d = priD u b ∧ (Lit.int .i64 u).wf = true := by
  unfold priR at h
  split at h
  · rename_i cs
    split at h
    · rename_i hl
      split at h
      · cases h; exact ⟨_, _, by rw [← hl], rfl, by assumption⟩
      · cases h
    · cases h
  · cases h
theorem lk3 : Maps.Keyed Tryd.prog 3 := Maps.int_keyed Tryd.underlying3
theorem lz24 (w : World) : (zeroValue 24).run Tryd.prog w = .ok (.agg #[.int .i64 0, .bool false]) w := by kernel_rfl
theorem lz3 (w : World) : (zeroValue 3).run Tryd.prog w = .ok (.int .i64 0) w := by kernel_rfl
theorem lz0 : (Lit.int .i64 0).wf = true := by decide
/-- A line at block b: who waits (D), who went on last (E). -/
structure LineAt (B b m1 m2 n : Nat) (D E : DataW Unit) (w : World) : Prop where
  c0 : w.cell? ⟨b, 0, none⟩ = some (.map (some m1))
  c1 : w.cell? ⟨b, 1, none⟩ = some (.map (some m2))
  o1 : w.ownsMap Tryd.prog 3 priR m1 n D
  o2 : w.ownsMap Tryd.prog 3 (plainElem Tryd.prog 3) m2 n E
  lb : B ≤ b
  l1 : B ≤ m1
  l2 : B ≤ m2
  e1 : b ≠ m1
  e2 : b ≠ m2
  e3 : m1 ≠ m2
theorem cell_blk {w : World} {b o : Nat} {v : Value} (h : w.cell? ⟨b, o, none⟩ = some v) : b < w.heap.size := by
  rcases Nat.lt_or_ge b w.heap.size with h' | h'
  · exact h'
  · simp [World.cell?, Array.getElem?_eq_none h'] at h
theorem cell_same {w w' : World} {b o : Nat} (h : w'.heap[b]? = w.heap[b]?) : w'.cell? ⟨b, o, none⟩ = w.cell? ⟨b, o, none⟩ := by
  simp [World.cell?, h]
theorem LineAt.grown {B b m1 m2 n : Nat} {D E : DataW Unit} {w w' : World} {row : Option Nat} (h : LineAt B b m1 m2 n D E w) (hg : w.grownBy w' row) (h0 : some b ≠ row) (h1 : some m1 ≠ row) (h2 : some m2 ≠ row) : LineAt B b m1 m2 n D E w' :=
  ⟨(cell_same (hg.block b (cell_blk h.c0) h0)).trans h.c0, (cell_same (hg.block b (cell_blk h.c0) h0)).trans h.c1, h.o1.kept hg h1, h.o2.kept hg h2, h.lb, h.l1, h.l2, h.e1, h.e2, h.e3⟩
theorem LineAt.below {B b m1 m2 n : Nat} {D E : DataW Unit} {w w' : World} (h : LineAt B b m1 m2 n D E w) (hb : Below w.heap.size w w') : LineAt B b m1 m2 n D E w' :=
  h.grown (grown_of_below hb none) (by simp) (by simp) (by simp)
theorem LineAt.drew {B b m1 m2 n : Nat} {D E : DataW Unit} {w : World} (h : LineAt B b m1 m2 n D E w) : LineAt B b m1 m2 n D E w.drew := h.below (below_drew (Below.refl _ _))
theorem LineAt.alloc {B b m1 m2 n : Nat} {D E : DataW Unit} {w : World} (h : LineAt B b m1 m2 n D E w) (o : Obj) : LineAt B b m1 m2 n D E (w.alloc o) := h.below (below_alloc (Below.refl _ _) _)
theorem LineAt.set {B b m1 m2 n N g i : Nat} {D E : DataW Unit} {w : World} {v : Value} (h : LineAt B b m1 m2 n D E w) (hg : N ≤ g) (hb : b < N) (h1 : m1 < N) (h2 : m2 < N) : LineAt B b m1 m2 n D E (w.setCell ⟨g, i, none⟩ v) := by
  have key : ∀ k, k < N → (w.setCell ⟨g, i, none⟩ v).heap[k]? = w.heap[k]? := by
    intro k hk
    have : g ≠ k := by omega
    simp [World.setCell, Array.getElem?_modify, this]
  exact ⟨(cell_same (key b hb)).trans h.c0, (cell_same (key b hb)).trans h.c1, h.o1.setCell (by show m1 ≠ g; omega) v, h.o2.setCell (by show m2 ≠ g; omega) v, h.lb, h.l1, h.l2, h.e1, h.e2, h.e3⟩
/-- The state after a store into the first map. -/
theorem LineAt.put1 {B b m1 m2 n : Nat} {D D' E : DataW Unit} {w w' : World} (h : LineAt B b m1 m2 n D E w) (ho : w'.ownsMap Tryd.prog 3 priR m1 (n + 1) D') (ht : w.mapTurned w' m1) : LineAt B b m1 m2 (n + 1) D' E w' :=
  have hg := ht.grown
  ⟨(cell_same (hg.block b (cell_blk h.c0) (by simp [h.e1]))).trans h.c0, (cell_same (hg.block b (cell_blk h.c0) (by simp [h.e1]))).trans h.c1, ho, (h.o2.kept hg (by simpa using h.e3.symm)).mono (Nat.le_succ n), h.lb, h.l1, h.l2, h.e1, h.e2, h.e3⟩
theorem LineAt.put2 {B b m1 m2 n : Nat} {D E E' : DataW Unit} {w w' : World} (h : LineAt B b m1 m2 n D E w) (ho : w'.ownsMap Tryd.prog 3 (plainElem Tryd.prog 3) m2 (n + 1) E') (ht : w.mapTurned w' m2) : LineAt B b m1 m2 (n + 1) D E' w' :=
  have hg := ht.grown
  ⟨(cell_same (hg.block b (cell_blk h.c0) (by simp [h.e2]))).trans h.c0, (cell_same (hg.block b (cell_blk h.c0) (by simp [h.e2]))).trans h.c1, (h.o1.kept hg (by simpa using h.e3)).mono (Nat.le_succ n), ho, h.lb, h.l1, h.l2, h.e1, h.e2, h.e3⟩
theorem LineAt.below1 {B b m1 m2 n : Nat} {D E : DataW Unit} {w0 w w' : World} (h : LineAt B b m1 m2 n D E w) (hB : Below B w0 w) (hs : B ≤ w0.heap.size) (ht : w.mapTurned w' m1) : Below B w0 w' :=
  hB.grown ht.grown (Nat.le_trans hs hB.size) (fun k hk => by obtain rfl := Option.some.inj hk; exact h.l1)
theorem LineAt.below2 {B b m1 m2 n : Nat} {D E : DataW Unit} {w0 w w' : World} (h : LineAt B b m1 m2 n D E w) (hB : Below B w0 w) (hs : B ≤ w0.heap.size) (ht : w.mapTurned w' m2) : Below B w0 w' :=
  hB.grown ht.grown (Nat.le_trans hs hB.size) (fun k hk => by obtain rfl := Option.some.inj hk; exact h.l2)
set_option maxHeartbeats 2000000 in
set_option maxRecDepth 100000 in
theorem prio_New_calls (w : World) : Calls Tryd.prog 14 #[] w fun e w' => ∃ b m1 m2, e = .returned (.pointer (some ⟨b, 0, none⟩)) ∧ LineAt w.heap.size b m1 m2 0 (.map []) (.map []) w' ∧ Below w.heap.size w w' := by
  have hmk := @run_makeMap Tryd.prog
  go_enter Tryd.func14, Tryd.ntmps14
  go_wp2
  go_ret
  have h1 : (w.alloc (Obj.map #[] 0)).heap.size = w.heap.size + 1 := by simp
  have h2 := (World.ownsMap_made (w.alloc (Obj.map #[] 0)) Tryd.prog 3 (plainElem (H := Unit) Tryd.prog 3)).alloc (Obj.cells #[Value.map (some w.heap.size), Value.map (some (w.heap.size + 1))] 61)
  have h3 := blk_new ((w.alloc (Obj.map #[] 0)).alloc (Obj.map #[] 0)) (Obj.cells #[Value.map (some w.heap.size), Value.map (some (w.heap.size + 1))] 61)
  rw [h1] at h2
  have h4 : ((w.alloc (Obj.map #[] 0)).alloc (Obj.map #[] 0)).heap.size = w.heap.size + 1 + 1 := by simp
  rw [h4] at h3
  exact ⟨_, w.heap.size, w.heap.size + 1, rfl, ⟨(blk_cell h3 0).trans rfl, (blk_cell h3 1).trans rfl, ((World.ownsMap_made w _ _ _).alloc _).alloc _, h2, by omega, by omega, by omega, by omega, by omega, by omega⟩, below_alloc (below_alloc (below_alloc (Below.refl _ _) _) _) _⟩
set_option maxHeartbeats 2000000 in
set_option maxRecDepth 100000 in
theorem prio_Len_calls {B b m1 m2 n : Nat} {D E : DataW Unit} {w : World} (h : LineAt B b m1 m2 n D E w) : Calls Tryd.prog 17 #[.pointer (some ⟨b, 0, none⟩)] w fun e w' => e = .returned (.int .i64 (Maps.size D)) ∧ w' = w := by
  have c0 := h.c0
  have hl := fun ty => h.o1.len (t := 58) (e := 24) Tryd.underlying58 ty
  go_enter Tryd.func17, Tryd.ntmps17
  go_wp2
  go_ret
  exact ⟨rfl, rfl⟩
set_option maxHeartbeats 2000000 in
set_option maxRecDepth 100000 in
theorem prio_Len_nil (w : World) : Calls Tryd.prog 17 #[.pointer none] w fun e w' => e = .returned (.int .i64 0) ∧ w' = w := by
  go_enter Tryd.func17, Tryd.ntmps17
  go_wp2
  go_ret
  exact ⟨rfl, rfl⟩
/-- What a map of priorities tells of an id. -/
def priOf (d : DataW Unit) : Int × Bool := match d with
  | .agg [.lit (.int _ u), .lit (.bool b)] => (u, b)
  | _ => (0, false)
def intOf (d : DataW Unit) : Int := match d with
  | .lit (.int _ u) => u
  | _ => 0
def pAt (D : DataW Unit) (a : Int) : Int × Bool := priOf (D.atKey (.int .i64 a) (priD 0 false))
def lAt (E : DataW Unit) (a : Int) : Int := intOf (E.atKey (.int .i64 a) (.lit (.int .i64 0)))
def hAt (D : DataW Unit) (a : Int) : Bool := Maps.has D (.int .i64 a)
theorem LineAt.look1 {B b m1 m2 n : Nat} {D E : DataW Unit} {w : World} (h : LineAt B b m1 m2 n D E w) {x : Int} (hx : (Lit.int .i64 x).wf = true) :
    (Instr.lookup 58 (.map (some m1)) (.int .i64 x) false).run Tryd.prog w = .ok (.agg #[.int .i64 (pAt D x).1, .bool (pAt D x).2]) w ∧ (Instr.lookup 58 (.map (some m1)) (.int .i64 x) true).run Tryd.prog w = .ok (.tuple #[.agg #[.int .i64 (pAt D x).1, .bool (pAt D x).2], .bool (hAt D x)]) w ∧ (Lit.int .i64 (pAt D x).1).wf = true := by
  obtain ⟨v, ps, h1, h2⟩ := h.o1.lookup lk3 Tryd.underlying58 (lz24 w) (priR_mk lz0 false) (Maps.keyOf_int_mk Tryd.underlying3 hx)
  obtain ⟨v', ps', h3, h4⟩ := h.o1.look_ok lk3 Tryd.underlying58 (lz24 w) (priR_mk lz0 false) (Maps.keyOf_int_mk Tryd.underlying3 hx)
  obtain ⟨u, q, rfl, e, hw⟩ := priR_inv h2
  obtain ⟨u', q', rfl, e', _⟩ := priR_inv h4
  have hp : pAt D x = (u, q) := by unfold pAt; rw [e]; rfl
  have hp' : pAt D x = (u', q') := by unfold pAt; rw [e']; rfl
  rw [hp] at hp'
  obtain ⟨rfl, rfl⟩ := Prod.mk.inj hp'
  rw [hp]
  exact ⟨h1, h3, hw⟩
theorem LineAt.look2 {B b m1 m2 n : Nat} {D E : DataW Unit} {w : World} (h : LineAt B b m1 m2 n D E w) {x : Int} (hx : (Lit.int .i64 x).wf = true) :
    (Instr.lookup 59 (.map (some m2)) (.int .i64 x) false).run Tryd.prog w = .ok (.int .i64 (lAt E x)) w ∧ (Instr.lookup 59 (.map (some m2)) (.int .i64 x) true).run Tryd.prog w = .ok (.tuple #[.int .i64 (lAt E x), .bool (hAt E x)]) w := by
  obtain ⟨v, ps, h1, h2⟩ := h.o2.lookup lk3 Tryd.underlying59 (lz3 w) (plainElem_int Tryd.underlying3 lz0) (Maps.keyOf_int_mk Tryd.underlying3 hx)
  obtain ⟨v', ps', h3, h4⟩ := h.o2.look_ok lk3 Tryd.underlying59 (lz3 w) (plainElem_int Tryd.underlying3 lz0) (Maps.keyOf_int_mk Tryd.underlying3 hx)
  obtain ⟨u, rfl, e, hw⟩ := plainElem_int_inv Tryd.underlying3 h2
  obtain ⟨u', rfl, e', _⟩ := plainElem_int_inv Tryd.underlying3 h4
  have hp : lAt E x = u := by unfold lAt; rw [(Prod.mk.inj e).1]; rfl
  have hp' : lAt E x = u' := by unfold lAt; rw [(Prod.mk.inj e').1]; rfl
  subst hp
  subst hp'
  exact ⟨h1, h3⟩
theorem blk_two1 (w : World) (A C : Obj) : ((w.alloc A).alloc C).drew.heap[w.heap.size]? = some A := blk_drew (blk_alloc (blk_new w A) C)
theorem blk_two2 (w : World) (A C : Obj) : ((w.alloc A).alloc C).drew.heap[w.heap.size + 1]? = some C := by
  have h := blk_new (w.alloc A) C
  rw [show (w.alloc A).heap.size = w.heap.size + 1 by simp] at h
  exact blk_drew h
/-- The first one of two. -/
def firstF (D E : DataW Unit) (a b : Int) : Int :=
  if (pAt D a).1 ≠ (pAt D b).1 then (if (pAt D a).1 < (pAt D b).1 then a else b)
  else if (pAt D a).2 ≠ (pAt D b).2 then (if (pAt D b).2 = true then a else b)
  else if ((pAt D a).2 && (hAt E (pAt D a).1 && (decide (lAt E (pAt D a).1 < a) != decide (lAt E (pAt D a).1 < b)))) = true then (if a < b then b else a)
  else (if b < a then b else a)
set_option maxHeartbeats 4000000 in
set_option maxRecDepth 100000 in
theorem prio_first_calls {B b m1 m2 n : Nat} {D E : DataW Unit} {w : World} (h : LineAt B b m1 m2 n D E w) (x y : Int) (hx : (Lit.int .i64 x).wf = true) (hy : (Lit.int .i64 y).wf = true) :
    Calls Tryd.prog 33 #[.pointer (some ⟨b, 0, none⟩), .int .i64 x, .int .i64 y] w fun e w' => e = .returned (.int .i64 (firstF D E x y)) ∧ Below w.heap.size w w' := by
  have hS : ∀ {W : World}, LineAt B b m1 m2 n D E W → Below w.heap.size w W → W.cell? ⟨b, 0, none⟩ = some (.map (some m1)) ∧
  (Instr.lookup 58 (.map (some m1)) (.int .i64 x) false).run Tryd.prog W = .ok (.agg #[.int .i64 (pAt D x).1, .bool (pAt D x).2]) W ∧
  (Instr.lookup 58 (.map (some m1)) (.int .i64 y) false).run Tryd.prog W = .ok (.agg #[.int .i64 (pAt D y).1, .bool (pAt D y).2]) W ∧ LineAt B b m1 m2 n D E W ∧ Below w.heap.size w W :=
    fun h1 h2 => ⟨h1.c0, (h1.look1 hx).1, (h1.look1 hy).1, h1, h2⟩
  have hw1 := (h.look1 hx).2.2
  have hw2 := (h.look1 hy).2.2
  unfold firstF
  generalize pAt D x = px at hS hw1 ⊢
  generalize pAt D y = py at hS ⊢
  obtain ⟨u1, q1⟩ := px
  obtain ⟨u2, q2⟩ := py
  dsimp only at hS hw1 ⊢
  have hT : ∀ {W : World}, LineAt B b m1 m2 n D E W → W.cell? ⟨b, 1, none⟩ = some (.map (some m2)) ∧ (Instr.lookup 59 (.map (some m2)) (.int .i64 u1) true).run Tryd.prog W = .ok (.tuple #[.int .i64 (lAt E u1), .bool (hAt E u1)]) W :=
    fun h1 => ⟨h1.c1, (h1.look2 hw1).2⟩
  generalize lAt E u1 = la at hT ⊢
  generalize hAt E u1 = wa at hT ⊢
  have hBr := Below.refl w.heap.size w
  have hb := cell_blk h.c0
  have hm1 := h.o1.lt
  have hm2 := h.o2.lt
  go_enter Tryd.func33, Tryd.ntmps33
  go_wp2
  rename_i K hK
  have rest : ∀ (g7 g8 : Nat) (W1 : World), LineAt B b m1 m2 n D E W1 → Below w.heap.size w W1 → W1.cell? ⟨g7, 0, none⟩ = some (.int .i64 u1) → W1.cell? ⟨g7, 1, none⟩ = some (.bool q1) → W1.cell? ⟨g8, 0, none⟩ = some (.int .i64 u2) → W1.cell? ⟨g8, 1, none⟩ = some (.bool q2) → K ⟨#[.pointer (some ⟨b, 0, none⟩), .int .i64 x, .int .i64 y, undef, undef, undef, .int .i64 0, .pointer (some ⟨g7, 0, none⟩), .pointer (some ⟨g8, 0, none⟩), undef, undef, undef, .pointer (some ⟨b, 0, none⟩), .pointer (some ⟨b, 0, none⟩), .pointer (some ⟨b, 0, none⟩), .map (some m1), .int .i64 x, .agg #[.int .i64 u1, .bool q1], .pointer (some ⟨b, 0, none⟩), .pointer (some ⟨b, 0, none⟩), .pointer (some ⟨b, 0, none⟩), .map (some m1), .int .i64 y, .agg #[.int .i64 u2, .bool q2], undef, undef, undef, undef, undef, undef, undef, undef, undef, undef, undef, undef, undef, undef, undef, undef, undef, undef, undef, undef, undef, undef, undef, undef, undef, undef, undef, undef, undef, undef, undef, undef, undef, undef, undef, undef, undef, undef, undef, undef, undef, undef, undef, undef, undef, undef, undef, undef, undef, undef, undef, undef, undef, undef, undef], []⟩ W1 := by
    intro g7 g8 W1 hL hB x0 x1 x2 x3
    refine hK _ _ ?_
    clear hK hS
    clear h
    obtain ⟨t1, t2⟩ := hT hL.drew
    have hT' : ∀ {W : World}, LineAt B b m1 m2 n D E W → W.cell? ⟨g7, 0, none⟩ = some (.int .i64 u1) → (W.cell? ⟨b, 1, none⟩ = some (.map (some m2)) ∧ (Instr.lookup 59 (.map (some m2)) (.int .i64 u1) true).run Tryd.prog W = .ok (.tuple #[.int .i64 la, .bool wa]) W) ∧ W.cell? ⟨g7, 0, none⟩ = some (.int .i64 u1) := fun h1 h2 => ⟨hT h1, h2⟩
    go_wp2
    go_region_held3 (fun W => (W.cell? ⟨b, 1, none⟩ = some (.map (some m2)) ∧ (Instr.lookup 59 (.map (some m2)) (.int .i64 u1) true).run Tryd.prog W = .ok (.tuple #[.int .i64 la, .bool wa]) W) ∧ W.cell? ⟨g7, 0, none⟩ = some (.int .i64 u1)) (exact hT' hL.drew x0) (fail)
    rename_i hH
    clear hH
    go_wp2
    all_goals go_ret
    all_goals refine ⟨?_, by with_reducible repeat (first | assumption | apply below_drew)⟩
    all_goals clear hL hB hT hT' t1 t2 x0 x1 x2 x3 hBr hb hm1 hm2 hw1 hx hy
    all_goals first
      | rfl
      | (exfalso; omega)
      | (exfalso; simp_all; done)
      | (exfalso; simp_all; omega)
  go_region_held3 (fun W => W.cell? ⟨b, 0, none⟩ = some (.map (some m1)) ∧
  (Instr.lookup 58 (.map (some m1)) (.int .i64 x) false).run Tryd.prog W = .ok (.agg #[.int .i64 u1, .bool q1]) W ∧
  (Instr.lookup 58 (.map (some m1)) (.int .i64 y) false).run Tryd.prog W = .ok (.agg #[.int .i64 u2, .bool q2]) W ∧ LineAt B b m1 m2 n D E W ∧ Below w.heap.size w W) (exact hS (by with_reducible repeat (first | assumption | apply LineAt.drew | apply LineAt.alloc | refine LineAt.set (N := w.heap.size) ?_ (by first | exact Nat.le_refl _ | (simp; done) | (simp; omega)) hb hm1 hm2)) (by with_reducible repeat (first | assumption | apply below_drew | apply below_alloc | refine below_set ?_ (by first | exact Nat.le_refl _ | (simp; done) | (simp; omega))))) (fail)
  all_goals (
    rename_i hH
    obtain ⟨_, _, _, hL, hB⟩ := hH
    first
    | exact rest w.heap.size (w.heap.size + 1) _ hL hB ((blk_cell (blk_two1 _ _ _) 0).trans rfl) ((blk_cell (blk_two1 _ _ _) 1).trans rfl) ((blk_cell (blk_two2 _ _ _) 0).trans rfl) ((blk_cell (blk_two2 _ _ _) 1).trans rfl)
    | exact rest (w.heap.size + 1) w.heap.size _ hL hB ((blk_cell (blk_two2 _ _ _) 0).trans rfl) ((blk_cell (blk_two2 _ _ _) 1).trans rfl) ((blk_cell (blk_two1 _ _ _) 0).trans rfl) ((blk_cell (blk_two1 _ _ _) 1).trans rfl))
theorem LineAt.store1 {B b m1 m2 n : Nat} {D E : DataW Unit} {w : World} (h : LineAt B b m1 m2 n D E w) (hn : n < maxLen) {x u : Int} (hx : (Lit.int .i64 x).wf = true) (hu : (Lit.int .i64 u).wf = true) (q : Bool) :
    ∃ w', (Instr.mapUpdate 58 (.map (some m1)) (.int .i64 x) (.agg #[.int .i64 u, .bool q])).run Tryd.prog w = .ok () w' ∧ LineAt B b m1 m2 (n + 1) (D.put (.int .i64 x) (priD u q)) E w' ∧ w.mapTurned w' m1 := by
  obtain ⟨w', h1, h2, h3⟩ := h.o1.store lk3 Tryd.underlying58 hn (Maps.keyOf_int_mk Tryd.underlying3 hx) (priR_mk hu q)
  exact ⟨w', h1, h.put1 h2 h3, h3⟩
theorem LineAt.store2 {B b m1 m2 n : Nat} {D E : DataW Unit} {w : World} (h : LineAt B b m1 m2 n D E w) (hn : n < maxLen) {x u : Int} (hx : (Lit.int .i64 x).wf = true) (hu : (Lit.int .i64 u).wf = true) :
    ∃ w', (Instr.mapUpdate 59 (.map (some m2)) (.int .i64 x) (.int .i64 u)).run Tryd.prog w = .ok () w' ∧ LineAt B b m1 m2 (n + 1) D (E.put (.int .i64 x) (.lit (.int .i64 u))) w' ∧ w.mapTurned w' m2 := by
  obtain ⟨w', h1, h2, h3⟩ := h.o2.store lk3 Tryd.underlying59 hn (Maps.keyOf_int_mk Tryd.underlying3 hx) (plainElem_int Tryd.underlying3 hu)
  exact ⟨w', h1, h.put2 h2 h3, h3⟩
theorem cell_g {w w' : World} {row : Option Nat} {b o : Nat} {v : Value} (hg : w.grownBy w' row) (hb : some b ≠ row) (h : w.cell? ⟨b, o, none⟩ = some v) : w'.cell? ⟨b, o, none⟩ = some v :=
  (cell_same (hg.block b (cell_blk h) hb)).trans h
theorem setS_keep {w w' : World} {row : Option Nat} {b g : Nat} {v0 v1 v2 : Value} (h : w.cell? ⟨b, 0, none⟩ = some v0 ∧ w.cell? ⟨g, 0, none⟩ = some v1 ∧ w.cell? ⟨g, 1, none⟩ = some v2) (hg : w.grownBy w' row) (hb : some b ≠ row) (hg' : some g ≠ row) :
    w'.cell? ⟨b, 0, none⟩ = some v0 ∧ w'.cell? ⟨g, 0, none⟩ = some v1 ∧ w'.cell? ⟨g, 1, none⟩ = some v2 := ⟨cell_g hg hb h.1, cell_g hg hg' h.2.1, cell_g hg hg' h.2.2⟩
set_option maxHeartbeats 4000000 in
set_option maxRecDepth 100000 in
theorem prio_Set_calls {B b m1 m2 n : Nat} {D E : DataW Unit} {w : World} (h : LineAt B b m1 m2 n D E w) (hB : B ≤ w.heap.size) (hn : n < maxLen) (x u u' : Int) (q q' : Bool) (hx : (Lit.int .i64 x).wf = true) (hu : (Lit.int .i64 u').wf = true)
    (hk : ∀ W, Calls Tryd.prog 30 #[.agg #[.int .i64 u, .bool q]] W fun e w' => e = .returned (.agg #[.int .i64 u', .bool q']) ∧ Below W.heap.size W w') :
    Calls Tryd.prog 15 #[.pointer (some ⟨b, 0, none⟩), .int .i64 x, .agg #[.int .i64 u, .bool q]] w fun e w' => e = .returned (.tuple #[]) ∧ LineAt B b m1 m2 (n + 1) (D.put (.int .i64 x) (priD u' q')) E w' ∧ Below B w w' := by
  have hb := cell_blk h.c0
  have hm1 := h.o1.lt
  have z0 := blk_new w (.cells #[.int .i64 u, .bool q] 24)
  have hL0 := h.alloc (.cells #[.int .i64 u, .bool q] 24)
  have hB0 : Below B w (w.alloc (.cells #[.int .i64 u, .bool q] 24)) := (Below.refl B w).alloc hB _
  have hs0 : w.heap.size ≤ (w.alloc (.cells #[.int .i64 u, .bool q] 24)).heap.size := by simp
  go_enter Tryd.func15, Tryd.ntmps15
  go_wp2
  obtain ⟨W0, hW0⟩ : ∃ W0, W0 = w.alloc (.cells #[.int .i64 u, .bool q] 24) := ⟨_, rfl⟩
  rw [← hW0] at z0 hL0 hB0 hs0 ⊢
  clear hW0
  have x0 := (blk_cell z0 0).trans rfl
  have x1 := (blk_cell z0 1).trans rfl
  have c0 := hL0.c0
  have hbg : w.heap.size ≠ b := by omega
  have hmg : w.heap.size ≠ m1 := by omega
  clear z0 h
  go_region_held3 (fun W => W.cell? ⟨b, 0, none⟩ = some (.map (some m1)) ∧ W.cell? ⟨w.heap.size, 0, none⟩ = some (.int .i64 u) ∧ W.cell? ⟨w.heap.size, 1, none⟩ = some (.bool q)) (first | exact ⟨c0, x0, x1⟩ | exact setS_keep (by first | assumption | exact ⟨by assumption, by assumption, by assumption⟩) (grown_of_below (by assumption) none) (by simp) (by simp) | exact setS_keep (by first | assumption | exact ⟨by assumption, by assumption, by assumption⟩) (World.mapTurned.grown (by assumption)) (by simp [hL0.e1]) (by simp [hmg])) (first | (go_at_call 30; refine (hk _).mono ?_; rintro e w2 ⟨rfl, hb2⟩; have hL2 := LineAt.below (show LineAt B b m1 m2 n D E _ from (by first | exact hL0 | exact hL0.drew | exact hL0.drew.drew)) hb2; have hB2 := (show Below B w _ from (by first | exact hB0 | exact below_drew hB0)).trans (hb2.mono (by first | exact Nat.le_trans hB hs0 | (simp; omega))); obtain ⟨w3, s1, s2, s3⟩ := hL2.store1 hn hx hu q'; obtain ⟨w4, s4, s5, s6⟩ := hL2.drew.store1 hn hx hu q'))
  go_end0
  exact ⟨rfl, s2, hL2.below1 hB2 hB s3⟩
/-- Who goes on, of those that can. -/
def nextG (D E : DataW Unit) : List Int → Option Int → Option Int
  | [], o => o
  | a :: r, o => if hAt D a = true then nextG D E r (some (firstF D E (o.getD a) a)) else nextG D E r o
def nextR (D E : DataW Unit) (l : List Int) : Int := (nextG D E l none).getD (-1)
def endE (D E : DataW Unit) : Option Int → DataW Unit
  | none => E
  | some a => if (pAt D a).2 = true then E.put (.int .i64 (pAt D a).1) (.lit (.int .i64 a)) else E
def nextE (D E : DataW Unit) (l : List Int) : DataW Unit := endE D E (nextG D E l none)
theorem firstF_or (D E : DataW Unit) (a b : Int) : firstF D E a b = a ∨ firstF D E a b = b := by
  unfold firstF
  repeat' split
  all_goals first | exact .inl rfl | exact .inr rfl
/-- What holds at the head of each round of Next. -/
structure NextI (B b m1 m2 n : Nat) (D E : DataW Unit) (l : List Int) (res : Option Int) (w : World) (kq i : Nat) (acc : Option Int) (wr : World) : Prop where
  len : i + kq = l.length
  line : LineAt B b m1 m2 n D E wr
  below : Below w.heap.size w wr
  go : nextG D E (l.drop i) acc = res
  wf : ∀ a, acc = some a → (Lit.int .i64 a).wf = true
set_option maxHeartbeats 8000000 in
set_option maxRecDepth 100000 in
theorem prio_Next_calls {B b m1 m2 n : Nat} {D E : DataW Unit} {w : World} (h : LineAt B b m1 m2 n D E w) (hB : B ≤ w.heap.size) (hn : n < maxLen) (A : Option Addr) (c : Nat) (l : List Int) (hr : Kd.C (Kd.int .i64) w A l.length l) (hwf : ∀ a ∈ l, (Lit.int .i64 a).wf = true) (hll : l.length ≤ 140737488355328) :
    Calls Tryd.prog 16 #[.pointer (some ⟨b, 0, none⟩), .slice A l.length c] w fun e w' => e = .returned (.int .i64 (nextR D E l)) ∧ LineAt B b m1 m2 (n + 1) D (nextE D E l) w' ∧ Below B w w' := by
  have HL := Aside0.mk h
  have HR := Aside0.mk hr
  have HW := Aside0.mk hwf
  clear hr hwf
  unfold nextR nextE
  generalize hres : nextG D E l none = res
  have HRES := Aside0.mk hres
  clear hres h
  go_enter Tryd.func16, Tryd.ntmps16
  go_wp2
  go_loopg [5, 6, 16] l.length (fun kq v5 v6 v16 wr => ∃ (i : Nat) (acc : Option Int), v5 = .int .i64 (acc.getD (-1)) ∧ v6 = .bool acc.isSome ∧ v16 = .int .i64 i ∧ NextI B b m1 m2 n D E l res w kq i acc wr)
  case atStart => exact ⟨0, none, rfl, rfl, rfl, ⟨by omega, HL.out, Below.refl _ _, HRES.out, fun a e => by cases e⟩⟩
  case round =>
    clear HL HRES
    obtain ⟨i, acc, rfl, rfl, rfl, HI⟩ := hrel
    have hik := HI.len
    by_cases hlt : i < l.length
    · obtain ⟨k1, rfl⟩ : ∃ k1, gk = k1 + 1 := ⟨gk - 1, by omega⟩
      have p0 : (0 : Int) ≤ (i : Int) := by omega
      have p1 : (i : Int) < (l.length : Int) := by omega
      obtain ⟨ad, rfl, x0⟩ := Kd.at_int (Kd.C_below HR.out HI.below) (i : Int) p0 p1
      rw [Int.toNat_natCast] at x0
      have hd : l.drop i = rd l i :: l.drop (i + 1) := by
        rw [List.drop_eq_getElem_cons hlt]; simp [rd, List.getD, List.getElem?_eq_getElem hlt]
      have hmem : rd l i ∈ l := by
        have : rd l i ∈ l.drop i := by rw [hd]; exact List.mem_cons_self ..
        exact List.mem_of_mem_drop this
      have hgo := HI.go
      rw [hd, nextG] at hgo
      have hid := HW.out _ hmem
      generalize rd l (i : Int) = id at x0 hgo hid
      obtain ⟨_, t1, _⟩ := HI.line.look1 hid
      have hL1 := HI.line.alloc (.cells #[.int .i64 (pAt D id).1, .bool (pAt D id).2] 24)
      have hb1 := below_alloc HI.below (.cells #[.int .i64 (pAt D id).1, .bool (pAt D id).2] 24)
      have hwa := HI.wf
      have c0 := HI.line.c0
      generalize pAt D id = px at t1 hL1 hb1
      obtain ⟨u1, q1⟩ := px
      dsimp only at t1 hL1 hb1
      clear hd hmem HI
      by_cases hh : hAt D id = true
      · rw [if_pos hh] at hgo
        rw [hh] at t1
        cases acc with
        | none =>
          have hF := prio_first_calls hL1 id id hid hid
          have hfw : ∀ a, some (firstF D E id id) = some a → (Lit.int .i64 a).wf = true := by
            intro a e
            obtain rfl := Option.some.inj e
            rcases firstF_or D E id id with h | h <;> rw [h] <;> exact hid
          dsimp only [Option.getD] at hgo
          clear hh hwa
          have HL1 := Aside0.mk hL1; have HB1 := Aside0.mk hb1; have HG := Aside0.mk hgo; have HF := Aside0.mk hF; have HFW := Aside0.mk hfw
          clear hL1 hb1 hgo hF hfw
          go_wp2_with (go_at_call 33; refine HF.out.mono ?_; rintro e w2 ⟨rfl, hb2⟩)
          go_roundg k1
          case measure => omega
          case rel => exact ⟨i + 1, some _, rfl, rfl, by go_num, ⟨by omega, HL1.out.below hb2, HB1.out.trans (hb2.mono HB1.out.size), HG.out, HFW.out⟩⟩
        | some b0 =>
          have hb0 := hwa b0 rfl
          have hF := prio_first_calls hL1 b0 id hb0 hid
          have hfw : ∀ a, some (firstF D E b0 id) = some a → (Lit.int .i64 a).wf = true := by
            intro a e
            obtain rfl := Option.some.inj e
            rcases firstF_or D E b0 id with h | h <;> rw [h] <;> assumption
          dsimp only [Option.getD] at hgo
          clear hh hwa hb0
          have HL1 := Aside0.mk hL1; have HB1 := Aside0.mk hb1; have HG := Aside0.mk hgo; have HF := Aside0.mk hF; have HFW := Aside0.mk hfw
          clear hL1 hb1 hgo hF hfw
          go_wp2_with (go_at_call 33; refine HF.out.mono ?_; rintro e w2 ⟨rfl, hb2⟩)
          go_roundg k1
          case measure => omega
          case rel => exact ⟨i + 1, some _, rfl, rfl, by go_num, ⟨by omega, HL1.out.below hb2, HB1.out.trans (hb2.mono HB1.out.size), HG.out, HFW.out⟩⟩
      · rw [if_neg hh] at hgo
        have hh' := Bool.eq_false_iff.2 hh
        rw [hh'] at t1
        have HL1 := Aside0.mk hL1; have HB1 := Aside0.mk hb1; have HG := Aside0.mk hgo; have HWA := Aside0.mk hwa
        clear hL1 hb1 hgo hwa hh hh'
        go_wp2
        go_roundg k1
        case measure => omega
        case rel => exact ⟨i + 1, acc, rfl, rfl, by go_num, ⟨by omega, HL1.out, HB1.out, HG.out, HWA.out⟩⟩
    · have hie : i = l.length := by omega
      subst hie
      have hgo := HI.go
      rw [List.drop_length, nextG] at hgo
      subst hgo
      have hwa := HI.wf
      have hbw : (Lit.int .i64 (acc.getD (-1))).wf = true := by
        cases acc with
        | none => decide
        | some a => exact hwa a rfl
      obtain ⟨t1, _, hw1⟩ := HI.line.look1 hbw
      have hL1 := HI.line.alloc (.cells #[.int .i64 (pAt D (acc.getD (-1))).1, .bool (pAt D (acc.getD (-1))).2] 24)
      have hb1 := below_alloc HI.below (.cells #[.int .i64 (pAt D (acc.getD (-1))).1, .bool (pAt D (acc.getD (-1))).2] 24)
      have c0 := HI.line.c0
      have z0 := blk_new wr (.cells #[.int .i64 (pAt D (acc.getD (-1))).1, .bool (pAt D (acc.getD (-1))).2] 24)
      have e2 : acc.isSome = true → endE D E acc = if (pAt D (acc.getD (-1))).2 = true then E.put (.int .i64 (pAt D (acc.getD (-1))).1) (.lit (.int .i64 (acc.getD (-1)))) else E := by
        intro e; cases acc with
        | none => cases e
        | some a => rfl
      have e3 : acc.isSome = false → endE D E acc = E := by
        intro e; cases acc with
        | none => rfl
        | some a => cases e
      obtain ⟨u1, q1, hpx⟩ : ∃ u1 q1, pAt D (acc.getD (-1)) = (u1, q1) := ⟨_, _, rfl⟩
      rw [hpx] at t1 hL1 hb1 z0 e2 hw1
      obtain ⟨best, hacc⟩ : ∃ best, acc.getD (-1) = best := ⟨_, rfl⟩
      rw [hacc] at t1 e2 hbw
      rw [hacc]
      obtain ⟨sm, hsm⟩ : ∃ sm, acc.isSome = sm := ⟨_, rfl⟩
      rw [hsm] at e2 e3
      rw [hsm]
      dsimp only at t1 hL1 hb1 z0 e2 hw1
      have hs1 : B ≤ wr.heap.size := Nat.le_trans hB HI.below.size
      have hBB : Below B w (wr.alloc (.cells #[.int .i64 u1, .bool q1] 24)) := hb1.mono hB
      have ht : ∃ w3 w4, ((Instr.mapUpdate 59 (.map (some m2)) (.int .i64 u1) (.int .i64 best)).run Tryd.prog (wr.alloc (.cells #[.int .i64 u1, .bool q1] 24)) = .ok () w3 ∧ LineAt B b m1 m2 (n + 1) D (E.put (.int .i64 u1) (.lit (.int .i64 best))) w3 ∧ Below B w w3 ∧ w3.cell? ⟨b, 1, none⟩ = some (.map (some m2)) ∧ w3.cell? ⟨wr.heap.size, 0, none⟩ = some (.int .i64 u1)) ∧
          ((Instr.mapUpdate 59 (.map (some m2)) (.int .i64 u1) (.int .i64 best)).run Tryd.prog (wr.alloc (.cells #[.int .i64 u1, .bool q1] 24)).drew = .ok () w4 ∧ LineAt B b m1 m2 (n + 1) D (E.put (.int .i64 u1) (.lit (.int .i64 best))) w4 ∧ Below B w w4 ∧ w4.cell? ⟨b, 1, none⟩ = some (.map (some m2)) ∧ w4.cell? ⟨wr.heap.size, 0, none⟩ = some (.int .i64 u1)) := by
        obtain ⟨w3, s1, s2, s3⟩ := hL1.store2 hn hw1 hbw
        obtain ⟨w4, s4, s5, s6⟩ := hL1.drew.store2 hn hw1 hbw
        have hm2 := HI.line.o2.lt
        have hne : some wr.heap.size ≠ some m2 := by simp; omega
        exact ⟨w3, w4, ⟨s1, s2, hL1.below2 hBB hB s3, s2.c1, cell_g s3.grown hne ((blk_cell z0 0).trans rfl)⟩, ⟨s4, s5, hL1.drew.below2 (below_drew hBB) hB s6, s5.c1, cell_g s6.grown hne ((blk_cell (blk_drew z0) 0).trans rfl)⟩⟩
      obtain ⟨w3, w4, ⟨s1, s2, s3, s4, s5⟩, ⟨r1, r2, r3, r4, r5⟩⟩ := ht
      have y0 := (blk_cell z0 0).trans rfl
      have y1 := (blk_cell z0 1).trans rfl
      have c1 := hL1.c1
      have HL1 := Aside0.mk hL1; have HBB := Aside0.mk hBB; have HS2 := Aside0.mk s2; have HS3 := Aside0.mk s3; have HR2 := Aside0.mk r2; have HR3 := Aside0.mk r3
      clear hL1 hb1 z0 hBB s2 s3 r2 r3 HI hwa hpx hsm hbw hw1 HR HW
      have HE2 := Aside0.mk e2; have HE3 := Aside0.mk e3; have HA := Aside0.mk hacc
      clear e2 e3 hacc
      cases sm with
      | false =>
        have HE := Aside0.mk (HE3.out rfl)
        clear HE2 HE3
        go_wp2
        go_ret
        exact ⟨by rw [HA.out]; rfl, by rw [HE.out]; exact ⟨HL1.out.c0, HL1.out.c1, HL1.out.o1.mono (Nat.le_succ n), HL1.out.o2.mono (Nat.le_succ n), HL1.out.lb, HL1.out.l1, HL1.out.l2, HL1.out.e1, HL1.out.e2, HL1.out.e3⟩, HBB.out⟩
      | true =>
        cases q1 with
        | false =>
          have HE := Aside0.mk ((HE2.out rfl).trans (if_neg (by simp)))
          clear HE2 HE3
          go_wp2
          go_ret
          exact ⟨by rw [HA.out]; rfl, by rw [HE.out]; exact ⟨HL1.out.c0, HL1.out.c1, HL1.out.o1.mono (Nat.le_succ n), HL1.out.o2.mono (Nat.le_succ n), HL1.out.lb, HL1.out.l1, HL1.out.l2, HL1.out.e1, HL1.out.e2, HL1.out.e3⟩, HBB.out⟩
        | true =>
          have HE := Aside0.mk ((HE2.out rfl).trans (if_pos rfl))
          clear HE2 HE3
          go_wp2
          go_region_held3 (fun W => W.cell? ⟨b, 1, none⟩ = some (.map (some m2)) ∧ W.cell? ⟨wr.heap.size, 0, none⟩ = some (.int .i64 u1)) (first | exact ⟨c1, y0⟩ | exact ⟨s4, s5⟩ | exact ⟨r4, r5⟩) (fail)
          all_goals clear t1 s1 r1
          all_goals go_wp2
          all_goals go_ret
          all_goals exact ⟨by rw [HA.out]; rfl, by rw [HE.out]; first | exact HS2.out | exact HR2.out, by first | exact HS3.out | exact HR3.out⟩
set_option maxHeartbeats 2000000 in
set_option maxRecDepth 100000 in
theorem prio_Set_nil (x u : Int) (q : Bool) (w : World) : Calls Tryd.prog 15 #[.pointer none, .int .i64 x, .agg #[.int .i64 u, .bool q]] w fun e w' => e = .returned (.tuple #[]) ∧ Below w.heap.size w w' := by
  go_enter Tryd.func15, Tryd.ntmps15
  go_wp2
  go_end0
  exact ⟨rfl, below_alloc (Below.refl _ _) _⟩
set_option maxHeartbeats 2000000 in
set_option maxRecDepth 100000 in
theorem prio_Remove_nil (x : Int) (w : World) : Calls Tryd.prog 19 #[.pointer none, .int .i64 x] w fun e w' => e = .returned (.tuple #[]) ∧ w' = w := by
  go_enter Tryd.func19, Tryd.ntmps19
  go_wp2
  go_end0
  exact ⟨rfl, rfl⟩
set_option maxHeartbeats 2000000 in
set_option maxRecDepth 100000 in
theorem prio_Next_nil (v : Value) (w : World) : Calls Tryd.prog 16 #[.pointer none, v] w fun e w' => e = .returned (.int .i64 0) ∧ w' = w := by
  go_enter Tryd.func16, Tryd.ntmps16
  go_wp2
  go_ret
  exact ⟨rfl, rfl⟩
set_option maxHeartbeats 2000000 in
set_option maxRecDepth 100000 in
theorem prio_Remove_calls {B b m1 m2 n : Nat} {D E : DataW Unit} {w : World} (h : LineAt B b m1 m2 n D E w) (hB : B ≤ w.heap.size) (x : Int) (hx : (Lit.int .i64 x).wf = true) :
    Calls Tryd.prog 19 #[.pointer (some ⟨b, 0, none⟩), .int .i64 x] w fun e w' => e = .returned (.tuple #[]) ∧ LineAt B b m1 m2 (n + 1) (D.del (.int .i64 x)) E w' ∧ Below B w w' := by
  have c0 := h.c0
  obtain ⟨w', h1, h2, h3⟩ := h.o1.drop lk3 Tryd.underlying58 (Maps.keyOf_int_mk Tryd.underlying3 hx) 0
  have s2 := h.put1 (h2.mono (Nat.le_succ n)) h3
  have s3 := h.below1 (Below.refl B w) hB h3
  clear h h2 h3
  go_enter Tryd.func19, Tryd.ntmps19
  go_wp2
  go_end0
  exact ⟨rfl, s2, s3⟩
theorem C_lit {w : World} {g t : Nat} (l : List Int) (hl : l.length ≤ 9223372036854775807) (h : w.heap[g]? = some (.cells (l.map (Value.int .i64)).toArray t (0, 0))) : (Kd.int .i64).C w (some ⟨g, 0, none⟩) l.length l := by
  refine Kd.C_of_reads (d := (0 : Int)) ⟨rfl, hl, fun _ => ⟨_, rfl, fun i hi => ?_⟩⟩
  have e : (Addr.add ⟨g, 0, none⟩ i) = ⟨g, i, none⟩ := by simp [Addr.add]; exact fun h => h.symm
  rw [e, blk_cell h i]
  simp [hi]

end Go.Proofs.YtbndichleiameaaDoor.PP
