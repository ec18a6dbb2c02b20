-- Written by a program of this session (a changed copy of the kit's print) out of the translation. Not trusted: Lean checks it.
import Derived.Test.YtgeekchnolahhaaDoorPPx0
import Derived.Test.YtgeekchnolahhaaDoorPPx2
import Derived.Test.YtgeekchnolahhaaDoorPPx6
import Derived.Test.YtgeekchnolahhaaDoorPPx9
import Derived.Test.YtgeekchnolahhaaDoorPPx10
import Derived.Test.YtgeekchnolahhaaDoorPPx15
import Derived.Maps.OwnSet
import Derived.Maps.StringElems
namespace Go.Proofs.YtgeekchnolahhaaDoor.PP
open Go.RowKit Go.Proofs.YtgeekchnolahhaaDoorW.PrintWords Go.Proofs.YtgeekchnolahhaaDoorW.PrintLast Go.Proofs.YtgeekchnolahhaaDoorW.PrintMore
attribute [local go_sem] max2_int min2_int max_two min_two max_three min_three max_four min_four   -- for this text's walks alone
set_option linter.unusedVariables false
set_option linter.unusedSimpArgs false

/-! ### msg_Two: function 6 (an extern) -/
/-! #### a map from string to string that the call makes: the pairs that were stored, the last one at a key counts -/
def mlook {V : Type} : List (ByteArray × V) → ByteArray → Option V
  | [], _ => none
  | p :: l, k => match mlook l k with
    | some v => some v
    | none => if p.1 = k then some p.2 else none
theorem mlook_snoc {V : Type} (k k' : ByteArray) (v : V) : ∀ l : List (ByteArray × V), mlook (l ++ [(k, v)]) k' = if k = k' then some v else mlook l k'
  | [] => by
    by_cases h : k = k'
    · rw [if_pos h]; simp [mlook, h]
    · rw [if_neg h]; simp [mlook, h]
  | p :: l => by
    rw [List.cons_append, mlook, mlook_snoc k k' v l]
    by_cases h : k = k'
    · rw [if_pos h, if_pos h]
    · rw [if_neg h, if_neg h, mlook]
/-- block b is a map that holds the pairs l, the last one at a key counts -/
def MapAt {V : Type} (P : Program) (K E : TypeId) (enc : V → Lit) (w : World) (b : Nat) (l : List (ByteArray × V)) : Prop :=
  ∃ D : DataW Unit, w.ownsMap P K (plainElem P E) b l.length D ∧ ∀ k : ByteArray, k.size ≤ maxLen → (∀ z, D.atKey (.string k.data.toList) z = (match mlook l k with | some v => .lit (enc v) | none => z)) ∧ Maps.has D (.string k.data.toList) = (mlook l k).isSome
def encS (s : ByteArray) : Lit := .string s.data.toList
section
variable {V : Type} {P : Program} {T K E : TypeId} {enc : V → Lit} {w w1 : World} {b : Nat} {l : List (ByteArray × V)}
theorem MapAt.new (w : World) (P : Program) (K E : TypeId) (enc : V → Lit) : MapAt P K E enc (w.alloc (.map #[] 0)) w.heap.size [] :=
  ⟨_, World.ownsMap_made _ _ _ _, fun k hk => ⟨fun z => rfl, rfl⟩⟩
theorem MapAt.lt (h : MapAt P K E enc w b l) : b < w.heap.size := by obtain ⟨D, h, _⟩ := h; exact h.lt
theorem MapAt.kept (h : MapAt P K E enc w b l) {row : Option Nat} (hg : w.grownBy w1 row) (hne : some b ≠ row) : MapAt P K E enc w1 b l := by
  obtain ⟨D, h1, h2⟩ := h; exact ⟨D, h1.kept hg hne, h2⟩
theorem ba_of {s t : ByteArray} (h : s.data.toList = t.data.toList) : s = t := by
  cases s; cases t; simp at h; simp [h]
theorem MapAt.stored (hT : P.underlying T = some (.map K E)) (hK : P.underlying K = some .string) (h : MapAt P K E enc w b l) (k : ByteArray) (v : V) (val : Value) (hk : k.size ≤ maxLen) (hv : plainElem (H := Unit) P E val = some (.lit (enc v), [])) (hl : l.length < maxLen) :
    ∃ w', (Instr.mapUpdate T (.map (some b)) (.string k) val).run P w = .ok () w' ∧ MapAt P K E enc w' b (l ++ [(k, v)]) ∧ w.grownBy w' (some b) := by
  obtain ⟨D, h1, h2⟩ := h
  have him := h1.isMap
  obtain ⟨w', hrun, ho, hg⟩ := h1.update (Maps.string_keyed hK) hT hl (WideMaps.keyOf_string_mk hK hk) hv
  refine ⟨w', hrun, ⟨_, by rw [List.length_append]; exact ho, fun k' hk' => ?_⟩, hg⟩
  rw [mlook_snoc]
  by_cases e : k = k'
  · subst e
    rw [if_pos rfl]
    exact ⟨fun z => Maps.atKey_put_same him (by simp [WideAt.IsKeyLit]) _ _, Maps.has_put_same him (by simp [WideAt.IsKeyLit]) _⟩
  · have hne : (Lit.string k'.data.toList) ≠ Lit.string k.data.toList := fun h => e (ba_of (Lit.string.inj h).symm)
    rw [if_neg e]
    exact ⟨fun z => by rw [Maps.atKey_put_other hne]; exact (h2 k' hk').1 z, by rw [Maps.has_put_other hne]; exact (h2 k' hk').2⟩
theorem MapAt.lookS {l : List (ByteArray × ByteArray)} (hT : P.underlying T = some (.map K E)) (hK : P.underlying K = some .string) (hE : P.underlying E = some .string) (hz : (zeroValue E).run P w = .ok (.string ⟨#[]⟩) w) (h : MapAt P K E encS w b l) (k : ByteArray) (hk : k.size ≤ maxLen) :
    (Instr.lookup T (.map (some b)) (.string k) true).run P w = .ok (.tuple #[.string ((mlook l k).getD ⟨#[]⟩), .bool (mlook l k).isSome]) w ∧ (Instr.lookup T (.map (some b)) (.string k) false).run P w = .ok (.string ((mlook l k).getD ⟨#[]⟩)) w := by
  obtain ⟨D, h1, h2⟩ := h
  have he : plainElem (H := Unit) P E (.string ⟨#[]⟩) = some (.lit (.string []), []) := plainElem_string hE (by decide)
  have key : ∀ (v : Value) (ps : List MemPlace), plainElem (H := Unit) P E v = some (D.atKey (.string k.data.toList) (.lit (.string [])), ps) → v = .string ((mlook l k).getD ⟨#[]⟩) := by
    intro v ps hv
    obtain ⟨s, rfl, hs, _⟩ := plainElem_string_inv hE hv
    have h3 := (congrArg Prod.fst hs).symm.trans ((h2 k hk).1 _)
    dsimp only at h3
    cases hm : mlook l k with
    | none =>
      rw [hm] at h3
      have h4 : s.data.toList = [] := Lit.string.inj (DataW.lit.inj h3)
      rw [Option.getD_none, show s = ⟨#[]⟩ from ba_of h4]
    | some u =>
      rw [hm] at h3
      have h4 : s.data.toList = u.data.toList := Lit.string.inj (DataW.lit.inj h3)
      rw [Option.getD_some, ba_of h4]
  constructor
  · obtain ⟨v, ps, hrun, hv⟩ := h1.look_ok (Maps.string_keyed hK) hT hz he (WideMaps.keyOf_string_mk hK hk)
    rw [key v ps hv, (h2 k hk).2] at hrun
    exact hrun
  · obtain ⟨v, ps, hrun, hv⟩ := h1.lookup (Maps.string_keyed hK) hT hz he (WideMaps.keyOf_string_mk hK hk)
    rw [key v ps hv] at hrun
    exact hrun
theorem MapAt.setCell (h : MapAt P K E enc w b l) (a : Addr) (u : Value) : MapAt P K E enc (w.setCell a u) b l := by
  obtain ⟨D, ⟨es, clock, hb, h1⟩, h2⟩ := h
  refine ⟨D, ⟨es, clock, ?_, h1⟩, h2⟩
  unfold World.setCell
  by_cases e : a.block = b
  · subst e
    simp [Array.getElem?_modify, hb]
  · simp [Array.getElem?_modify, e, hb]
theorem MapAt.block (h : MapAt P K E enc w b l) : ∃ es clock, w.heap[b]? = some (.map es clock) := by
  obtain ⟨D, ⟨es, clock, hb, _⟩, _⟩ := h; exact ⟨es, clock, hb⟩
end
theorem R_m {α : Type} {d : Kd α} {e : Nat} {w w1 : World} {base : Nat} {ok : Nat → Prop} {v : Value} {xs : List α} {b : Nat} (h : d.R e w base ok v xs) (hm : ∃ es cl, w.heap[b]? = some (.map es cl)) (hg : w.grownBy w1 (some b)) : d.R e w1 base ok v xs := by
  refine Kd.R_mono (Kd.R_grown (Kd.R_bound h) hg ?_) (fun _ hk => hk.1)
  rintro k ⟨_, _, _, q, _, cells, hc⟩ hk
  obtain ⟨es, cl, hm⟩ := hm
  obtain rfl := Option.some.inj hk
  rw [hm] at hc; cases hc
theorem blk_m {g : Nat} {o : Obj} {w w1 : World} {b : Nat} (h : w.heap[g]? = some o) (ho : ∀ es cl, o ≠ .map es cl) (hm : ∃ es cl, w.heap[b]? = some (.map es cl)) (hg : w.grownBy w1 (some b)) : w1.heap[g]? = some o := by
  obtain ⟨es, cl, hm⟩ := hm
  have hlt : g < w.heap.size := (Array.getElem?_eq_some_iff.1 h).1
  rw [hg.block g hlt (fun e => by
    obtain rfl := Option.some.inj e
    rw [hm] at h; exact ho es cl (Option.some.inj h).symm)]
  exact h
theorem below_m {w0 w w1 : World} {b : Nat} (h : Below w0.heap.size w0 w) (hb : w0.heap.size ≤ b) (hg : w.grownBy w1 (some b)) : Below w0.heap.size w0 w1 :=
  h.grown hg h.size (fun k hk => by obtain rfl := Option.some.inj hk; exact hb)
/-! #### .. in this program: map type 42, pairs of strings as fields -/
abbrev prs (l : List S30) : List (ByteArray × ByteArray) := l.map fun f => (f.f0, f.f1)
def MR (w : World) (base : Nat) (v : Value) (l : List S30) : Prop := ∃ b, v = .map (some b) ∧ base ≤ b ∧ MapAt Tryd.prog 9 9 encS w b (prs l)
section
variable {w w1 : World} {base : Nat} {v : Value} {l : List S30}
theorem MR_form (h : MR w base v l) : ∃ b, v = .map (some b) := by obtain ⟨b, e, _⟩ := h; exact ⟨b, e⟩
theorem MR_below (h : MR w base v l) (hb : Below w.heap.size w w1) : MR w1 base v l := by
  obtain ⟨b, e, h1, h2⟩ := h; exact ⟨b, e, h1, h2.kept (grown_of_below hb none) (by simp)⟩
theorem MR_alloc (h : MR w base v l) (o : Obj) : MR (w.alloc o) base v l := MR_below h (below_alloc (Below.refl _ _) o)
theorem MR_drew (h : MR w base v l) : MR w.drew base v l := MR_below h (below_drew (Below.refl _ _))
theorem MR_drewN (h : MR w base v l) (m : Nat) : MR (w.drewN m) base v l := MR_below h (pw_below_drewN (Below.refl _ _) m)
theorem MR_set (h : MR w base v l) (a : Addr) (u : Value) : MR (w.setCell a u) base v l := by
  obtain ⟨b, e, h1, h2⟩ := h; exact ⟨b, e, h1, h2.setCell a u⟩
theorem MR_over {α : Type} {d : Kd α} {e b' : Nat} {ok : Nat → Prop} {u : Value} {xs : List α} (h : MR w base v l) (hr : d.R e w b' ok u xs) (hg : w.grownBy w1 u.ownBlock) : MR w1 base v l := by
  obtain ⟨b, e', h1, h2⟩ := h
  refine ⟨b, e', h1, h2.kept hg (fun hk => ?_)⟩
  obtain ⟨es, cl, hm⟩ := h2.block
  obtain ⟨_, _, _, q, _, cells, hc⟩ := (Kd.R_bound hr).1 b hk.symm
  rw [hm] at hc; cases hc
end
def mlk (l : List S30) (k : ByteArray) : Option ByteArray := mlook (prs l) k
def mget.f (l : List S30) (k : ByteArray) : Option (ByteArray × Bool) := if k.size ≤ 140737488355328 then some ((mlk l k).getD ⟨#[]⟩, (mlk l k).isSome) else none
def mat.f (l : List S30) (k : ByteArray) : Option ByteArray := if k.size ≤ 140737488355328 then some ((mlk l k).getD ⟨#[]⟩) else none
def mput.f (l : List S30) (k v : ByteArray) : Option (List S30) := if k.size ≤ 140737488355328 then (if v.size ≤ 140737488355328 then (if l.length < 8796093022208 then some (l ++ [⟨k, v⟩]) else none) else none) else none
theorem map_under : Tryd.prog.underlying 42 = some (.map 9 9) := by kernel_rfl
theorem map_zero (w : World) : (zeroValue 9).run Tryd.prog w = .ok (.string ⟨#[]⟩) w := by kernel_rfl
section
variable {ops : Array Oper} {rest : List Oper} {oi : Oper} {a : Act} {w : World} {Q : Exit → Act → World → Prop} {base : Nat} {l : List S30} {k : ByteArray}
theorem mgetL (N : Tmp) (hd : oi.dst = some N) (hg : oi.guard = none) (m x : Operand) (hop : oi.op = Op.lookup 42 m x true) (b : Nat) (hm : a.eval m = .map (some b)) (hx : a.eval x = .string k) {r1 : ByteArray} {r2 : Bool} (hM : MR w base (.map (some b)) l) (hA : mget.f l k = some (r1, r2))
    (h : ∀ w', Below w.heap.size w w' → wpList Tryd.prog ops Q rest (a.put (some N) (.tuple #[.string r1, .bool r2])) w') : wpList Tryd.prog ops Q (oi :: rest) a w := by
  unfold mget.f at hA
  split at hA
  · rename_i hk
    obtain ⟨b', e, _, h2⟩ := hM
    obtain rfl := Option.some.inj (Value.map.inj e)
    obtain ⟨rfl, rfl⟩ := Prod.mk.inj (Option.some.inj hA)
    have hrun := (h2.lookS map_under Tryd.underlying9 Tryd.underlying9 (map_zero w) k (by unfold maxLen; omega)).1
    have hK := h w (Below.refl _ _)
    rw [← hd] at hK
    refine wpList_plain hg fun K' hK' => ?_
    unfold Oper.wp
    simp [execOp, hop, hm, hx, hrun, Result.andThen]
    exact hK' _ _ hK
  · cases hA
theorem matL {b : Nat} {r : ByteArray} (hM : MR w base (.map (some b)) l) (hA : mat.f l k = some r) : (Instr.lookup 42 (.map (some b)) (.string k) false).run Tryd.prog w = .ok (.string r) w := by
  unfold mat.f at hA
  split at hA
  · rename_i hk
    obtain ⟨b', e, _, h2⟩ := hM
    obtain rfl := Option.some.inj (Value.map.inj e)
    obtain rfl := Option.some.inj hA
    exact (h2.lookS map_under Tryd.underlying9 Tryd.underlying9 (map_zero w) k (by unfold maxLen; omega)).2
  · cases hA
theorem mputL (hg : oi.guard = none) (m x y : Operand) (hop : oi.op = Op.mapUpdate 42 m x y) (b : Nat) (hm : a.eval m = .map (some b)) {u : ByteArray} (hx : a.eval x = .string k) (hy : a.eval y = .string u) {l' : List S30} (hM : MR w base (.map (some b)) l) (hA : mput.f l k u = some l')
    (h : ∀ w', MR w' base (.map (some b)) l' → w.grownBy w' (some b) → (∃ es cl, w.heap[b]? = some (.map es cl)) → base ≤ b → wpList Tryd.prog ops Q rest (a.put oi.dst undef) w') : wpList Tryd.prog ops Q (oi :: rest) a w := by
  unfold mput.f at hA
  split at hA
  · rename_i hk
    split at hA
    · rename_i hu
      split at hA
      · rename_i hl
        obtain ⟨b', e, h1, h2⟩ := hM
        obtain rfl := Option.some.inj (Value.map.inj e)
        obtain rfl := Option.some.inj hA
        obtain ⟨w', hrun, h3, hgr⟩ := h2.stored map_under Tryd.underlying9 k u (.string u) (by unfold maxLen; omega) (plainElem_string Tryd.underlying9 (by unfold maxLen; omega)) (by rw [List.length_map]; unfold maxLen; omega)
        have hK := h w' ⟨b, rfl, h1, by rw [prs, List.map_append]; exact h3⟩ hgr h2.block h1
        refine wpList_plain hg fun K' hK' => ?_
        unfold Oper.wp
        simp [execOp, hop, hm, hx, hy, hrun, Result.andThen]
        exact hK' _ _ hK
      · cases hA
    · cases hA
  · cases hA
theorem mmakeL (N : Tmp) (hd : oi.dst = some N) (hg : oi.guard = none) (hop : oi.op = Op.makeMap 42 none) {w0 : World} (hB : Below w0.heap.size w0 w)
    (h : ∀ b w', MR w' w0.heap.size (.map (some b)) [] → Below w.heap.size w w' → wpList Tryd.prog ops Q rest (a.put (some N) (.map (some b))) w') : wpList Tryd.prog ops Q (oi :: rest) a w := by
  have hK := h w.heap.size (w.alloc (.map #[] 0)) ⟨_, rfl, hB.size, MapAt.new w _ _ _ _⟩ (below_alloc (Below.refl _ _) _)
  rw [← hd] at hK
  refine wpList_plain hg fun K' hK' => ?_
  have hrun := @run_makeMap Tryd.prog
  unfold Oper.wp
  simp [execOp, hop, hrun, Result.andThen]
  exact hK' _ _ hK
end
/-! #### a map from string to int: only 0 and 1 are stored -/
def encB (s : ByteArray) : Lit := .int .i64 (if s.size = 0 then 0 else 1)
theorem MapAt.lookB {P : Program} {T K E : TypeId} {w : World} {b : Nat} {l : List (ByteArray × ByteArray)} (hT : P.underlying T = some (.map K E)) (hK : P.underlying K = some .string) (hE : P.underlying E = some (.int .i64)) (hz : (zeroValue E).run P w = .ok (.int .i64 0) w) (h : MapAt P K E encB w b l) (k : ByteArray) (hk : k.size ≤ maxLen) :
    (Instr.lookup T (.map (some b)) (.string k) false).run P w = .ok (.int .i64 (match mlook l k with | some s => (if s.size = 0 then 0 else 1) | none => 0)) w := by
  obtain ⟨D, h1, h2⟩ := h
  obtain ⟨c, hrun, hv, _⟩ := h1.lookup_int (Maps.string_keyed hK) hT hE hz (WideMaps.keyOf_string_mk hK hk)
  have h3 := hv.symm.trans ((h2 k hk).1 _)
  have : c = (match mlook l k with | some s => (if s.size = 0 then 0 else 1) | none => 0) := by
    cases hm : mlook l k with
    | none => rw [hm] at h3; exact (Lit.int.inj (DataW.lit.inj h3)).2
    | some u => rw [hm] at h3; exact (Lit.int.inj (DataW.lit.inj h3)).2
  rw [this] at hrun
  exact hrun
def MRI (w : World) (base : Nat) (v : Value) (l : List S30) : Prop := ∃ b, v = .map (some b) ∧ base ≤ b ∧ MapAt Tryd.prog 9 3 encB w b (prs l)
section
variable {w w1 : World} {base : Nat} {v : Value} {l : List S30}
theorem MRI_below (h : MRI w base v l) (hb : Below w.heap.size w w1) : MRI w1 base v l := by
  obtain ⟨b, e, h1, h2⟩ := h; exact ⟨b, e, h1, h2.kept (grown_of_below hb none) (by simp)⟩
theorem MRI_alloc (h : MRI w base v l) (o : Obj) : MRI (w.alloc o) base v l := MRI_below h (below_alloc (Below.refl _ _) o)
theorem MRI_drew (h : MRI w base v l) : MRI w.drew base v l := MRI_below h (below_drew (Below.refl _ _))
theorem MRI_drewN (h : MRI w base v l) (m : Nat) : MRI (w.drewN m) base v l := MRI_below h (pw_below_drewN (Below.refl _ _) m)
theorem MRI_set (h : MRI w base v l) (a : Addr) (u : Value) : MRI (w.setCell a u) base v l := by
  obtain ⟨b, e, h1, h2⟩ := h; exact ⟨b, e, h1, h2.setCell a u⟩
theorem MRI_over {α : Type} {d : Kd α} {e b' : Nat} {ok : Nat → Prop} {u : Value} {xs : List α} (h : MRI w base v l) (hr : d.R e w b' ok u xs) (hg : w.grownBy w1 u.ownBlock) : MRI w1 base v l := by
  obtain ⟨b, e', h1, h2⟩ := h
  refine ⟨b, e', h1, h2.kept hg (fun hk => ?_)⟩
  obtain ⟨es, cl, hm⟩ := h2.block
  obtain ⟨_, _, _, q, _, cells, hc⟩ := (Kd.R_bound hr).1 b hk.symm
  rw [hm] at hc; cases hc
end
def matI.f (l : List S30) (k : ByteArray) : Option Int := if k.size ≤ 140737488355328 then some (match mlk l k with | some s => (if s.size = 0 then 0 else 1) | none => 0) else none
def mputI.f (l : List S30) (k : ByteArray) (n : Int) : Option (List S30) := if k.size ≤ 140737488355328 then (if l.length < 8796093022208 then (if n = 0 then some (l ++ [⟨k, ⟨#[]⟩⟩]) else (if n = 1 then some (l ++ [⟨k, ⟨#[49]⟩⟩]) else none)) else none) else none
theorem mapI_under : Tryd.prog.underlying 58 = some (.map 9 3) := by kernel_rfl
theorem mapI_zero (w : World) : (zeroValue 3).run Tryd.prog w = .ok (.int .i64 0) w := by kernel_rfl
section
variable {ops : Array Oper} {rest : List Oper} {oi : Oper} {a : Act} {w : World} {Q : Exit → Act → World → Prop} {base : Nat} {l : List S30} {k : ByteArray}
theorem matIL (N : Tmp) (hd : oi.dst = some N) (hg : oi.guard = none) (m x : Operand) (hop : oi.op = Op.lookup 58 m x false) (b : Nat) (hm : a.eval m = .map (some b)) (hx : a.eval x = .string k) {r : Int} (hM : MRI w base (.map (some b)) l) (hA : matI.f l k = some r)
    (h : ∀ w', Below w.heap.size w w' → wpList Tryd.prog ops Q rest (a.put (some N) (.int .i64 r)) w') : wpList Tryd.prog ops Q (oi :: rest) a w := by
  unfold matI.f at hA
  split at hA
  · rename_i hk
    obtain ⟨b', e, _, h2⟩ := hM
    obtain rfl := Option.some.inj (Value.map.inj e)
    have hr := Option.some.inj hA
    have hrun := h2.lookB mapI_under Tryd.underlying9 Tryd.underlying3 (mapI_zero w) k (by unfold maxLen; omega)
    rw [show (match mlook (prs l) k with | some s => (if s.size = 0 then (0 : Int) else 1) | none => 0) = r from hr] at hrun
    have hK := h w (Below.refl _ _)
    rw [← hd] at hK
    refine wpList_plain hg fun K' hK' => ?_
    unfold Oper.wp
    simp [execOp, hop, hm, hx, hrun, Result.andThen]
    exact hK' _ _ hK
  · cases hA
theorem mputIL (hg : oi.guard = none) (m x y : Operand) (hop : oi.op = Op.mapUpdate 58 m x y) (b : Nat) (hm : a.eval m = .map (some b)) {n : Int} (hx : a.eval x = .string k) (hy : a.eval y = .int .i64 n) {l' : List S30} (hM : MRI w base (.map (some b)) l) (hA : mputI.f l k n = some l')
    (h : ∀ w', MRI w' base (.map (some b)) l' → w.grownBy w' (some b) → (∃ es cl, w.heap[b]? = some (.map es cl)) → base ≤ b → wpList Tryd.prog ops Q rest (a.put oi.dst undef) w') : wpList Tryd.prog ops Q (oi :: rest) a w := by
  have key : k.size ≤ 140737488355328 ∧ l.length < 8796093022208 ∧ ∃ u : ByteArray, l' = l ++ [⟨k, u⟩] ∧ encB u = .int .i64 n := by
    unfold mputI.f at hA
    split at hA
    · rename_i hk
      split at hA
      · rename_i hl
        refine ⟨hk, hl, ?_⟩
        split at hA
        · rename_i hn; subst hn; exact ⟨_, (Option.some.inj hA).symm, rfl⟩
        · split at hA
          · rename_i hn; subst hn; exact ⟨_, (Option.some.inj hA).symm, rfl⟩
          · cases hA
      · cases hA
    · cases hA
  obtain ⟨hk, hl, u, rfl, hu⟩ := key
  obtain ⟨b', e, h1, h2⟩ := hM
  obtain rfl := Option.some.inj (Value.map.inj e)
  have hwf : (Lit.int .i64 n).wf = true := by
    rw [← hu]; unfold encB; split <;> decide
  obtain ⟨w', hrun, h3, hgr⟩ := h2.stored mapI_under Tryd.underlying9 k u (.int .i64 n) (by unfold maxLen; omega) (by rw [hu]; exact plainElem_int Tryd.underlying3 hwf) (by rw [List.length_map]; unfold maxLen; omega)
  have hK := h w' ⟨b, rfl, h1, by rw [prs, List.map_append]; exact h3⟩ hgr h2.block h1
  refine wpList_plain hg fun K' hK' => ?_
  unfold Oper.wp
  simp [execOp, hop, hm, hx, hy, hrun, Result.andThen]
  exact hK' _ _ hK
theorem mmakeIL (N : Tmp) (hd : oi.dst = some N) (hg : oi.guard = none) (hop : oi.op = Op.makeMap 58 none) {w0 : World} (hB : Below w0.heap.size w0 w)
    (h : ∀ b w', MRI w' w0.heap.size (.map (some b)) [] → Below w.heap.size w w' → wpList Tryd.prog ops Q rest (a.put (some N) (.map (some b))) w') : wpList Tryd.prog ops Q (oi :: rest) a w := by
  have hK := h w.heap.size (w.alloc (.map #[] 0)) ⟨_, rfl, hB.size, MapAt.new w _ _ _ _⟩ (below_alloc (Below.refl _ _) _)
  rw [← hd] at hK
  refine wpList_plain hg fun K' hK' => ?_
  have hrun := @run_makeMap Tryd.prog
  unfold Oper.wp
  simp [execOp, hop, hrun, Result.andThen]
  exact hK' _ _ hK
end
mutual
def msg_Two.l0 : Nat → List (S30) → Bool → List (S30) → Int → Int → ByteArray → ByteArray → ByteArray → ByteArray → List (S30) → ByteArray → Option (ByteArray × ByteArray × ByteArray × ByteArray × (List (S30)) × ByteArray × (List (S30)) × Int)
  | 0, _, _, _, _, _, _, _, _, _, _, _ => none
  | k + 1, x4, x6, x19, x20, x21, x129000, x129001, x129002, x129003, x129004, x129005 => if x21 < x20 then (if 0 ≤ x21 then (if x21 < (x19.length : Int) then ((mget.f x4 ((rd_T30 x19 x21).f0)).bind fun bt131 => ((msg_pseudo.f ((rd_T30 x19 x21).f0)).bind fun t133 => (if t133 = true then (if ((rd_T30 x19 x21).f0).toList = ([58, 109, 101, 116, 104, 111, 100] : List UInt8) then (msg_Two.j1 k x4 x6 bt131.2 x19 x20 x21 (((rd_T30 x19 x21).f0).toList == ([58, 109, 101, 116, 104, 111, 100] : List UInt8)) x129000 x129001 x129002 x129003 x129004 x129005 ((rd_T30 x19 x21).f0) ((rd_T30 x19 x21).f1)) else (if ((rd_T30 x19 x21).f0).toList = ([58, 115, 99, 104, 101, 109, 101] : List UInt8) then (msg_Two.j1 k x4 x6 bt131.2 x19 x20 x21 (((rd_T30 x19 x21).f0).toList == ([58, 115, 99, 104, 101, 109, 101] : List UInt8)) x129000 x129001 x129002 x129003 x129004 x129005 ((rd_T30 x19 x21).f0) ((rd_T30 x19 x21).f1)) else (if ((rd_T30 x19 x21).f0).toList = ([58, 112, 97, 116, 104] : List UInt8) then (msg_Two.j1 k x4 x6 bt131.2 x19 x20 x21 (((rd_T30 x19 x21).f0).toList == ([58, 112, 97, 116, 104] : List UInt8)) x129000 x129001 x129002 x129003 x129004 x129005 ((rd_T30 x19 x21).f0) ((rd_T30 x19 x21).f1)) else (msg_Two.j1 k x4 x6 bt131.2 x19 x20 x21 (((rd_T30 x19 x21).f0).toList == ([58, 97, 117, 116, 104, 111, 114, 105, 116, 121] : List UInt8)) x129000 x129001 x129002 x129003 x129004 x129005 ((rd_T30 x19 x21).f0) ((rd_T30 x19 x21).f1))))) else ((msg_plain.f k ((rd_T30 x19 x21).f0) ((rd_T30 x19 x21).f1)).bind fun t137 => (if t137 = true then (if ((rd_T30 x19 x21).f0).toList = ([116, 101] : List UInt8) then (if ((rd_T30 x19 x21).f1).toList = ([116, 114, 97, 105, 108, 101, 114, 115] : List UInt8) then (if ((rd_T30 x19 x21).f0).toList = ([104, 111, 115, 116] : List UInt8) then (msg_Two.j2 k x4 true x19 x20 x21 bt131.2 x129000 x129001 x129002 x129003 x129004 x129005 ((rd_T30 x19 x21).f0) ((rd_T30 x19 x21).f1)) else (msg_Two.j2 k x4 true x19 x20 x21 false x129000 x129001 x129002 x129003 x129004 x129005 ((rd_T30 x19 x21).f0) ((rd_T30 x19 x21).f1))) else (msg_Two.j2 k x4 true x19 x20 x21 (((rd_T30 x19 x21).f1).toList != ([116, 114, 97, 105, 108, 101, 114, 115] : List UInt8)) x129000 x129001 x129002 x129003 x129004 x129005 ((rd_T30 x19 x21).f0) ((rd_T30 x19 x21).f1))) else (if ((rd_T30 x19 x21).f0).toList = ([104, 111, 115, 116] : List UInt8) then (msg_Two.j2 k x4 true x19 x20 x21 bt131.2 x129000 x129001 x129002 x129003 x129004 x129005 ((rd_T30 x19 x21).f0) ((rd_T30 x19 x21).f1)) else (msg_Two.j2 k x4 true x19 x20 x21 false x129000 x129001 x129002 x129003 x129004 x129005 ((rd_T30 x19 x21).f0) ((rd_T30 x19 x21).f1)))) else (msg_Two.j2 k x4 true x19 x20 x21 (!t137) x129000 x129001 x129002 x129003 x129004 x129005 ((rd_T30 x19 x21).f0) ((rd_T30 x19 x21).f1))))))) else (none)) else (none)) else ((mat.f x4 (⟨#[58, 109, 101, 116, 104, 111, 100]⟩ : ByteArray)).bind fun t144 => ((mat.f x4 (⟨#[58, 115, 99, 104, 101, 109, 101]⟩ : ByteArray)).bind fun t145 => ((mat.f x4 (⟨#[58, 112, 97, 116, 104]⟩ : ByteArray)).bind fun t146 => ((text_Token.f k t144).bind fun t147 => (if t147 = true then (if t145.toList = ([104, 116, 116, 112] : List UInt8) then ((msg_goes.f k t144 t146).bind fun t148 => (msg_Two.j3 k x4 (!t148) t144 t145 x129002 t146 x129004 x129005)) else (if t145.toList = ([104, 116, 116, 112, 115] : List UInt8) then ((msg_goes.f k t144 t146).bind fun t149 => (msg_Two.j3 k x4 (!t149) t144 t145 x129002 t146 x129004 x129005)) else (msg_Two.j3 k x4 true t144 t145 x129002 t146 x129004 x129005))) else (msg_Two.j3 k x4 true t144 t145 x129002 t146 x129004 x129005))))))
def msg_Two.j1 : Nat → List (S30) → Bool → Bool → List (S30) → Int → Int → Bool → ByteArray → ByteArray → ByteArray → ByteArray → List (S30) → ByteArray → ByteArray → ByteArray → Option (ByteArray × ByteArray × ByteArray × ByteArray × (List (S30)) × ByteArray × (List (S30)) × Int)
  | 0, _, _, _, _, _, _, _, _, _, _, _, _, _, _, _ => none
  | k + 1, x4, x6, x10, x19, x20, x21, x38, x129000, x129001, x129002, x129003, x129004, x129005, x131000, x131001 => if x38 = true then (if x6 = true then (some ((⟨#[]⟩ : ByteArray), (⟨#[]⟩ : ByteArray), (⟨#[]⟩ : ByteArray), (⟨#[]⟩ : ByteArray), ([] : List (S30)), (⟨#[]⟩ : ByteArray), ([] : List (S30)), 140)) else (if x10 = true then (some ((⟨#[]⟩ : ByteArray), (⟨#[]⟩ : ByteArray), (⟨#[]⟩ : ByteArray), (⟨#[]⟩ : ByteArray), ([] : List (S30)), (⟨#[]⟩ : ByteArray), ([] : List (S30)), 140)) else ((mput.f x4 x131000 x131001).bind fun t134 => (msg_Two.l0 k t134 x6 x19 x20 (wrap64 (x21 + 1)) x129000 x129001 x129002 x129003 x129004 x129005)))) else (some ((⟨#[]⟩ : ByteArray), (⟨#[]⟩ : ByteArray), (⟨#[]⟩ : ByteArray), (⟨#[]⟩ : ByteArray), ([] : List (S30)), (⟨#[]⟩ : ByteArray), ([] : List (S30)), 140))
def msg_Two.j2 : Nat → List (S30) → Bool → List (S30) → Int → Int → Bool → ByteArray → ByteArray → ByteArray → ByteArray → List (S30) → ByteArray → ByteArray → ByteArray → Option (ByteArray × ByteArray × ByteArray × ByteArray × (List (S30)) × ByteArray × (List (S30)) × Int)
  | 0, _, _, _, _, _, _, _, _, _, _, _, _, _, _ => none
  | k + 1, x4, x6, x19, x20, x21, x53, x129000, x129001, x129002, x129003, x129004, x129005, x131000, x131001 => if x53 = true then (some ((⟨#[]⟩ : ByteArray), (⟨#[]⟩ : ByteArray), (⟨#[]⟩ : ByteArray), (⟨#[]⟩ : ByteArray), ([] : List (S30)), (⟨#[]⟩ : ByteArray), ([] : List (S30)), 141)) else (if x131000.toList = ([104, 111, 115, 116] : List UInt8) then ((mput.f x4 x131000 x131001).bind fun t138 => (msg_Two.l0 k t138 x6 x19 x20 (wrap64 (x21 + 1)) x129000 x129001 x129002 x129003 x129004 x129005)) else (if x131000.toList = ([116, 101] : List UInt8) then (msg_Two.l0 k x4 x6 x19 x20 (wrap64 (x21 + 1)) x129000 x129001 x129002 x129003 x129004 x129005) else (if x129004.length < 4398046511104 then (msg_Two.l0 k x4 x6 x19 x20 (wrap64 (x21 + 1)) x129000 x129001 x129002 x129003 (x129004 ++ [(⟨x131000, x131001⟩ : S30)]) x129005) else (none))))
def msg_Two.j3 : Nat → List (S30) → Bool → ByteArray → ByteArray → ByteArray → ByteArray → List (S30) → ByteArray → Option (ByteArray × ByteArray × ByteArray × ByteArray × (List (S30)) × ByteArray × (List (S30)) × Int)
  | 0, _, _, _, _, _, _, _, _ => none
  | k + 1, x4, x122, x129000, x129001, x129002, x129003, x129004, x129005 => if x122 = true then (some ((⟨#[]⟩ : ByteArray), (⟨#[]⟩ : ByteArray), (⟨#[]⟩ : ByteArray), (⟨#[]⟩ : ByteArray), ([] : List (S30)), (⟨#[]⟩ : ByteArray), ([] : List (S30)), 140)) else ((mget.f x4 (⟨#[58, 97, 117, 116, 104, 111, 114, 105, 116, 121]⟩ : ByteArray)).bind fun bt150 => ((mget.f x4 (⟨#[104, 111, 115, 116]⟩ : ByteArray)).bind fun bt152 => (if bt150.2 = true then (if bt152.2 = true then (msg_Two.j4 k bt150.1 bt150.2 bt152.1 (bt150.1.toList != bt152.1.toList) x129000 x129001 x129002 x129003 x129004 x129005) else (msg_Two.j4 k bt150.1 bt150.2 bt152.1 false x129000 x129001 x129002 x129003 x129004 x129005)) else (msg_Two.j4 k bt150.1 bt150.2 bt152.1 false x129000 x129001 x129002 x129003 x129004 x129005))))
def msg_Two.j4 : Nat → ByteArray → Bool → ByteArray → Bool → ByteArray → ByteArray → ByteArray → ByteArray → List (S30) → ByteArray → Option (ByteArray × ByteArray × ByteArray × ByteArray × (List (S30)) × ByteArray × (List (S30)) × Int)
  | 0, _, _, _, _, _, _, _, _, _, _ => none
  | k + 1, x11, x12, x13, x142, x129000, x129001, x129002, x129003, x129004, x129005 => if x142 = true then (some ((⟨#[]⟩ : ByteArray), (⟨#[]⟩ : ByteArray), (⟨#[]⟩ : ByteArray), (⟨#[]⟩ : ByteArray), ([] : List (S30)), (⟨#[]⟩ : ByteArray), ([] : List (S30)), 141)) else (if x12 = true then ((msg_Length.f k x129004).bind fun bt154 => (if bt154.2.2 = 0 then (some (x129000, x129001, x11, x129003, x129004, x129005, ([] : List (S30)), 0)) else (some ((⟨#[]⟩ : ByteArray), (⟨#[]⟩ : ByteArray), (⟨#[]⟩ : ByteArray), (⟨#[]⟩ : ByteArray), ([] : List (S30)), (⟨#[]⟩ : ByteArray), ([] : List (S30)), bt154.2.2)))) else ((msg_Length.f k x129004).bind fun bt157 => (if bt157.2.2 = 0 then (some (x129000, x129001, x13, x129003, x129004, x129005, ([] : List (S30)), 0)) else (some ((⟨#[]⟩ : ByteArray), (⟨#[]⟩ : ByteArray), (⟨#[]⟩ : ByteArray), (⟨#[]⟩ : ByteArray), ([] : List (S30)), (⟨#[]⟩ : ByteArray), ([] : List (S30)), bt157.2.2)))))
end
def msg_Two.f (k : Nat) (l0 : List (S30)) : Option (ByteArray × ByteArray × ByteArray × ByteArray × (List (S30)) × ByteArray × (List (S30)) × Int) := msg_Two.l0 k ([] : List (S30)) false l0 (l0.length : Int) 0 (⟨#[]⟩ : ByteArray) (⟨#[]⟩ : ByteArray) (⟨#[]⟩ : ByteArray) (⟨#[]⟩ : ByteArray) ([] : List (S30)) (⟨#[]⟩ : ByteArray)
theorem msg_Two.mono_l : ∀ k, (∀ y0 y1 y2 y3 y4 y5 y6 y7 y8 y9 y10, LeO (msg_Two.l0 k y0 y1 y2 y3 y4 y5 y6 y7 y8 y9 y10) (msg_Two.l0 (k + 1) y0 y1 y2 y3 y4 y5 y6 y7 y8 y9 y10)) ∧ (∀ y0 y1 y2 y3 y4 y5 y6 y7 y8 y9 y10 y11 y12 y13 y14, LeO (msg_Two.j1 k y0 y1 y2 y3 y4 y5 y6 y7 y8 y9 y10 y11 y12 y13 y14) (msg_Two.j1 (k + 1) y0 y1 y2 y3 y4 y5 y6 y7 y8 y9 y10 y11 y12 y13 y14)) ∧ (∀ y0 y1 y2 y3 y4 y5 y6 y7 y8 y9 y10 y11 y12 y13, LeO (msg_Two.j2 k y0 y1 y2 y3 y4 y5 y6 y7 y8 y9 y10 y11 y12 y13) (msg_Two.j2 (k + 1) y0 y1 y2 y3 y4 y5 y6 y7 y8 y9 y10 y11 y12 y13)) ∧ (∀ y0 y1 y2 y3 y4 y5 y6 y7, LeO (msg_Two.j3 k y0 y1 y2 y3 y4 y5 y6 y7) (msg_Two.j3 (k + 1) y0 y1 y2 y3 y4 y5 y6 y7)) ∧ (∀ y0 y1 y2 y3 y4 y5 y6 y7 y8 y9, LeO (msg_Two.j4 k y0 y1 y2 y3 y4 y5 y6 y7 y8 y9) (msg_Two.j4 (k + 1) y0 y1 y2 y3 y4 y5 y6 y7 y8 y9))
 | 0 => ⟨fun _ _ _ _ _ _ _ _ _ _ _ r h => by simp [msg_Two.l0] at h, fun _ _ _ _ _ _ _ _ _ _ _ _ _ _ _ r h => by simp [msg_Two.j1] at h, fun _ _ _ _ _ _ _ _ _ _ _ _ _ _ r h => by simp [msg_Two.j2] at h, fun _ _ _ _ _ _ _ _ r h => by simp [msg_Two.j3] at h, fun _ _ _ _ _ _ _ _ _ _ r h => by simp [msg_Two.j4] at h⟩
 | k + 1 => by
  obtain ⟨ih0, ih1, ih2, ih3, ih4⟩ := msg_Two.mono_l k
  refine ⟨?_, ?_, ?_, ?_, ?_⟩
  ·
   intro y0 y1 y2 y3 y4 y5 y6 y7 y8 y9 y10
   unfold msg_Two.l0
   repeat' first
   | (with_reducible exact ih0 _ _ _ _ _ _ _ _ _ _ _)
   | (with_reducible exact ih1 _ _ _ _ _ _ _ _ _ _ _ _ _ _ _)
   | (with_reducible exact ih2 _ _ _ _ _ _ _ _ _ _ _ _ _ _)
   | (with_reducible exact ih3 _ _ _ _ _ _ _ _)
   | (with_reducible exact ih4 _ _ _ _ _ _ _ _ _ _)
   | (with_reducible exact msg_Length.mono _ _)
   | (with_reducible exact msg_goes.mono _ _ _)
   | (with_reducible exact msg_plain.mono _ _ _)
   | (with_reducible exact text_Token.mono _ _)
   | (with_reducible exact LeO.refl _)
   | (with_reducible exact LeO.none _)
   | (with_reducible refine LeO.ite ?_ ?_)
   | (with_reducible refine LeO.bind ?_ (fun _ => ?_))
   | exact ih0 _ _ _ _ _ _ _ _ _ _ _
   | exact ih1 _ _ _ _ _ _ _ _ _ _ _ _ _ _ _
   | exact ih2 _ _ _ _ _ _ _ _ _ _ _ _ _ _
   | exact ih3 _ _ _ _ _ _ _ _
   | exact ih4 _ _ _ _ _ _ _ _ _ _
   | exact msg_Length.mono _ _
   | exact msg_goes.mono _ _ _
   | exact msg_plain.mono _ _ _
   | exact text_Token.mono _ _
   | exact LeO.none _
   | refine LeO.ite ?_ ?_
   | refine LeO.bind ?_ (fun _ => ?_)
  ·
   intro y0 y1 y2 y3 y4 y5 y6 y7 y8 y9 y10 y11 y12 y13 y14
   unfold msg_Two.j1
   repeat' first
   | (with_reducible exact ih0 _ _ _ _ _ _ _ _ _ _ _)
   | (with_reducible exact ih1 _ _ _ _ _ _ _ _ _ _ _ _ _ _ _)
   | (with_reducible exact ih2 _ _ _ _ _ _ _ _ _ _ _ _ _ _)
   | (with_reducible exact ih3 _ _ _ _ _ _ _ _)
   | (with_reducible exact ih4 _ _ _ _ _ _ _ _ _ _)
   | (with_reducible exact msg_Length.mono _ _)
   | (with_reducible exact msg_goes.mono _ _ _)
   | (with_reducible exact msg_plain.mono _ _ _)
   | (with_reducible exact text_Token.mono _ _)
   | (with_reducible exact LeO.refl _)
   | (with_reducible exact LeO.none _)
   | (with_reducible refine LeO.ite ?_ ?_)
   | (with_reducible refine LeO.bind ?_ (fun _ => ?_))
   | exact ih0 _ _ _ _ _ _ _ _ _ _ _
   | exact ih1 _ _ _ _ _ _ _ _ _ _ _ _ _ _ _
   | exact ih2 _ _ _ _ _ _ _ _ _ _ _ _ _ _
   | exact ih3 _ _ _ _ _ _ _ _
   | exact ih4 _ _ _ _ _ _ _ _ _ _
   | exact msg_Length.mono _ _
   | exact msg_goes.mono _ _ _
   | exact msg_plain.mono _ _ _
   | exact text_Token.mono _ _
   | exact LeO.none _
   | refine LeO.ite ?_ ?_
   | refine LeO.bind ?_ (fun _ => ?_)
  ·
   intro y0 y1 y2 y3 y4 y5 y6 y7 y8 y9 y10 y11 y12 y13
   unfold msg_Two.j2
   repeat' first
   | (with_reducible exact ih0 _ _ _ _ _ _ _ _ _ _ _)
   | (with_reducible exact ih1 _ _ _ _ _ _ _ _ _ _ _ _ _ _ _)
   | (with_reducible exact ih2 _ _ _ _ _ _ _ _ _ _ _ _ _ _)
   | (with_reducible exact ih3 _ _ _ _ _ _ _ _)
   | (with_reducible exact ih4 _ _ _ _ _ _ _ _ _ _)
   | (with_reducible exact msg_Length.mono _ _)
   | (with_reducible exact msg_goes.mono _ _ _)
   | (with_reducible exact msg_plain.mono _ _ _)
   | (with_reducible exact text_Token.mono _ _)
   | (with_reducible exact LeO.refl _)
   | (with_reducible exact LeO.none _)
   | (with_reducible refine LeO.ite ?_ ?_)
   | (with_reducible refine LeO.bind ?_ (fun _ => ?_))
   | exact ih0 _ _ _ _ _ _ _ _ _ _ _
   | exact ih1 _ _ _ _ _ _ _ _ _ _ _ _ _ _ _
   | exact ih2 _ _ _ _ _ _ _ _ _ _ _ _ _ _
   | exact ih3 _ _ _ _ _ _ _ _
   | exact ih4 _ _ _ _ _ _ _ _ _ _
   | exact msg_Length.mono _ _
   | exact msg_goes.mono _ _ _
   | exact msg_plain.mono _ _ _
   | exact text_Token.mono _ _
   | exact LeO.none _
   | refine LeO.ite ?_ ?_
   | refine LeO.bind ?_ (fun _ => ?_)
  ·
   intro y0 y1 y2 y3 y4 y5 y6 y7
   unfold msg_Two.j3
   repeat' first
   | (with_reducible exact ih0 _ _ _ _ _ _ _ _ _ _ _)
   | (with_reducible exact ih1 _ _ _ _ _ _ _ _ _ _ _ _ _ _ _)
   | (with_reducible exact ih2 _ _ _ _ _ _ _ _ _ _ _ _ _ _)
   | (with_reducible exact ih3 _ _ _ _ _ _ _ _)
   | (with_reducible exact ih4 _ _ _ _ _ _ _ _ _ _)
   | (with_reducible exact msg_Length.mono _ _)
   | (with_reducible exact msg_goes.mono _ _ _)
   | (with_reducible exact msg_plain.mono _ _ _)
   | (with_reducible exact text_Token.mono _ _)
   | (with_reducible exact LeO.refl _)
   | (with_reducible exact LeO.none _)
   | (with_reducible refine LeO.ite ?_ ?_)
   | (with_reducible refine LeO.bind ?_ (fun _ => ?_))
   | exact ih0 _ _ _ _ _ _ _ _ _ _ _
   | exact ih1 _ _ _ _ _ _ _ _ _ _ _ _ _ _ _
   | exact ih2 _ _ _ _ _ _ _ _ _ _ _ _ _ _
   | exact ih3 _ _ _ _ _ _ _ _
   | exact ih4 _ _ _ _ _ _ _ _ _ _
   | exact msg_Length.mono _ _
   | exact msg_goes.mono _ _ _
   | exact msg_plain.mono _ _ _
   | exact text_Token.mono _ _
   | exact LeO.none _
   | refine LeO.ite ?_ ?_
   | refine LeO.bind ?_ (fun _ => ?_)
  ·
   intro y0 y1 y2 y3 y4 y5 y6 y7 y8 y9
   unfold msg_Two.j4
   repeat' first
   | (with_reducible exact ih0 _ _ _ _ _ _ _ _ _ _ _)
   | (with_reducible exact ih1 _ _ _ _ _ _ _ _ _ _ _ _ _ _ _)
   | (with_reducible exact ih2 _ _ _ _ _ _ _ _ _ _ _ _ _ _)
   | (with_reducible exact ih3 _ _ _ _ _ _ _ _)
   | (with_reducible exact ih4 _ _ _ _ _ _ _ _ _ _)
   | (with_reducible exact msg_Length.mono _ _)
   | (with_reducible exact msg_goes.mono _ _ _)
   | (with_reducible exact msg_plain.mono _ _ _)
   | (with_reducible exact text_Token.mono _ _)
   | (with_reducible exact LeO.refl _)
   | (with_reducible exact LeO.none _)
   | (with_reducible refine LeO.ite ?_ ?_)
   | (with_reducible refine LeO.bind ?_ (fun _ => ?_))
   | exact ih0 _ _ _ _ _ _ _ _ _ _ _
   | exact ih1 _ _ _ _ _ _ _ _ _ _ _ _ _ _ _
   | exact ih2 _ _ _ _ _ _ _ _ _ _ _ _ _ _
   | exact ih3 _ _ _ _ _ _ _ _
   | exact ih4 _ _ _ _ _ _ _ _ _ _
   | exact msg_Length.mono _ _
   | exact msg_goes.mono _ _ _
   | exact msg_plain.mono _ _ _
   | exact text_Token.mono _ _
   | exact LeO.none _
   | refine LeO.ite ?_ ?_
   | refine LeO.bind ?_ (fun _ => ?_)
theorem msg_Two.mono : ∀ a0 k, LeO (msg_Two.f k a0) (msg_Two.f (k + 1) a0) := by
 intro a0 k
 obtain ⟨ih0, ih1, ih2, ih3, ih4⟩ := msg_Two.mono_l k
 unfold msg_Two.f
 repeat' first
   | (with_reducible exact ih0 _ _ _ _ _ _ _ _ _ _ _)
   | (with_reducible exact ih1 _ _ _ _ _ _ _ _ _ _ _ _ _ _ _)
   | (with_reducible exact ih2 _ _ _ _ _ _ _ _ _ _ _ _ _ _)
   | (with_reducible exact ih3 _ _ _ _ _ _ _ _)
   | (with_reducible exact ih4 _ _ _ _ _ _ _ _ _ _)
   | (with_reducible exact msg_Length.mono _ _)
   | (with_reducible exact msg_goes.mono _ _ _)
   | (with_reducible exact msg_plain.mono _ _ _)
   | (with_reducible exact text_Token.mono _ _)
   | (with_reducible exact LeO.refl _)
   | (with_reducible exact LeO.none _)
   | (with_reducible refine LeO.ite ?_ ?_)
   | (with_reducible refine LeO.bind ?_ (fun _ => ?_))
   | exact ih0 _ _ _ _ _ _ _ _ _ _ _
   | exact ih1 _ _ _ _ _ _ _ _ _ _ _ _ _ _ _
   | exact ih2 _ _ _ _ _ _ _ _ _ _ _ _ _ _
   | exact ih3 _ _ _ _ _ _ _ _
   | exact ih4 _ _ _ _ _ _ _ _ _ _
   | exact msg_Length.mono _ _
   | exact msg_goes.mono _ _ _
   | exact msg_plain.mono _ _ _
   | exact text_Token.mono _ _
   | exact LeO.none _
   | refine LeO.ite ?_ ?_
   | refine LeO.bind ?_ (fun _ => ?_)
set_option maxHeartbeats 100000000 in
set_option maxRecDepth 100000 in
theorem msg_Two.calls (k : Nat) (A0 : Option Addr) (c0 : Nat) (l0 : List (S30)) (r1 : ByteArray) (r2 : ByteArray) (r3 : ByteArray) (r4 : ByteArray) (r5 : List (S30)) (r6 : ByteArray) (r7 : List (S30)) (r8 : Int) (w : World) (hG : GI w) (hr0 : Kd.C k30 w A0 l0.length l0) (hc0 : l0.length ≤ c0) (h : msg_Two.f k l0 = some (r1, r2, r3, r4, r5, r6, r7, r8)) :
  Calls Tryd.prog 6 #[.slice A0 l0.length c0] w fun e w' => ∃ v4_ v6_ : Value, e = .returned (.tuple #[.agg #[.string r1, .string r2, .string r3, .string r4, v4_, .string r6, v6_], .int .i64 r8]) ∧ Kd.R k30 30 w' w.heap.size (fun k_ => some k_ ≠ (v6_ : Value).ownBlock) v4_ r5 ∧ Kd.R k30 30 w' w.heap.size (fun k_ => some k_ ≠ (v4_ : Value).ownBlock) v6_ r7 ∧ Below w.heap.size w w' := by
 have hu24 := Tryd.underlying24
 have hu30 := Tryd.underlying30
 have HR0 := Aside0.mk hr0
 have HC0 := Aside0.mk hc0
 clear hr0 hc0
 have HB := Aside0.mk (Below.refl w.heap.size w)
 have HG := Aside0.mk hG
 clear hG
 have H : (msg_Two.l0 k ([] : List (S30)) false l0 (l0.length : Int) 0 (⟨#[]⟩ : ByteArray) (⟨#[]⟩ : ByteArray) (⟨#[]⟩ : ByteArray) (⟨#[]⟩ : ByteArray) ([] : List (S30)) (⟨#[]⟩ : ByteArray)) = some (r1, r2, r3, r4, r5, r6, r7, r8) := h
 clear h
 have H' := Aside0.mk H
 clear H
 go_enter Tryd.func6, Tryd.ntmps6
 go_wp2_with (first | ((with_reducible refine gate_dst (N := 2) rfl ?_); refine box_event ?hg (N := 2) ?hd (cs := #[.string (⟨#[]⟩ : ByteArray), .string (⟨#[]⟩ : ByteArray), .string (⟨#[]⟩ : ByteArray), .string (⟨#[]⟩ : ByteArray), .slice none 0 0, .string (⟨#[]⟩ : ByteArray), .slice none 0 0]) (t := 24) ?hr ?_; (case hd => rfl); (case hg => rfl); (case hr => first | (go_simp; done) | (go_simp; rfl)); intro gb127 hg w2 hbox hb; have n0_ := Aside0.mk (below_step (by repeat (first | (with_reducible first | exact HB.out | apply below_alloc | apply pw_below_drewN | apply below_drew1) | exact HB.out)) hb); have n1_ := Aside0.mk (hbox); have n2_ := Aside0.mk ((by rw [hg]; exact (below_size (by repeat (first | (with_reducible first | exact HB.out | apply below_alloc | apply pw_below_drewN | apply below_drew1) | exact HB.out))) : w.heap.size ≤ gb127)); have n3_ := Aside0.mk ((by rw [hg]; exact (below_size (by repeat (first | (with_reducible first | exact HB.out | apply below_alloc | apply pw_below_drewN | apply below_drew1) | exact HB.out))) : w.heap.size ≤ gb127)); clear HB; have HB := n0_; have BK127 := n1_; have GW127 := n2_; have GE127 := n3_; clear n0_ n1_ n2_ n3_; clear hb hbox hg) | ((with_reducible refine gate_dst (N := 18) rfl ?_); refine mmakeL 18 rfl rfl rfl (by repeat (first | (with_reducible first | exact HB.out | apply below_alloc | apply pw_below_drewN | apply below_drew1) | exact HB.out)) ?_; intro b4_ w4_ hM4_ hb; have n0_ := Aside0.mk (blk_below (g := gb127) (o := .cells #[.string (⟨#[]⟩ : ByteArray), .string (⟨#[]⟩ : ByteArray), .string (⟨#[]⟩ : ByteArray), .string (⟨#[]⟩ : ByteArray), .slice none 0 0, .string (⟨#[]⟩ : ByteArray), .slice none 0 0] 24 (0, 0)) (by (with_reducible repeat (first | refine blk_drewN ?_ _ | refine blk_drew ?_ | refine blk_alloc ?_ _)); exact BK127.out) hb); have n1_ := Aside0.mk (below_step (by repeat (first | (with_reducible first | exact HB.out | apply below_alloc | apply pw_below_drewN | apply below_drew1 | refine below_set ?_ GE127.out) | exact HB.out)) hb); have n2_ := Aside0.mk hM4_; clear BK127; clear HB; have BK127 := n0_; have HB := n1_; have HO_4 := n2_; clear n0_ n1_ n2_; clear hb hM4_) | ((with_reducible refine gate_dst (N := 5) rfl ?_); refine box_event ?hg (N := 5) ?hd (cs := #[.string (⟨#[]⟩ : ByteArray), .string (⟨#[]⟩ : ByteArray), .string (⟨#[]⟩ : ByteArray), .string (⟨#[]⟩ : ByteArray), .slice none 0 0, .string (⟨#[]⟩ : ByteArray), .slice none 0 0]) (t := 24) ?hr ?_; (case hd => rfl); (case hg => rfl); (case hr => first | (go_simp; done) | (go_simp; rfl)); intro gb128 hg w3 hbox hb; have n0_ := Aside0.mk (blk_below (g := gb127) (o := .cells #[.string (⟨#[]⟩ : ByteArray), .string (⟨#[]⟩ : ByteArray), .string (⟨#[]⟩ : ByteArray), .string (⟨#[]⟩ : ByteArray), .slice none 0 0, .string (⟨#[]⟩ : ByteArray), .slice none 0 0] 24 (0, 0)) (by (with_reducible repeat (first | refine blk_drewN ?_ _ | refine blk_drew ?_ | refine blk_alloc ?_ _)); exact BK127.out) hb); have n1_ := Aside0.mk (below_step (by repeat (first | (with_reducible first | exact HB.out | apply below_alloc | apply pw_below_drewN | apply below_drew1 | refine below_set ?_ GE127.out) | exact HB.out)) hb); have n2_ := Aside0.mk (hbox); have n3_ := Aside0.mk ((by rw [hg]; exact (below_size (by repeat (first | (with_reducible first | exact HB.out | apply below_alloc | apply pw_below_drewN | apply below_drew1 | refine below_set ?_ GE127.out) | exact HB.out))) : w.heap.size ≤ gb128)); have n4_ := Aside0.mk ((by rw [hg]; exact (below_size (by repeat (first | (with_reducible first | exact HB.out | apply below_alloc | apply pw_below_drewN | apply below_drew1 | refine below_set ?_ GE127.out) | exact HB.out))) : w.heap.size ≤ gb128)); have n5_ := Aside0.mk ((by rw [hg]; exact Nat.ne_of_lt (blk_lt (g := gb127) (o := .cells #[.string (⟨#[]⟩ : ByteArray), .string (⟨#[]⟩ : ByteArray), .string (⟨#[]⟩ : ByteArray), .string (⟨#[]⟩ : ByteArray), .slice none 0 0, .string (⟨#[]⟩ : ByteArray), .slice none 0 0] 24 (0, 0)) (by (with_reducible repeat (first | refine blk_drewN ?_ _ | refine blk_drew ?_ | refine blk_alloc ?_ _)); exact BK127.out)) : gb127 ≠ gb128)); have n6_ := Aside0.mk ((by rw [hg]; exact Nat.ne_of_gt (blk_lt (g := gb127) (o := .cells #[.string (⟨#[]⟩ : ByteArray), .string (⟨#[]⟩ : ByteArray), .string (⟨#[]⟩ : ByteArray), .string (⟨#[]⟩ : ByteArray), .slice none 0 0, .string (⟨#[]⟩ : ByteArray), .slice none 0 0] 24 (0, 0)) (by (with_reducible repeat (first | refine blk_drewN ?_ _ | refine blk_drew ?_ | refine blk_alloc ?_ _)); exact BK127.out)) : gb128 ≠ gb127)); have m0_ := Aside0.mk (MR_below (by with_reducible repeat (first | exact HO_4.out | apply MR_alloc | apply MR_drewN | apply MR_drew | apply MR_set)) hb); clear HO_4; have HO_4 := m0_; clear m0_; clear BK127; clear HB; have BK127 := n0_; have HB := n1_; have BK128 := n2_; have GW128 := n3_; have GE128 := n4_; have NB127_128 := n5_; have NB128_127 := n6_; clear n0_ n1_ n2_ n3_ n4_ n5_ n6_; clear hb hbox hg))
 go_loopg [6, 21] k (fun kq v6 v21 w' => ∃ (x4_1 : List (S30)) (x6_1 : Bool) (x21_1 : Int) (x128000_1 : ByteArray) (x128001_1 : ByteArray) (x128002_1 : ByteArray) (x128003_1 : ByteArray) (x128005_1 : ByteArray) (x129004_1 : List (S30)) (u129004 : Value), v6 = .bool x6_1 ∧ v21 = .int .i64 x21_1 ∧ Aside0 (msg_Two.l0 kq x4_1 x6_1 l0 (l0.length : Int) x21_1 (⟨#[]⟩ : ByteArray) (⟨#[]⟩ : ByteArray) (⟨#[]⟩ : ByteArray) (⟨#[]⟩ : ByteArray) x129004_1 (⟨#[]⟩ : ByteArray) = some (r1, r2, r3, r4, r5, r6, r7, r8)) ∧ Aside0 (kq ≤ k) ∧ Aside0 (MR w' w.heap.size (.map (some b4_)) x4_1) ∧ Aside0 (Kd.R k30 30 w' w.heap.size (fun k_ => True) u129004 x129004_1) ∧ Aside0 (w'.heap[gb127]? = some (.cells #[.string x128000_1, .string x128001_1, .string x128002_1, .string x128003_1, (.slice none 0 0), .string x128005_1, (.slice none 0 0)] 24 (0, 0))) ∧ Aside0 (w'.heap[gb128]? = some (.cells #[.string (⟨#[]⟩ : ByteArray), .string (⟨#[]⟩ : ByteArray), .string (⟨#[]⟩ : ByteArray), .string (⟨#[]⟩ : ByteArray), u129004, .string (⟨#[]⟩ : ByteArray), (.slice none 0 0)] 24 (0, 0))) ∧ Aside0 (Below w.heap.size w w'))
 case atStart => exact ⟨(([] : List (S30))), (false), (0), ((⟨#[]⟩ : ByteArray)), ((⟨#[]⟩ : ByteArray)), ((⟨#[]⟩ : ByteArray)), ((⟨#[]⟩ : ByteArray)), ((⟨#[]⟩ : ByteArray)), (([] : List (S30))), (.slice none 0 0), (by first | rfl | (simp; done) | (simp [*]; done) | (simp [bne_nil_]; done) | (simp only [ByteArray.size_append, Int.natCast_add]; rfl)), (by first | rfl | (simp; done) | (simp [*]; done) | (simp [bne_nil_]; done) | (simp only [ByteArray.size_append, Int.natCast_add]; rfl)), H', ⟨Nat.le_refl _⟩, ⟨by with_reducible repeat (first | exact HO_4.out | apply MR_alloc | apply MR_drewN | apply MR_drew | apply MR_set)⟩, ⟨by first | exact Kd.R_nil _ _ _ _ _ | exact Kd.N_nil _ _ _ _ _ | exact Kd.V_nil _ _ _ _ _ | exact Kd.Q_nil _ _ _ _ _ | exact Kd.S_nil _ _ _ _ _⟩, ⟨by (with_reducible repeat (first | refine blk_drewN ?_ _ | refine blk_drew ?_ | refine blk_alloc ?_ _)); exact BK127.out⟩, ⟨by (with_reducible repeat (first | refine blk_drewN ?_ _ | refine blk_drew ?_ | refine blk_alloc ?_ _)); exact BK128.out⟩, ⟨by repeat (first | (with_reducible first | exact HB.out | apply below_alloc | apply pw_below_drewN | apply below_drew1 | refine below_set ?_ GE127.out | refine below_set ?_ GE128.out) | exact HB.out)⟩⟩
 case round =>
  clear H'
  try clear p2
  obtain ⟨x4_1, x6_1, x21_1, x128000_1, x128001_1, x128002_1, x128003_1, x128005_1, x129004_1, u129004, rfl, rfl, HA, HK1, HO_4, HO_129004, BK127, BK128, HB⟩ := hrel
  cases gk with
  | zero => exact absurd HA.out (by simp [msg_Two.l0])
  | succ k1 =>
   have H := HA.out
   clear HA
   simp only [msg_Two.l0] at H
   by_cases c4 : x21_1 < (l0.length : Int)
   ·
    rw [if_pos c4] at H
    have c4b0 : decide (x21_1 < (l0.length : Int)) = true := decide_eq_true c4
    clear c4
    by_cases c5 : 0 ≤ x21_1
    ·
     rw [if_pos c5] at H
     have c5b0 : decide (0 ≤ x21_1) = true := decide_eq_true c5
     clear c5
     by_cases c6 : x21_1 < (l0.length : Int)
     ·
      rw [if_pos c6] at H
      have c6b0 : decide (x21_1 < (l0.length : Int)) = true := decide_eq_true c6
      clear c6
      replace H := Option.bind_eq_some_iff.mp H
      obtain ⟨⟨t131, t132⟩, A70, H⟩ := H
      replace H : ((msg_pseudo.f ((rd_T30 l0 x21_1).f0)).bind fun t133 => (if t133 = true then (if ((rd_T30 l0 x21_1).f0).toList = ([58, 109, 101, 116, 104, 111, 100] : List UInt8) then (msg_Two.j1 k1 x4_1 x6_1 t132 l0 (l0.length : Int) x21_1 (((rd_T30 l0 x21_1).f0).toList == ([58, 109, 101, 116, 104, 111, 100] : List UInt8)) (⟨#[]⟩ : ByteArray) (⟨#[]⟩ : ByteArray) (⟨#[]⟩ : ByteArray) (⟨#[]⟩ : ByteArray) x129004_1 (⟨#[]⟩ : ByteArray) ((rd_T30 l0 x21_1).f0) ((rd_T30 l0 x21_1).f1)) else (if ((rd_T30 l0 x21_1).f0).toList = ([58, 115, 99, 104, 101, 109, 101] : List UInt8) then (msg_Two.j1 k1 x4_1 x6_1 t132 l0 (l0.length : Int) x21_1 (((rd_T30 l0 x21_1).f0).toList == ([58, 115, 99, 104, 101, 109, 101] : List UInt8)) (⟨#[]⟩ : ByteArray) (⟨#[]⟩ : ByteArray) (⟨#[]⟩ : ByteArray) (⟨#[]⟩ : ByteArray) x129004_1 (⟨#[]⟩ : ByteArray) ((rd_T30 l0 x21_1).f0) ((rd_T30 l0 x21_1).f1)) else (if ((rd_T30 l0 x21_1).f0).toList = ([58, 112, 97, 116, 104] : List UInt8) then (msg_Two.j1 k1 x4_1 x6_1 t132 l0 (l0.length : Int) x21_1 (((rd_T30 l0 x21_1).f0).toList == ([58, 112, 97, 116, 104] : List UInt8)) (⟨#[]⟩ : ByteArray) (⟨#[]⟩ : ByteArray) (⟨#[]⟩ : ByteArray) (⟨#[]⟩ : ByteArray) x129004_1 (⟨#[]⟩ : ByteArray) ((rd_T30 l0 x21_1).f0) ((rd_T30 l0 x21_1).f1)) else (msg_Two.j1 k1 x4_1 x6_1 t132 l0 (l0.length : Int) x21_1 (((rd_T30 l0 x21_1).f0).toList == ([58, 97, 117, 116, 104, 111, 114, 105, 116, 121] : List UInt8)) (⟨#[]⟩ : ByteArray) (⟨#[]⟩ : ByteArray) (⟨#[]⟩ : ByteArray) (⟨#[]⟩ : ByteArray) x129004_1 (⟨#[]⟩ : ByteArray) ((rd_T30 l0 x21_1).f0) ((rd_T30 l0 x21_1).f1))))) else ((msg_plain.f k1 ((rd_T30 l0 x21_1).f0) ((rd_T30 l0 x21_1).f1)).bind fun t137 => (if t137 = true then (if ((rd_T30 l0 x21_1).f0).toList = ([116, 101] : List UInt8) then (if ((rd_T30 l0 x21_1).f1).toList = ([116, 114, 97, 105, 108, 101, 114, 115] : List UInt8) then (if ((rd_T30 l0 x21_1).f0).toList = ([104, 111, 115, 116] : List UInt8) then (msg_Two.j2 k1 x4_1 true l0 (l0.length : Int) x21_1 t132 (⟨#[]⟩ : ByteArray) (⟨#[]⟩ : ByteArray) (⟨#[]⟩ : ByteArray) (⟨#[]⟩ : ByteArray) x129004_1 (⟨#[]⟩ : ByteArray) ((rd_T30 l0 x21_1).f0) ((rd_T30 l0 x21_1).f1)) else (msg_Two.j2 k1 x4_1 true l0 (l0.length : Int) x21_1 false (⟨#[]⟩ : ByteArray) (⟨#[]⟩ : ByteArray) (⟨#[]⟩ : ByteArray) (⟨#[]⟩ : ByteArray) x129004_1 (⟨#[]⟩ : ByteArray) ((rd_T30 l0 x21_1).f0) ((rd_T30 l0 x21_1).f1))) else (msg_Two.j2 k1 x4_1 true l0 (l0.length : Int) x21_1 (((rd_T30 l0 x21_1).f1).toList != ([116, 114, 97, 105, 108, 101, 114, 115] : List UInt8)) (⟨#[]⟩ : ByteArray) (⟨#[]⟩ : ByteArray) (⟨#[]⟩ : ByteArray) (⟨#[]⟩ : ByteArray) x129004_1 (⟨#[]⟩ : ByteArray) ((rd_T30 l0 x21_1).f0) ((rd_T30 l0 x21_1).f1))) else (if ((rd_T30 l0 x21_1).f0).toList = ([104, 111, 115, 116] : List UInt8) then (msg_Two.j2 k1 x4_1 true l0 (l0.length : Int) x21_1 t132 (⟨#[]⟩ : ByteArray) (⟨#[]⟩ : ByteArray) (⟨#[]⟩ : ByteArray) (⟨#[]⟩ : ByteArray) x129004_1 (⟨#[]⟩ : ByteArray) ((rd_T30 l0 x21_1).f0) ((rd_T30 l0 x21_1).f1)) else (msg_Two.j2 k1 x4_1 true l0 (l0.length : Int) x21_1 false (⟨#[]⟩ : ByteArray) (⟨#[]⟩ : ByteArray) (⟨#[]⟩ : ByteArray) (⟨#[]⟩ : ByteArray) x129004_1 (⟨#[]⟩ : ByteArray) ((rd_T30 l0 x21_1).f0) ((rd_T30 l0 x21_1).f1)))) else (msg_Two.j2 k1 x4_1 true l0 (l0.length : Int) x21_1 (!t137) (⟨#[]⟩ : ByteArray) (⟨#[]⟩ : ByteArray) (⟨#[]⟩ : ByteArray) (⟨#[]⟩ : ByteArray) x129004_1 (⟨#[]⟩ : ByteArray) ((rd_T30 l0 x21_1).f0) ((rd_T30 l0 x21_1).f1)))))) = some (r1, r2, r3, r4, r5, r6, r7, r8) := H
      have A7 := Aside0.mk A70
      clear A70
      replace H := Option.bind_eq_some_iff.mp H
      obtain ⟨t133, A80, H⟩ := H
      replace H : (if t133 = true then (if ((rd_T30 l0 x21_1).f0).toList = ([58, 109, 101, 116, 104, 111, 100] : List UInt8) then (msg_Two.j1 k1 x4_1 x6_1 t132 l0 (l0.length : Int) x21_1 (((rd_T30 l0 x21_1).f0).toList == ([58, 109, 101, 116, 104, 111, 100] : List UInt8)) (⟨#[]⟩ : ByteArray) (⟨#[]⟩ : ByteArray) (⟨#[]⟩ : ByteArray) (⟨#[]⟩ : ByteArray) x129004_1 (⟨#[]⟩ : ByteArray) ((rd_T30 l0 x21_1).f0) ((rd_T30 l0 x21_1).f1)) else (if ((rd_T30 l0 x21_1).f0).toList = ([58, 115, 99, 104, 101, 109, 101] : List UInt8) then (msg_Two.j1 k1 x4_1 x6_1 t132 l0 (l0.length : Int) x21_1 (((rd_T30 l0 x21_1).f0).toList == ([58, 115, 99, 104, 101, 109, 101] : List UInt8)) (⟨#[]⟩ : ByteArray) (⟨#[]⟩ : ByteArray) (⟨#[]⟩ : ByteArray) (⟨#[]⟩ : ByteArray) x129004_1 (⟨#[]⟩ : ByteArray) ((rd_T30 l0 x21_1).f0) ((rd_T30 l0 x21_1).f1)) else (if ((rd_T30 l0 x21_1).f0).toList = ([58, 112, 97, 116, 104] : List UInt8) then (msg_Two.j1 k1 x4_1 x6_1 t132 l0 (l0.length : Int) x21_1 (((rd_T30 l0 x21_1).f0).toList == ([58, 112, 97, 116, 104] : List UInt8)) (⟨#[]⟩ : ByteArray) (⟨#[]⟩ : ByteArray) (⟨#[]⟩ : ByteArray) (⟨#[]⟩ : ByteArray) x129004_1 (⟨#[]⟩ : ByteArray) ((rd_T30 l0 x21_1).f0) ((rd_T30 l0 x21_1).f1)) else (msg_Two.j1 k1 x4_1 x6_1 t132 l0 (l0.length : Int) x21_1 (((rd_T30 l0 x21_1).f0).toList == ([58, 97, 117, 116, 104, 111, 114, 105, 116, 121] : List UInt8)) (⟨#[]⟩ : ByteArray) (⟨#[]⟩ : ByteArray) (⟨#[]⟩ : ByteArray) (⟨#[]⟩ : ByteArray) x129004_1 (⟨#[]⟩ : ByteArray) ((rd_T30 l0 x21_1).f0) ((rd_T30 l0 x21_1).f1))))) else ((msg_plain.f k1 ((rd_T30 l0 x21_1).f0) ((rd_T30 l0 x21_1).f1)).bind fun t137 => (if t137 = true then (if ((rd_T30 l0 x21_1).f0).toList = ([116, 101] : List UInt8) then (if ((rd_T30 l0 x21_1).f1).toList = ([116, 114, 97, 105, 108, 101, 114, 115] : List UInt8) then (if ((rd_T30 l0 x21_1).f0).toList = ([104, 111, 115, 116] : List UInt8) then (msg_Two.j2 k1 x4_1 true l0 (l0.length : Int) x21_1 t132 (⟨#[]⟩ : ByteArray) (⟨#[]⟩ : ByteArray) (⟨#[]⟩ : ByteArray) (⟨#[]⟩ : ByteArray) x129004_1 (⟨#[]⟩ : ByteArray) ((rd_T30 l0 x21_1).f0) ((rd_T30 l0 x21_1).f1)) else (msg_Two.j2 k1 x4_1 true l0 (l0.length : Int) x21_1 false (⟨#[]⟩ : ByteArray) (⟨#[]⟩ : ByteArray) (⟨#[]⟩ : ByteArray) (⟨#[]⟩ : ByteArray) x129004_1 (⟨#[]⟩ : ByteArray) ((rd_T30 l0 x21_1).f0) ((rd_T30 l0 x21_1).f1))) else (msg_Two.j2 k1 x4_1 true l0 (l0.length : Int) x21_1 (((rd_T30 l0 x21_1).f1).toList != ([116, 114, 97, 105, 108, 101, 114, 115] : List UInt8)) (⟨#[]⟩ : ByteArray) (⟨#[]⟩ : ByteArray) (⟨#[]⟩ : ByteArray) (⟨#[]⟩ : ByteArray) x129004_1 (⟨#[]⟩ : ByteArray) ((rd_T30 l0 x21_1).f0) ((rd_T30 l0 x21_1).f1))) else (if ((rd_T30 l0 x21_1).f0).toList = ([104, 111, 115, 116] : List UInt8) then (msg_Two.j2 k1 x4_1 true l0 (l0.length : Int) x21_1 t132 (⟨#[]⟩ : ByteArray) (⟨#[]⟩ : ByteArray) (⟨#[]⟩ : ByteArray) (⟨#[]⟩ : ByteArray) x129004_1 (⟨#[]⟩ : ByteArray) ((rd_T30 l0 x21_1).f0) ((rd_T30 l0 x21_1).f1)) else (msg_Two.j2 k1 x4_1 true l0 (l0.length : Int) x21_1 false (⟨#[]⟩ : ByteArray) (⟨#[]⟩ : ByteArray) (⟨#[]⟩ : ByteArray) (⟨#[]⟩ : ByteArray) x129004_1 (⟨#[]⟩ : ByteArray) ((rd_T30 l0 x21_1).f0) ((rd_T30 l0 x21_1).f1)))) else (msg_Two.j2 k1 x4_1 true l0 (l0.length : Int) x21_1 (!t137) (⟨#[]⟩ : ByteArray) (⟨#[]⟩ : ByteArray) (⟨#[]⟩ : ByteArray) (⟨#[]⟩ : ByteArray) x129004_1 (⟨#[]⟩ : ByteArray) ((rd_T30 l0 x21_1).f0) ((rd_T30 l0 x21_1).f1))))) = some (r1, r2, r3, r4, r5, r6, r7, r8) := H
      have A8 := Aside0.mk A80
      clear A80
      by_cases c9 : t133 = true
      ·
       subst c9
       have H1 : (if ((rd_T30 l0 x21_1).f0).toList = ([58, 109, 101, 116, 104, 111, 100] : List UInt8) then (msg_Two.j1 k1 x4_1 x6_1 t132 l0 (l0.length : Int) x21_1 (((rd_T30 l0 x21_1).f0).toList == ([58, 109, 101, 116, 104, 111, 100] : List UInt8)) (⟨#[]⟩ : ByteArray) (⟨#[]⟩ : ByteArray) (⟨#[]⟩ : ByteArray) (⟨#[]⟩ : ByteArray) x129004_1 (⟨#[]⟩ : ByteArray) ((rd_T30 l0 x21_1).f0) ((rd_T30 l0 x21_1).f1)) else (if ((rd_T30 l0 x21_1).f0).toList = ([58, 115, 99, 104, 101, 109, 101] : List UInt8) then (msg_Two.j1 k1 x4_1 x6_1 t132 l0 (l0.length : Int) x21_1 (((rd_T30 l0 x21_1).f0).toList == ([58, 115, 99, 104, 101, 109, 101] : List UInt8)) (⟨#[]⟩ : ByteArray) (⟨#[]⟩ : ByteArray) (⟨#[]⟩ : ByteArray) (⟨#[]⟩ : ByteArray) x129004_1 (⟨#[]⟩ : ByteArray) ((rd_T30 l0 x21_1).f0) ((rd_T30 l0 x21_1).f1)) else (if ((rd_T30 l0 x21_1).f0).toList = ([58, 112, 97, 116, 104] : List UInt8) then (msg_Two.j1 k1 x4_1 x6_1 t132 l0 (l0.length : Int) x21_1 (((rd_T30 l0 x21_1).f0).toList == ([58, 112, 97, 116, 104] : List UInt8)) (⟨#[]⟩ : ByteArray) (⟨#[]⟩ : ByteArray) (⟨#[]⟩ : ByteArray) (⟨#[]⟩ : ByteArray) x129004_1 (⟨#[]⟩ : ByteArray) ((rd_T30 l0 x21_1).f0) ((rd_T30 l0 x21_1).f1)) else (msg_Two.j1 k1 x4_1 x6_1 t132 l0 (l0.length : Int) x21_1 (((rd_T30 l0 x21_1).f0).toList == ([58, 97, 117, 116, 104, 111, 114, 105, 116, 121] : List UInt8)) (⟨#[]⟩ : ByteArray) (⟨#[]⟩ : ByteArray) (⟨#[]⟩ : ByteArray) (⟨#[]⟩ : ByteArray) x129004_1 (⟨#[]⟩ : ByteArray) ((rd_T30 l0 x21_1).f0) ((rd_T30 l0 x21_1).f1))))) = some (r1, r2, r3, r4, r5, r6, r7, r8) := by rw [if_pos rfl] at H; exact H
       clear H
       have H := H1
       clear H1
       have HC10 := Aside0.mk H
       clear H
       have p129 : 0 ≤ (x21_1 : Int) := of_decide_eq_true (by first | (with_reducible assumption) | assumption)
       have q129 : x21_1 < (l0.length : Int) := of_decide_eq_true (by first | (with_reducible assumption) | assumption)
       obtain ⟨ad129, e129, hx129_0, hx129_1⟩ := at_T30 HR0.out x21_1 p129 q129
       cases e129
       replace hx129_0 := (HB.out.cell (World.block_lt_of_cell? w _ hx129_0)).trans hx129_0
       replace hx129_1 := (HB.out.cell (World.block_lt_of_cell? w _ hx129_1)).trans hx129_1
       replace p129 := eq_true p129
       replace q129 := eq_true q129
       go_upto_if 38 with (first | ((with_reducible refine gate_dst (N := 8) rfl ?_); refine box_event ?hg (N := 8) ?hd (cs := #[.string (⟨#[]⟩ : ByteArray), .string (⟨#[]⟩ : ByteArray)]) (t := 30) ?hr ?_; (case hd => rfl); (case hg => rfl); (case hr => first | (go_simp; done) | (go_simp; rfl)); intro gb130 hg w11 hbox hb; have n0_ := Aside0.mk (MR_below (by with_reducible repeat (first | exact HO_4.out | apply MR_alloc | apply MR_drewN | apply MR_drew | apply MR_set)) hb); have n1_ := Aside0.mk (Kd.R_below (Kd.R_elderB (by (with_reducible repeat (first | apply Kd.R_alloc | apply Kd.R_drewN | apply Kd.R_drew)); exact HO_129004.out) gb130 (Nat.le_of_eq hg.symm)) hb); have n2_ := Aside0.mk (blk_below (g := gb127) (o := .cells #[.string x128000_1, .string x128001_1, .string x128002_1, .string x128003_1, .slice none 0 0, .string x128005_1, .slice none 0 0] 24 (0, 0)) (by (with_reducible repeat (first | refine blk_drewN ?_ _ | refine blk_drew ?_ | refine blk_alloc ?_ _)); exact BK127.out) hb); have n3_ := Aside0.mk (blk_below (g := gb128) (o := .cells #[.string (⟨#[]⟩ : ByteArray), .string (⟨#[]⟩ : ByteArray), .string (⟨#[]⟩ : ByteArray), .string (⟨#[]⟩ : ByteArray), u129004, .string (⟨#[]⟩ : ByteArray), .slice none 0 0] 24 (0, 0)) (by (with_reducible repeat (first | refine blk_drewN ?_ _ | refine blk_drew ?_ | refine blk_alloc ?_ _)); exact BK128.out) hb); have n4_ := Aside0.mk (below_step (by repeat (first | (with_reducible first | exact HB.out | apply below_alloc | apply pw_below_drewN | apply below_drew1 | refine below_set ?_ GE127.out | refine below_set ?_ GE128.out) | exact HB.out)) hb); have n5_ := Aside0.mk (hbox); have n6_ := Aside0.mk ((by rw [hg]; exact (below_size (by repeat (first | (with_reducible first | exact HB.out | apply below_alloc | apply pw_below_drewN | apply below_drew1 | refine below_set ?_ GE127.out | refine below_set ?_ GE128.out) | exact HB.out))) : w.heap.size ≤ gb130)); have n7_ := Aside0.mk ((by rw [hg]; exact (below_size (by repeat (first | (with_reducible first | exact HB.out | apply below_alloc | apply pw_below_drewN | apply below_drew1 | refine below_set ?_ GE127.out | refine below_set ?_ GE128.out) | exact HB.out))) : w.heap.size ≤ gb130)); have n8_ := Aside0.mk ((by rw [hg]; exact Nat.ne_of_lt (blk_lt (g := gb127) (o := .cells #[.string x128000_1, .string x128001_1, .string x128002_1, .string x128003_1, .slice none 0 0, .string x128005_1, .slice none 0 0] 24 (0, 0)) (by (with_reducible repeat (first | refine blk_drewN ?_ _ | refine blk_drew ?_ | refine blk_alloc ?_ _)); exact BK127.out)) : gb127 ≠ gb130)); have n9_ := Aside0.mk ((by rw [hg]; exact Nat.ne_of_gt (blk_lt (g := gb127) (o := .cells #[.string x128000_1, .string x128001_1, .string x128002_1, .string x128003_1, .slice none 0 0, .string x128005_1, .slice none 0 0] 24 (0, 0)) (by (with_reducible repeat (first | refine blk_drewN ?_ _ | refine blk_drew ?_ | refine blk_alloc ?_ _)); exact BK127.out)) : gb130 ≠ gb127)); have n10_ := Aside0.mk ((by rw [hg]; exact Nat.ne_of_lt (blk_lt (g := gb128) (o := .cells #[.string (⟨#[]⟩ : ByteArray), .string (⟨#[]⟩ : ByteArray), .string (⟨#[]⟩ : ByteArray), .string (⟨#[]⟩ : ByteArray), u129004, .string (⟨#[]⟩ : ByteArray), .slice none 0 0] 24 (0, 0)) (by (with_reducible repeat (first | refine blk_drewN ?_ _ | refine blk_drew ?_ | refine blk_alloc ?_ _)); exact BK128.out)) : gb128 ≠ gb130)); have n11_ := Aside0.mk ((by rw [hg]; exact Nat.ne_of_gt (blk_lt (g := gb128) (o := .cells #[.string (⟨#[]⟩ : ByteArray), .string (⟨#[]⟩ : ByteArray), .string (⟨#[]⟩ : ByteArray), .string (⟨#[]⟩ : ByteArray), u129004, .string (⟨#[]⟩ : ByteArray), .slice none 0 0] 24 (0, 0)) (by (with_reducible repeat (first | refine blk_drewN ?_ _ | refine blk_drew ?_ | refine blk_alloc ?_ _)); exact BK128.out)) : gb130 ≠ gb128)); clear HO_4; clear HO_129004; clear BK127; clear BK128; clear HB; have HO_4 := n0_; have HO_129004 := n1_; have BK127 := n2_; have BK128 := n3_; have HB := n4_; have BK130 := n5_; have GW130 := n6_; have GE130 := n7_; have NB127_130 := n8_; have NB130_127 := n9_; have NB128_130 := n10_; have NB130_128 := n11_; clear n0_ n1_ n2_ n3_ n4_ n5_ n6_ n7_ n8_ n9_ n10_ n11_; clear hb hbox hg; have hnb12 := NB130_127.out; have hnc12 := NB127_130.out; have hnb13 := NB130_128.out; have hnc13 := NB128_130.out; have hcz14_0 : w11.cell? ⟨gb130, 0, none⟩ = some (.string (⟨#[]⟩ : ByteArray)) := (blk_cell BK130.out 0).trans rfl; have hcz14_1 : w11.cell? ⟨gb130, 1, none⟩ = some (.string (⟨#[]⟩ : ByteArray)) := (blk_cell BK130.out 1).trans rfl; have hfz14_0 := blk_frozen BK130.out 0; have hfz14_1 := blk_frozen BK130.out 1) | ((with_reducible refine gate_dst (N := 29) rfl ?_); refine mgetL 29 rfl rfl _ _ rfl _ rfl rfl (by with_reducible repeat (first | exact HO_4.out | apply MR_alloc | apply MR_drewN | apply MR_drew | apply MR_set)) A7.out ?_; intro w16 hb; have n0_ := Aside0.mk (MR_below (by with_reducible repeat (first | exact HO_4.out | apply MR_alloc | apply MR_drewN | apply MR_drew | apply MR_set)) hb); have n1_ := Aside0.mk (Kd.R_below (by (with_reducible repeat (first | apply Kd.R_alloc | apply Kd.R_drewN | apply Kd.R_drew)); exact (Kd.R_mono (Kd.R_far (p := ⟨gb130, 1, none⟩) (Kd.R_far (p := ⟨gb130, 0, none⟩) (Kd.R_mono HO_129004.out (fun k_ hk => (⟨hk, hk.2⟩ : _ ∧ k_ ≠ gb130))) (fun _ hk => hk.2) (.string ((rd_T30 l0 x21_1).f0))) (fun _ hk => hk.2) (.string ((rd_T30 l0 x21_1).f1))) (fun _ h_ => h_.1))) hb); have n2_ := Aside0.mk (blk_below (g := gb127) (o := .cells #[.string x128000_1, .string x128001_1, .string x128002_1, .string x128003_1, .slice none 0 0, .string x128005_1, .slice none 0 0] 24 (0, 0)) (by (with_reducible repeat (first | refine blk_drewN ?_ _ | refine blk_drew ?_ | refine blk_alloc ?_ _)); refine blk_far ?_ NB127_130.out _; (with_reducible repeat (first | refine blk_drewN ?_ _ | refine blk_drew ?_ | refine blk_alloc ?_ _)); refine blk_far ?_ NB127_130.out _; (with_reducible repeat (first | refine blk_drewN ?_ _ | refine blk_drew ?_ | refine blk_alloc ?_ _)); exact BK127.out) hb); have n3_ := Aside0.mk (blk_below (g := gb128) (o := .cells #[.string (⟨#[]⟩ : ByteArray), .string (⟨#[]⟩ : ByteArray), .string (⟨#[]⟩ : ByteArray), .string (⟨#[]⟩ : ByteArray), u129004, .string (⟨#[]⟩ : ByteArray), .slice none 0 0] 24 (0, 0)) (by (with_reducible repeat (first | refine blk_drewN ?_ _ | refine blk_drew ?_ | refine blk_alloc ?_ _)); refine blk_far ?_ NB128_130.out _; (with_reducible repeat (first | refine blk_drewN ?_ _ | refine blk_drew ?_ | refine blk_alloc ?_ _)); refine blk_far ?_ NB128_130.out _; (with_reducible repeat (first | refine blk_drewN ?_ _ | refine blk_drew ?_ | refine blk_alloc ?_ _)); exact BK128.out) hb); have n4_ := Aside0.mk (blk_below (g := gb130) (o := .cells #[.string ((rd_T30 l0 x21_1).f0), .string ((rd_T30 l0 x21_1).f1)] 30 (0, 0)) (by (with_reducible repeat (first | refine blk_drewN ?_ _ | refine blk_drew ?_ | refine blk_alloc ?_ _)); refine blk_put (cs := #[.string ((rd_T30 l0 x21_1).f0), .string (⟨#[]⟩ : ByteArray)]) ?_ 1 _ rfl; (with_reducible repeat (first | refine blk_drewN ?_ _ | refine blk_drew ?_ | refine blk_alloc ?_ _)); refine blk_put (cs := #[.string (⟨#[]⟩ : ByteArray), .string (⟨#[]⟩ : ByteArray)]) ?_ 0 _ rfl; (with_reducible repeat (first | refine blk_drewN ?_ _ | refine blk_drew ?_ | refine blk_alloc ?_ _)); exact BK130.out) hb); have n5_ := Aside0.mk (below_step (by repeat (first | (with_reducible first | exact HB.out | apply below_alloc | apply pw_below_drewN | apply below_drew1 | refine below_set ?_ GE127.out | refine below_set ?_ GE128.out | refine below_set ?_ GE130.out) | exact HB.out)) hb); clear HO_4; clear HO_129004; clear BK127; clear BK128; clear BK130; clear HB; have HO_4 := n0_; have HO_129004 := n1_; have BK127 := n2_; have BK128 := n3_; have BK130 := n4_; have HB := n5_; clear n0_ n1_ n2_ n3_ n4_ n5_; (try clear hb); (try clear hb2); (try clear hk); (try clear hi); have hcz17_0 : w16.cell? ⟨gb130, 0, none⟩ = some (.string ((rd_T30 l0 x21_1).f0)) := (blk_cell BK130.out 0).trans rfl; have hcz17_1 : w16.cell? ⟨gb130, 1, none⟩ = some (.string ((rd_T30 l0 x21_1).f1)) := (blk_cell BK130.out 1).trans rfl; have hfz17_0 := blk_frozen BK130.out 0; have hfz17_1 := blk_frozen BK130.out 1) | ((with_reducible refine gate_callee (f := 15) rfl ?_); refine goesL_ (some 34) rfl rfl Tryd.func15 (by kernel_rfl) rfl #[.string ((rd_T30 l0 x21_1).f0)] rfl (by (try simp only [List.map_toArray, List.map_cons, List.map_nil]); first | done | rfl | (simp only [List.length_drop, List.length_take]; rfl)) ?_; (with_reducible refine (msg_pseudo.calls ((rd_T30 l0 x21_1).f0) true _ A8.out).mono ?_); rintro e w' ⟨rfl, ⟨nd, rfl⟩⟩; refine ⟨_, rfl, ?_⟩))
       (try simp only [Act.put, List.setIfInBounds_toArray, List.set_cons_zero, List.set_cons_succ])
       go_cut [38] (fun v38 wc => ∃ (kq : Nat) (x38_9 : Bool), v38 = .bool x38_9 ∧ Aside0 (msg_Two.j1 kq x4_1 x6_1 t132 l0 (l0.length : Int) x21_1 x38_9 (⟨#[]⟩ : ByteArray) (⟨#[]⟩ : ByteArray) (⟨#[]⟩ : ByteArray) (⟨#[]⟩ : ByteArray) x129004_1 (⟨#[]⟩ : ByteArray) ((rd_T30 l0 x21_1).f0) ((rd_T30 l0 x21_1).f1) = some (r1, r2, r3, r4, r5, r6, r7, r8)) ∧ Aside0 (kq ≤ k1) ∧ Aside0 (MR wc w.heap.size (.map (some b4_)) x4_1) ∧ Aside0 (Kd.R k30 30 wc w.heap.size (fun k_ => True ∧ k_ ≠ gb130) u129004 x129004_1) ∧ Aside0 (wc.heap[gb127]? = some (.cells #[.string x128000_1, .string x128001_1, .string x128002_1, .string x128003_1, (.slice none 0 0), .string x128005_1, (.slice none 0 0)] 24 (0, 0))) ∧ Aside0 (wc.heap[gb128]? = some (.cells #[.string (⟨#[]⟩ : ByteArray), .string (⟨#[]⟩ : ByteArray), .string (⟨#[]⟩ : ByteArray), .string (⟨#[]⟩ : ByteArray), u129004, .string (⟨#[]⟩ : ByteArray), (.slice none 0 0)] 24 (0, 0))) ∧ Aside0 (wc.heap[gb130]? = some (.cells #[.string ((rd_T30 l0 x21_1).f0), .string ((rd_T30 l0 x21_1).f1)] 30 (0, 0))) ∧ Aside0 (Below w.heap.size w wc))
       case first =>
        have H := HC10.out
        clear HC10
        by_cases c18 : ((rd_T30 l0 x21_1).f0).toList = ([58, 109, 101, 116, 104, 111, 100] : List UInt8)
        ·
         rw [if_pos c18] at H
         have c18b0 : (((rd_T30 l0 x21_1).f0).toList == ([58, 109, 101, 116, 104, 111, 100] : List UInt8)) = true := beq_iff_eq.mpr c18
         have c18b1 : (((rd_T30 l0 x21_1).f0).toList != ([58, 109, 101, 116, 104, 111, 100] : List UInt8)) = false := bne_eq_false_iff_eq.mpr c18
         clear c18
         (first | rw [c18b0] | (simp only [i64_w, i32_w]; rw [c18b0]) | skip)
         have H' := Aside0.mk H
         clear H
         go_wp2
         go_meet
         case rel => exact ⟨_, ((((rd_T30 l0 x21_1).f0).toList == ([58, 109, 101, 116, 104, 111, 100] : List UInt8))), (by first | rfl | (simp; done) | (simp [*]; done) | (simp [bne_nil_]; done) | (simp only [ByteArray.size_append, Int.natCast_add]; rfl)), H', ⟨by have := HK1.out; first | omega | exact Nat.le_refl _⟩, ⟨by with_reducible repeat (first | exact HO_4.out | apply MR_alloc | apply MR_drewN | apply MR_drew | apply MR_set)⟩, ⟨by (with_reducible repeat (first | apply Kd.R_alloc | apply Kd.R_drewN | apply Kd.R_drew)); exact HO_129004.out⟩, ⟨by (with_reducible repeat (first | refine blk_drewN ?_ _ | refine blk_drew ?_ | refine blk_alloc ?_ _)); exact BK127.out⟩, ⟨by (with_reducible repeat (first | refine blk_drewN ?_ _ | refine blk_drew ?_ | refine blk_alloc ?_ _)); exact BK128.out⟩, ⟨by (with_reducible repeat (first | refine blk_drewN ?_ _ | refine blk_drew ?_ | refine blk_alloc ?_ _)); exact BK130.out⟩, ⟨by repeat (first | (with_reducible first | exact HB.out | apply below_alloc | apply pw_below_drewN | apply below_drew1 | refine below_set ?_ GE127.out | refine below_set ?_ GE128.out | refine below_set ?_ GE130.out) | exact HB.out)⟩⟩
        ·
         rw [if_neg c18] at H
         have c18b0 : (((rd_T30 l0 x21_1).f0).toList == ([58, 109, 101, 116, 104, 111, 100] : List UInt8)) = false := beq_eq_false_iff_ne.mpr c18
         have c18b1 : (((rd_T30 l0 x21_1).f0).toList != ([58, 109, 101, 116, 104, 111, 100] : List UInt8)) = true := bne_iff_ne.mpr c18
         (first | rw [c18b0] | (simp only [i64_w, i32_w]; rw [c18b0]) | skip)
         by_cases c19 : ((rd_T30 l0 x21_1).f0).toList = ([58, 115, 99, 104, 101, 109, 101] : List UInt8)
         ·
          rw [if_pos c19] at H
          have c19b0 : (((rd_T30 l0 x21_1).f0).toList == ([58, 115, 99, 104, 101, 109, 101] : List UInt8)) = true := beq_iff_eq.mpr c19
          have c19b1 : (((rd_T30 l0 x21_1).f0).toList != ([58, 115, 99, 104, 101, 109, 101] : List UInt8)) = false := bne_eq_false_iff_eq.mpr c19
          clear c19
          have H' := Aside0.mk H
          clear H
          go_wp2
          go_meet
          case rel => exact ⟨_, ((((rd_T30 l0 x21_1).f0).toList == ([58, 115, 99, 104, 101, 109, 101] : List UInt8))), (by first | rfl | (simp; done) | (simp [*]; done) | (simp [bne_nil_]; done) | (simp only [ByteArray.size_append, Int.natCast_add]; rfl)), H', ⟨by have := HK1.out; first | omega | exact Nat.le_refl _⟩, ⟨by with_reducible repeat (first | exact HO_4.out | apply MR_alloc | apply MR_drewN | apply MR_drew | apply MR_set)⟩, ⟨by (with_reducible repeat (first | apply Kd.R_alloc | apply Kd.R_drewN | apply Kd.R_drew)); exact HO_129004.out⟩, ⟨by (with_reducible repeat (first | refine blk_drewN ?_ _ | refine blk_drew ?_ | refine blk_alloc ?_ _)); exact BK127.out⟩, ⟨by (with_reducible repeat (first | refine blk_drewN ?_ _ | refine blk_drew ?_ | refine blk_alloc ?_ _)); exact BK128.out⟩, ⟨by (with_reducible repeat (first | refine blk_drewN ?_ _ | refine blk_drew ?_ | refine blk_alloc ?_ _)); exact BK130.out⟩, ⟨by repeat (first | (with_reducible first | exact HB.out | apply below_alloc | apply pw_below_drewN | apply below_drew1 | refine below_set ?_ GE127.out | refine below_set ?_ GE128.out | refine below_set ?_ GE130.out) | exact HB.out)⟩⟩
         ·
          rw [if_neg c19] at H
          have c19b0 : (((rd_T30 l0 x21_1).f0).toList == ([58, 115, 99, 104, 101, 109, 101] : List UInt8)) = false := beq_eq_false_iff_ne.mpr c19
          have c19b1 : (((rd_T30 l0 x21_1).f0).toList != ([58, 115, 99, 104, 101, 109, 101] : List UInt8)) = true := bne_iff_ne.mpr c19
          by_cases c20 : ((rd_T30 l0 x21_1).f0).toList = ([58, 112, 97, 116, 104] : List UInt8)
          ·
           rw [if_pos c20] at H
           have c20b0 : (((rd_T30 l0 x21_1).f0).toList == ([58, 112, 97, 116, 104] : List UInt8)) = true := beq_iff_eq.mpr c20
           have c20b1 : (((rd_T30 l0 x21_1).f0).toList != ([58, 112, 97, 116, 104] : List UInt8)) = false := bne_eq_false_iff_eq.mpr c20
           clear c20
           have H' := Aside0.mk H
           clear H
           go_wp2
           go_meet
           case rel => exact ⟨_, ((((rd_T30 l0 x21_1).f0).toList == ([58, 112, 97, 116, 104] : List UInt8))), (by first | rfl | (simp; done) | (simp [*]; done) | (simp [bne_nil_]; done) | (simp only [ByteArray.size_append, Int.natCast_add]; rfl)), H', ⟨by have := HK1.out; first | omega | exact Nat.le_refl _⟩, ⟨by with_reducible repeat (first | exact HO_4.out | apply MR_alloc | apply MR_drewN | apply MR_drew | apply MR_set)⟩, ⟨by (with_reducible repeat (first | apply Kd.R_alloc | apply Kd.R_drewN | apply Kd.R_drew)); exact HO_129004.out⟩, ⟨by (with_reducible repeat (first | refine blk_drewN ?_ _ | refine blk_drew ?_ | refine blk_alloc ?_ _)); exact BK127.out⟩, ⟨by (with_reducible repeat (first | refine blk_drewN ?_ _ | refine blk_drew ?_ | refine blk_alloc ?_ _)); exact BK128.out⟩, ⟨by (with_reducible repeat (first | refine blk_drewN ?_ _ | refine blk_drew ?_ | refine blk_alloc ?_ _)); exact BK130.out⟩, ⟨by repeat (first | (with_reducible first | exact HB.out | apply below_alloc | apply pw_below_drewN | apply below_drew1 | refine below_set ?_ GE127.out | refine below_set ?_ GE128.out | refine below_set ?_ GE130.out) | exact HB.out)⟩⟩
          ·
           rw [if_neg c20] at H
           have c20b0 : (((rd_T30 l0 x21_1).f0).toList == ([58, 112, 97, 116, 104] : List UInt8)) = false := beq_eq_false_iff_ne.mpr c20
           have c20b1 : (((rd_T30 l0 x21_1).f0).toList != ([58, 112, 97, 116, 104] : List UInt8)) = true := bne_iff_ne.mpr c20
           have H' := Aside0.mk H
           clear H
           go_wp2
           go_meet
           case rel => exact ⟨_, ((((rd_T30 l0 x21_1).f0).toList == ([58, 97, 117, 116, 104, 111, 114, 105, 116, 121] : List UInt8))), (by first | rfl | (simp; done) | (simp [*]; done) | (simp [bne_nil_]; done) | (simp only [ByteArray.size_append, Int.natCast_add]; rfl)), H', ⟨by have := HK1.out; first | omega | exact Nat.le_refl _⟩, ⟨by with_reducible repeat (first | exact HO_4.out | apply MR_alloc | apply MR_drewN | apply MR_drew | apply MR_set)⟩, ⟨by (with_reducible repeat (first | apply Kd.R_alloc | apply Kd.R_drewN | apply Kd.R_drew)); exact HO_129004.out⟩, ⟨by (with_reducible repeat (first | refine blk_drewN ?_ _ | refine blk_drew ?_ | refine blk_alloc ?_ _)); exact BK127.out⟩, ⟨by (with_reducible repeat (first | refine blk_drewN ?_ _ | refine blk_drew ?_ | refine blk_alloc ?_ _)); exact BK128.out⟩, ⟨by (with_reducible repeat (first | refine blk_drewN ?_ _ | refine blk_drew ?_ | refine blk_alloc ?_ _)); exact BK130.out⟩, ⟨by repeat (first | (with_reducible first | exact HB.out | apply below_alloc | apply pw_below_drewN | apply below_drew1 | refine below_set ?_ GE127.out | refine below_set ?_ GE128.out | refine below_set ?_ GE130.out) | exact HB.out)⟩⟩
       case rest =>
        clear HC10
        try clear c1
        try clear p1
        try clear q1
        try clear hx1
        try clear c2
        try clear p2
        try clear c4
        try clear c4b0
        try clear c5
        try clear c5b0
        try clear c6
        try clear c6b0
        try clear c9
        try clear c12
        try clear p12
        try clear q12
        try clear hx12
        try clear c13
        try clear c15
        try clear c18
        try clear c18b0
        try clear c18b1
        try clear c19
        try clear c19b0
        try clear c19b1
        try clear c20
        try clear c20b0
        try clear c20b1
        try clear hcz14_0
        try clear hcz14_1
        try clear hcz17_0
        try clear hcz17_1
        try clear hfz14_0
        try clear hfz14_1
        try clear hfz17_0
        try clear hfz17_1
        try clear hx129_0
        try clear hx129_1
        try clear p129
        try clear p2
        try clear q129
        obtain ⟨kq, x38_9, rfl, HA, HJ9, HO_4, HO_129004, BK127, BK128, BK130, HB⟩ := hcut
        cases kq with
        | zero => exact absurd HA.out (by simp [msg_Two.j1])
        | succ kj9 =>
         have H := HA.out
         clear HA
         simp only [msg_Two.j1] at H
         by_cases c21 : x38_9 = true
         ·
          subst c21
          have H1 : (if x6_1 = true then (some ((⟨#[]⟩ : ByteArray), (⟨#[]⟩ : ByteArray), (⟨#[]⟩ : ByteArray), (⟨#[]⟩ : ByteArray), ([] : List (S30)), (⟨#[]⟩ : ByteArray), ([] : List (S30)), 140)) else (if t132 = true then (some ((⟨#[]⟩ : ByteArray), (⟨#[]⟩ : ByteArray), (⟨#[]⟩ : ByteArray), (⟨#[]⟩ : ByteArray), ([] : List (S30)), (⟨#[]⟩ : ByteArray), ([] : List (S30)), 140)) else ((mput.f x4_1 ((rd_T30 l0 x21_1).f0) ((rd_T30 l0 x21_1).f1)).bind fun t134 => (msg_Two.l0 kj9 t134 x6_1 l0 (l0.length : Int) (wrap64 (x21_1 + 1)) (⟨#[]⟩ : ByteArray) (⟨#[]⟩ : ByteArray) (⟨#[]⟩ : ByteArray) (⟨#[]⟩ : ByteArray) x129004_1 (⟨#[]⟩ : ByteArray))))) = some (r1, r2, r3, r4, r5, r6, r7, r8) := by rw [if_pos rfl] at H; exact H
          clear H
          have H := H1
          clear H1
          by_cases c22 : x6_1 = true
          ·
           subst c22
           have H1 : (some ((⟨#[]⟩ : ByteArray), (⟨#[]⟩ : ByteArray), (⟨#[]⟩ : ByteArray), (⟨#[]⟩ : ByteArray), ([] : List (S30)), (⟨#[]⟩ : ByteArray), ([] : List (S30)), 140)) = some (r1, r2, r3, r4, r5, r6, r7, r8) := by rw [if_pos rfl] at H; exact H
           clear H
           have H := H1
           clear H1
           simp only [Option.some.injEq, Prod.mk.injEq] at H
           obtain ⟨rfl, rfl, rfl, rfl, rfl, rfl, rfl, rfl⟩ := H
           have hnb23 := NB127_128.out
           have hnc23 := NB128_127.out
           have hnb24 := NB127_130.out
           have hnc24 := NB130_127.out
           have hcz25_0 : wc.cell? ⟨gb127, 0, none⟩ = some (.string x128000_1) := (blk_cell BK127.out 0).trans rfl
           have hcz25_1 : wc.cell? ⟨gb127, 1, none⟩ = some (.string x128001_1) := (blk_cell BK127.out 1).trans rfl
           have hcz25_2 : wc.cell? ⟨gb127, 2, none⟩ = some (.string x128002_1) := (blk_cell BK127.out 2).trans rfl
           have hcz25_3 : wc.cell? ⟨gb127, 3, none⟩ = some (.string x128003_1) := (blk_cell BK127.out 3).trans rfl
           have hcz25_4 : wc.cell? ⟨gb127, 4, none⟩ = some (.slice none 0 0) := (blk_cell BK127.out 4).trans rfl
           have hcz25_5 : wc.cell? ⟨gb127, 5, none⟩ = some (.string x128005_1) := (blk_cell BK127.out 5).trans rfl
           have hcz25_6 : wc.cell? ⟨gb127, 6, none⟩ = some (.slice none 0 0) := (blk_cell BK127.out 6).trans rfl
           have hfz25_0 := blk_frozen BK127.out 0
           have hfz25_1 := blk_frozen BK127.out 1
           have hfz25_2 := blk_frozen BK127.out 2
           have hfz25_3 := blk_frozen BK127.out 3
           have hfz25_4 := blk_frozen BK127.out 4
           have hfz25_5 := blk_frozen BK127.out 5
           have hfz25_6 := blk_frozen BK127.out 6
           go_wp2
           refine bodyPost_ret (results_ct rfl _ _ gb127 24 #[.string (⟨#[]⟩ : ByteArray), .string (⟨#[]⟩ : ByteArray), .string (⟨#[]⟩ : ByteArray), .string (⟨#[]⟩ : ByteArray), .slice none 0 0, .string (⟨#[]⟩ : ByteArray), .slice none 0 0] (0, 0) _ rfl (by (with_reducible repeat (first | refine blk_drewN ?_ _ | refine blk_drew ?_ | refine blk_alloc ?_ _)); refine blk_put (cs := #[.string (⟨#[]⟩ : ByteArray), .string (⟨#[]⟩ : ByteArray), .string (⟨#[]⟩ : ByteArray), .string (⟨#[]⟩ : ByteArray), .slice none 0 0, .string (⟨#[]⟩ : ByteArray), .slice none 0 0]) ?_ 6 _ rfl; (with_reducible repeat (first | refine blk_drewN ?_ _ | refine blk_drew ?_ | refine blk_alloc ?_ _)); refine blk_put (cs := #[.string (⟨#[]⟩ : ByteArray), .string (⟨#[]⟩ : ByteArray), .string (⟨#[]⟩ : ByteArray), .string (⟨#[]⟩ : ByteArray), .slice none 0 0, .string x128005_1, .slice none 0 0]) ?_ 5 _ rfl; (with_reducible repeat (first | refine blk_drewN ?_ _ | refine blk_drew ?_ | refine blk_alloc ?_ _)); refine blk_put (cs := #[.string (⟨#[]⟩ : ByteArray), .string (⟨#[]⟩ : ByteArray), .string (⟨#[]⟩ : ByteArray), .string (⟨#[]⟩ : ByteArray), .slice none 0 0, .string x128005_1, .slice none 0 0]) ?_ 4 _ rfl; (with_reducible repeat (first | refine blk_drewN ?_ _ | refine blk_drew ?_ | refine blk_alloc ?_ _)); refine blk_put (cs := #[.string (⟨#[]⟩ : ByteArray), .string (⟨#[]⟩ : ByteArray), .string (⟨#[]⟩ : ByteArray), .string x128003_1, .slice none 0 0, .string x128005_1, .slice none 0 0]) ?_ 3 _ rfl; (with_reducible repeat (first | refine blk_drewN ?_ _ | refine blk_drew ?_ | refine blk_alloc ?_ _)); refine blk_put (cs := #[.string (⟨#[]⟩ : ByteArray), .string (⟨#[]⟩ : ByteArray), .string x128002_1, .string x128003_1, .slice none 0 0, .string x128005_1, .slice none 0 0]) ?_ 2 _ rfl; (with_reducible repeat (first | refine blk_drewN ?_ _ | refine blk_drew ?_ | refine blk_alloc ?_ _)); refine blk_put (cs := #[.string (⟨#[]⟩ : ByteArray), .string x128001_1, .string x128002_1, .string x128003_1, .slice none 0 0, .string x128005_1, .slice none 0 0]) ?_ 1 _ rfl; (with_reducible repeat (first | refine blk_drewN ?_ _ | refine blk_drew ?_ | refine blk_alloc ?_ _)); refine blk_put (cs := #[.string x128000_1, .string x128001_1, .string x128002_1, .string x128003_1, .slice none 0 0, .string x128005_1, .slice none 0 0]) ?_ 0 _ rfl; (with_reducible repeat (first | refine blk_drewN ?_ _ | refine blk_drew ?_ | refine blk_alloc ?_ _)); exact BK127.out) Tryd.underlying24 rfl (by kernel_rfl)) rfl ?_
           exact ⟨_, _, by first | rfl | (simp [errW_none, errW_some] <;> rfl) | (simp [*, errW_none, errW_some] <;> rfl), by first | exact Kd.R_nil _ _ _ _ _ | exact Kd.N_nil _ _ _ _ _ | exact Kd.V_nil _ _ _ _ _ | exact Kd.Q_nil _ _ _ _ _ | exact Kd.S_nil _ _ _ _ _, by first | exact Kd.R_nil _ _ _ _ _ | exact Kd.N_nil _ _ _ _ _ | exact Kd.V_nil _ _ _ _ _ | exact Kd.Q_nil _ _ _ _ _ | exact Kd.S_nil _ _ _ _ _, by repeat (first | (with_reducible first | exact HB.out | apply below_alloc | apply pw_below_drewN | apply below_drew1 | refine below_set ?_ GE127.out | refine below_set ?_ GE128.out | refine below_set ?_ GE130.out) | exact HB.out)⟩
          ·
           replace c22 := Bool.eq_false_iff.mpr c22
           subst c22
           have H1 : (if t132 = true then (some ((⟨#[]⟩ : ByteArray), (⟨#[]⟩ : ByteArray), (⟨#[]⟩ : ByteArray), (⟨#[]⟩ : ByteArray), ([] : List (S30)), (⟨#[]⟩ : ByteArray), ([] : List (S30)), 140)) else ((mput.f x4_1 ((rd_T30 l0 x21_1).f0) ((rd_T30 l0 x21_1).f1)).bind fun t134 => (msg_Two.l0 kj9 t134 false l0 (l0.length : Int) (wrap64 (x21_1 + 1)) (⟨#[]⟩ : ByteArray) (⟨#[]⟩ : ByteArray) (⟨#[]⟩ : ByteArray) (⟨#[]⟩ : ByteArray) x129004_1 (⟨#[]⟩ : ByteArray)))) = some (r1, r2, r3, r4, r5, r6, r7, r8) := by rw [if_neg (show ¬ (false = true) by decide)] at H; exact H
           clear H
           have H := H1
           clear H1
           by_cases c26 : t132 = true
           ·
            subst c26
            have H1 : (some ((⟨#[]⟩ : ByteArray), (⟨#[]⟩ : ByteArray), (⟨#[]⟩ : ByteArray), (⟨#[]⟩ : ByteArray), ([] : List (S30)), (⟨#[]⟩ : ByteArray), ([] : List (S30)), 140)) = some (r1, r2, r3, r4, r5, r6, r7, r8) := by rw [if_pos rfl] at H; exact H
            clear H
            have H := H1
            clear H1
            simp only [Option.some.injEq, Prod.mk.injEq] at H
            obtain ⟨rfl, rfl, rfl, rfl, rfl, rfl, rfl, rfl⟩ := H
            have hnb27 := NB127_128.out
            have hnc27 := NB128_127.out
            have hnb28 := NB127_130.out
            have hnc28 := NB130_127.out
            have hcz29_0 : wc.cell? ⟨gb127, 0, none⟩ = some (.string x128000_1) := (blk_cell BK127.out 0).trans rfl
            have hcz29_1 : wc.cell? ⟨gb127, 1, none⟩ = some (.string x128001_1) := (blk_cell BK127.out 1).trans rfl
            have hcz29_2 : wc.cell? ⟨gb127, 2, none⟩ = some (.string x128002_1) := (blk_cell BK127.out 2).trans rfl
            have hcz29_3 : wc.cell? ⟨gb127, 3, none⟩ = some (.string x128003_1) := (blk_cell BK127.out 3).trans rfl
            have hcz29_4 : wc.cell? ⟨gb127, 4, none⟩ = some (.slice none 0 0) := (blk_cell BK127.out 4).trans rfl
            have hcz29_5 : wc.cell? ⟨gb127, 5, none⟩ = some (.string x128005_1) := (blk_cell BK127.out 5).trans rfl
            have hcz29_6 : wc.cell? ⟨gb127, 6, none⟩ = some (.slice none 0 0) := (blk_cell BK127.out 6).trans rfl
            have hfz29_0 := blk_frozen BK127.out 0
            have hfz29_1 := blk_frozen BK127.out 1
            have hfz29_2 := blk_frozen BK127.out 2
            have hfz29_3 := blk_frozen BK127.out 3
            have hfz29_4 := blk_frozen BK127.out 4
            have hfz29_5 := blk_frozen BK127.out 5
            have hfz29_6 := blk_frozen BK127.out 6
            go_wp2
            refine bodyPost_ret (results_ct rfl _ _ gb127 24 #[.string (⟨#[]⟩ : ByteArray), .string (⟨#[]⟩ : ByteArray), .string (⟨#[]⟩ : ByteArray), .string (⟨#[]⟩ : ByteArray), .slice none 0 0, .string (⟨#[]⟩ : ByteArray), .slice none 0 0] (0, 0) _ rfl (by (with_reducible repeat (first | refine blk_drewN ?_ _ | refine blk_drew ?_ | refine blk_alloc ?_ _)); refine blk_put (cs := #[.string (⟨#[]⟩ : ByteArray), .string (⟨#[]⟩ : ByteArray), .string (⟨#[]⟩ : ByteArray), .string (⟨#[]⟩ : ByteArray), .slice none 0 0, .string (⟨#[]⟩ : ByteArray), .slice none 0 0]) ?_ 6 _ rfl; (with_reducible repeat (first | refine blk_drewN ?_ _ | refine blk_drew ?_ | refine blk_alloc ?_ _)); refine blk_put (cs := #[.string (⟨#[]⟩ : ByteArray), .string (⟨#[]⟩ : ByteArray), .string (⟨#[]⟩ : ByteArray), .string (⟨#[]⟩ : ByteArray), .slice none 0 0, .string x128005_1, .slice none 0 0]) ?_ 5 _ rfl; (with_reducible repeat (first | refine blk_drewN ?_ _ | refine blk_drew ?_ | refine blk_alloc ?_ _)); refine blk_put (cs := #[.string (⟨#[]⟩ : ByteArray), .string (⟨#[]⟩ : ByteArray), .string (⟨#[]⟩ : ByteArray), .string (⟨#[]⟩ : ByteArray), .slice none 0 0, .string x128005_1, .slice none 0 0]) ?_ 4 _ rfl; (with_reducible repeat (first | refine blk_drewN ?_ _ | refine blk_drew ?_ | refine blk_alloc ?_ _)); refine blk_put (cs := #[.string (⟨#[]⟩ : ByteArray), .string (⟨#[]⟩ : ByteArray), .string (⟨#[]⟩ : ByteArray), .string x128003_1, .slice none 0 0, .string x128005_1, .slice none 0 0]) ?_ 3 _ rfl; (with_reducible repeat (first | refine blk_drewN ?_ _ | refine blk_drew ?_ | refine blk_alloc ?_ _)); refine blk_put (cs := #[.string (⟨#[]⟩ : ByteArray), .string (⟨#[]⟩ : ByteArray), .string x128002_1, .string x128003_1, .slice none 0 0, .string x128005_1, .slice none 0 0]) ?_ 2 _ rfl; (with_reducible repeat (first | refine blk_drewN ?_ _ | refine blk_drew ?_ | refine blk_alloc ?_ _)); refine blk_put (cs := #[.string (⟨#[]⟩ : ByteArray), .string x128001_1, .string x128002_1, .string x128003_1, .slice none 0 0, .string x128005_1, .slice none 0 0]) ?_ 1 _ rfl; (with_reducible repeat (first | refine blk_drewN ?_ _ | refine blk_drew ?_ | refine blk_alloc ?_ _)); refine blk_put (cs := #[.string x128000_1, .string x128001_1, .string x128002_1, .string x128003_1, .slice none 0 0, .string x128005_1, .slice none 0 0]) ?_ 0 _ rfl; (with_reducible repeat (first | refine blk_drewN ?_ _ | refine blk_drew ?_ | refine blk_alloc ?_ _)); exact BK127.out) Tryd.underlying24 rfl (by kernel_rfl)) rfl ?_
            exact ⟨_, _, by first | rfl | (simp [errW_none, errW_some] <;> rfl) | (simp [*, errW_none, errW_some] <;> rfl), by first | exact Kd.R_nil _ _ _ _ _ | exact Kd.N_nil _ _ _ _ _ | exact Kd.V_nil _ _ _ _ _ | exact Kd.Q_nil _ _ _ _ _ | exact Kd.S_nil _ _ _ _ _, by first | exact Kd.R_nil _ _ _ _ _ | exact Kd.N_nil _ _ _ _ _ | exact Kd.V_nil _ _ _ _ _ | exact Kd.Q_nil _ _ _ _ _ | exact Kd.S_nil _ _ _ _ _, by repeat (first | (with_reducible first | exact HB.out | apply below_alloc | apply pw_below_drewN | apply below_drew1 | refine below_set ?_ GE127.out | refine below_set ?_ GE128.out | refine below_set ?_ GE130.out) | exact HB.out)⟩
           ·
            replace c26 := Bool.eq_false_iff.mpr c26
            subst c26
            have H1 : ((mput.f x4_1 ((rd_T30 l0 x21_1).f0) ((rd_T30 l0 x21_1).f1)).bind fun t134 => (msg_Two.l0 kj9 t134 false l0 (l0.length : Int) (wrap64 (x21_1 + 1)) (⟨#[]⟩ : ByteArray) (⟨#[]⟩ : ByteArray) (⟨#[]⟩ : ByteArray) (⟨#[]⟩ : ByteArray) x129004_1 (⟨#[]⟩ : ByteArray))) = some (r1, r2, r3, r4, r5, r6, r7, r8) := by rw [if_neg (show ¬ (false = true) by decide)] at H; exact H
            clear H
            have H := H1
            clear H1
            replace H := Option.bind_eq_some_iff.mp H
            obtain ⟨t134, A300, H⟩ := H
            replace H : (msg_Two.l0 kj9 t134 false l0 (l0.length : Int) (wrap64 (x21_1 + 1)) (⟨#[]⟩ : ByteArray) (⟨#[]⟩ : ByteArray) (⟨#[]⟩ : ByteArray) (⟨#[]⟩ : ByteArray) x129004_1 (⟨#[]⟩ : ByteArray)) = some (r1, r2, r3, r4, r5, r6, r7, r8) := H
            have A30 := Aside0.mk A300
            clear A300
            have H' := Aside0.mk H
            clear H
            have hnb31 := NB130_127.out
            have hnc31 := NB127_130.out
            have hnb32 := NB130_128.out
            have hnc32 := NB128_130.out
            have hcz33_0 : wc.cell? ⟨gb130, 0, none⟩ = some (.string ((rd_T30 l0 x21_1).f0)) := (blk_cell BK130.out 0).trans rfl
            have hcz33_1 : wc.cell? ⟨gb130, 1, none⟩ = some (.string ((rd_T30 l0 x21_1).f1)) := (blk_cell BK130.out 1).trans rfl
            have hfz33_0 := blk_frozen BK130.out 0
            have hfz33_1 := blk_frozen BK130.out 1
            go_wp2_with (first | (at_mapUpdate; refine mputL rfl _ _ _ rfl _ rfl rfl rfl (by with_reducible repeat (first | exact HO_4.out | apply MR_alloc | apply MR_drewN | apply MR_drew | apply MR_set)) A30.out ?_; intro w34 ho0 hg hm hB_; have n0_ := Aside0.mk (True.intro); have n1_ := Aside0.mk (R_m (by (with_reducible repeat (first | apply Kd.R_alloc | apply Kd.R_drewN | apply Kd.R_drew)); exact HO_129004.out) hm hg); have n2_ := Aside0.mk (ho0); have n3_ := Aside0.mk (blk_m (g := gb127) (o := .cells #[.string x128000_1, .string x128001_1, .string x128002_1, .string x128003_1, .slice none 0 0, .string x128005_1, .slice none 0 0] 24 (0, 0)) (by (with_reducible repeat (first | refine blk_drewN ?_ _ | refine blk_drew ?_ | refine blk_alloc ?_ _)); exact BK127.out) (fun _ _ h_ => by cases h_) hm hg); have n4_ := Aside0.mk (blk_m (g := gb128) (o := .cells #[.string (⟨#[]⟩ : ByteArray), .string (⟨#[]⟩ : ByteArray), .string (⟨#[]⟩ : ByteArray), .string (⟨#[]⟩ : ByteArray), u129004, .string (⟨#[]⟩ : ByteArray), .slice none 0 0] 24 (0, 0)) (by (with_reducible repeat (first | refine blk_drewN ?_ _ | refine blk_drew ?_ | refine blk_alloc ?_ _)); exact BK128.out) (fun _ _ h_ => by cases h_) hm hg); have n5_ := Aside0.mk (blk_m (g := gb130) (o := .cells #[.string ((rd_T30 l0 x21_1).f0), .string ((rd_T30 l0 x21_1).f1)] 30 (0, 0)) (by (with_reducible repeat (first | refine blk_drewN ?_ _ | refine blk_drew ?_ | refine blk_alloc ?_ _)); exact BK130.out) (fun _ _ h_ => by cases h_) hm hg); have n6_ := Aside0.mk (below_m (by repeat (first | (with_reducible first | exact HB.out | apply below_alloc | apply pw_below_drewN | apply below_drew1 | refine below_set ?_ GE127.out | refine below_set ?_ GE128.out | refine below_set ?_ GE130.out) | exact HB.out)) hB_ hg); clear HO_4; clear HO_129004; clear BK127; clear BK128; clear BK130; clear HB; have HO_4 := n0_; have HO_129004 := n1_; have HO136 := n2_; have BK127 := n3_; have BK128 := n4_; have BK130 := n5_; have HB := n6_; clear n0_ n1_ n2_ n3_ n4_ n5_ n6_; (try clear hg); (try clear hm); (try clear hB_); (try clear hb2); (try clear hk); (try clear hi); (try clear ho0)))
            go_roundg kj9
            case measure => have := HK1.out; have := HJ9.out; omega
            case rel => exact ⟨(t134), (false), (wrap64 (x21_1 + 1)), (x128000_1), (x128001_1), (x128002_1), (x128003_1), (x128005_1), (x129004_1), (u129004), (by first | rfl | (simp; done) | (simp [*]; done) | (simp [bne_nil_]; done) | (simp only [ByteArray.size_append, Int.natCast_add]; rfl)), (by first | rfl | (simp; done) | (simp [*]; done) | (simp [bne_nil_]; done) | (simp only [ByteArray.size_append, Int.natCast_add]; rfl)), H', ⟨by have := HK1.out; have := HJ9.out; omega⟩, ⟨by with_reducible repeat (first | exact HO136.out | apply MR_alloc | apply MR_drewN | apply MR_drew | apply MR_set)⟩, ⟨by (with_reducible repeat (first | apply Kd.R_alloc | apply Kd.R_drewN | apply Kd.R_drew)); exact Kd.R_mono HO_129004.out (fun _ _ => trivial)⟩, ⟨by (with_reducible repeat (first | refine blk_drewN ?_ _ | refine blk_drew ?_ | refine blk_alloc ?_ _)); exact BK127.out⟩, ⟨by (with_reducible repeat (first | refine blk_drewN ?_ _ | refine blk_drew ?_ | refine blk_alloc ?_ _)); exact BK128.out⟩, ⟨by repeat (first | (with_reducible first | exact HB.out | apply below_alloc | apply pw_below_drewN | apply below_drew1 | refine below_set ?_ GE127.out | refine below_set ?_ GE128.out | refine below_set ?_ GE130.out) | exact HB.out)⟩⟩
         ·
          replace c21 := Bool.eq_false_iff.mpr c21
          subst c21
          have H1 : (some ((⟨#[]⟩ : ByteArray), (⟨#[]⟩ : ByteArray), (⟨#[]⟩ : ByteArray), (⟨#[]⟩ : ByteArray), ([] : List (S30)), (⟨#[]⟩ : ByteArray), ([] : List (S30)), 140)) = some (r1, r2, r3, r4, r5, r6, r7, r8) := by rw [if_neg (show ¬ (false = true) by decide)] at H; exact H
          clear H
          have H := H1
          clear H1
          simp only [Option.some.injEq, Prod.mk.injEq] at H
          obtain ⟨rfl, rfl, rfl, rfl, rfl, rfl, rfl, rfl⟩ := H
          have hnb35 := NB127_128.out
          have hnc35 := NB128_127.out
          have hnb36 := NB127_130.out
          have hnc36 := NB130_127.out
          have hcz37_0 : wc.cell? ⟨gb127, 0, none⟩ = some (.string x128000_1) := (blk_cell BK127.out 0).trans rfl
          have hcz37_1 : wc.cell? ⟨gb127, 1, none⟩ = some (.string x128001_1) := (blk_cell BK127.out 1).trans rfl
          have hcz37_2 : wc.cell? ⟨gb127, 2, none⟩ = some (.string x128002_1) := (blk_cell BK127.out 2).trans rfl
          have hcz37_3 : wc.cell? ⟨gb127, 3, none⟩ = some (.string x128003_1) := (blk_cell BK127.out 3).trans rfl
          have hcz37_4 : wc.cell? ⟨gb127, 4, none⟩ = some (.slice none 0 0) := (blk_cell BK127.out 4).trans rfl
          have hcz37_5 : wc.cell? ⟨gb127, 5, none⟩ = some (.string x128005_1) := (blk_cell BK127.out 5).trans rfl
          have hcz37_6 : wc.cell? ⟨gb127, 6, none⟩ = some (.slice none 0 0) := (blk_cell BK127.out 6).trans rfl
          have hfz37_0 := blk_frozen BK127.out 0
          have hfz37_1 := blk_frozen BK127.out 1
          have hfz37_2 := blk_frozen BK127.out 2
          have hfz37_3 := blk_frozen BK127.out 3
          have hfz37_4 := blk_frozen BK127.out 4
          have hfz37_5 := blk_frozen BK127.out 5
          have hfz37_6 := blk_frozen BK127.out 6
          go_wp2
          refine bodyPost_ret (results_ct rfl _ _ gb127 24 #[.string (⟨#[]⟩ : ByteArray), .string (⟨#[]⟩ : ByteArray), .string (⟨#[]⟩ : ByteArray), .string (⟨#[]⟩ : ByteArray), .slice none 0 0, .string (⟨#[]⟩ : ByteArray), .slice none 0 0] (0, 0) _ rfl (by (with_reducible repeat (first | refine blk_drewN ?_ _ | refine blk_drew ?_ | refine blk_alloc ?_ _)); refine blk_put (cs := #[.string (⟨#[]⟩ : ByteArray), .string (⟨#[]⟩ : ByteArray), .string (⟨#[]⟩ : ByteArray), .string (⟨#[]⟩ : ByteArray), .slice none 0 0, .string (⟨#[]⟩ : ByteArray), .slice none 0 0]) ?_ 6 _ rfl; (with_reducible repeat (first | refine blk_drewN ?_ _ | refine blk_drew ?_ | refine blk_alloc ?_ _)); refine blk_put (cs := #[.string (⟨#[]⟩ : ByteArray), .string (⟨#[]⟩ : ByteArray), .string (⟨#[]⟩ : ByteArray), .string (⟨#[]⟩ : ByteArray), .slice none 0 0, .string x128005_1, .slice none 0 0]) ?_ 5 _ rfl; (with_reducible repeat (first | refine blk_drewN ?_ _ | refine blk_drew ?_ | refine blk_alloc ?_ _)); refine blk_put (cs := #[.string (⟨#[]⟩ : ByteArray), .string (⟨#[]⟩ : ByteArray), .string (⟨#[]⟩ : ByteArray), .string (⟨#[]⟩ : ByteArray), .slice none 0 0, .string x128005_1, .slice none 0 0]) ?_ 4 _ rfl; (with_reducible repeat (first | refine blk_drewN ?_ _ | refine blk_drew ?_ | refine blk_alloc ?_ _)); refine blk_put (cs := #[.string (⟨#[]⟩ : ByteArray), .string (⟨#[]⟩ : ByteArray), .string (⟨#[]⟩ : ByteArray), .string x128003_1, .slice none 0 0, .string x128005_1, .slice none 0 0]) ?_ 3 _ rfl; (with_reducible repeat (first | refine blk_drewN ?_ _ | refine blk_drew ?_ | refine blk_alloc ?_ _)); refine blk_put (cs := #[.string (⟨#[]⟩ : ByteArray), .string (⟨#[]⟩ : ByteArray), .string x128002_1, .string x128003_1, .slice none 0 0, .string x128005_1, .slice none 0 0]) ?_ 2 _ rfl; (with_reducible repeat (first | refine blk_drewN ?_ _ | refine blk_drew ?_ | refine blk_alloc ?_ _)); refine blk_put (cs := #[.string (⟨#[]⟩ : ByteArray), .string x128001_1, .string x128002_1, .string x128003_1, .slice none 0 0, .string x128005_1, .slice none 0 0]) ?_ 1 _ rfl; (with_reducible repeat (first | refine blk_drewN ?_ _ | refine blk_drew ?_ | refine blk_alloc ?_ _)); refine blk_put (cs := #[.string x128000_1, .string x128001_1, .string x128002_1, .string x128003_1, .slice none 0 0, .string x128005_1, .slice none 0 0]) ?_ 0 _ rfl; (with_reducible repeat (first | refine blk_drewN ?_ _ | refine blk_drew ?_ | refine blk_alloc ?_ _)); exact BK127.out) Tryd.underlying24 rfl (by kernel_rfl)) rfl ?_
          exact ⟨_, _, by first | rfl | (simp [errW_none, errW_some] <;> rfl) | (simp [*, errW_none, errW_some] <;> rfl), by first | exact Kd.R_nil _ _ _ _ _ | exact Kd.N_nil _ _ _ _ _ | exact Kd.V_nil _ _ _ _ _ | exact Kd.Q_nil _ _ _ _ _ | exact Kd.S_nil _ _ _ _ _, by first | exact Kd.R_nil _ _ _ _ _ | exact Kd.N_nil _ _ _ _ _ | exact Kd.V_nil _ _ _ _ _ | exact Kd.Q_nil _ _ _ _ _ | exact Kd.S_nil _ _ _ _ _, by repeat (first | (with_reducible first | exact HB.out | apply below_alloc | apply pw_below_drewN | apply below_drew1 | refine below_set ?_ GE127.out | refine below_set ?_ GE128.out | refine below_set ?_ GE130.out) | exact HB.out)⟩
      ·
       replace c9 := Bool.eq_false_iff.mpr c9
       subst c9
       have H1 : ((msg_plain.f k1 ((rd_T30 l0 x21_1).f0) ((rd_T30 l0 x21_1).f1)).bind fun t137 => (if t137 = true then (if ((rd_T30 l0 x21_1).f0).toList = ([116, 101] : List UInt8) then (if ((rd_T30 l0 x21_1).f1).toList = ([116, 114, 97, 105, 108, 101, 114, 115] : List UInt8) then (if ((rd_T30 l0 x21_1).f0).toList = ([104, 111, 115, 116] : List UInt8) then (msg_Two.j2 k1 x4_1 true l0 (l0.length : Int) x21_1 t132 (⟨#[]⟩ : ByteArray) (⟨#[]⟩ : ByteArray) (⟨#[]⟩ : ByteArray) (⟨#[]⟩ : ByteArray) x129004_1 (⟨#[]⟩ : ByteArray) ((rd_T30 l0 x21_1).f0) ((rd_T30 l0 x21_1).f1)) else (msg_Two.j2 k1 x4_1 true l0 (l0.length : Int) x21_1 false (⟨#[]⟩ : ByteArray) (⟨#[]⟩ : ByteArray) (⟨#[]⟩ : ByteArray) (⟨#[]⟩ : ByteArray) x129004_1 (⟨#[]⟩ : ByteArray) ((rd_T30 l0 x21_1).f0) ((rd_T30 l0 x21_1).f1))) else (msg_Two.j2 k1 x4_1 true l0 (l0.length : Int) x21_1 (((rd_T30 l0 x21_1).f1).toList != ([116, 114, 97, 105, 108, 101, 114, 115] : List UInt8)) (⟨#[]⟩ : ByteArray) (⟨#[]⟩ : ByteArray) (⟨#[]⟩ : ByteArray) (⟨#[]⟩ : ByteArray) x129004_1 (⟨#[]⟩ : ByteArray) ((rd_T30 l0 x21_1).f0) ((rd_T30 l0 x21_1).f1))) else (if ((rd_T30 l0 x21_1).f0).toList = ([104, 111, 115, 116] : List UInt8) then (msg_Two.j2 k1 x4_1 true l0 (l0.length : Int) x21_1 t132 (⟨#[]⟩ : ByteArray) (⟨#[]⟩ : ByteArray) (⟨#[]⟩ : ByteArray) (⟨#[]⟩ : ByteArray) x129004_1 (⟨#[]⟩ : ByteArray) ((rd_T30 l0 x21_1).f0) ((rd_T30 l0 x21_1).f1)) else (msg_Two.j2 k1 x4_1 true l0 (l0.length : Int) x21_1 false (⟨#[]⟩ : ByteArray) (⟨#[]⟩ : ByteArray) (⟨#[]⟩ : ByteArray) (⟨#[]⟩ : ByteArray) x129004_1 (⟨#[]⟩ : ByteArray) ((rd_T30 l0 x21_1).f0) ((rd_T30 l0 x21_1).f1)))) else (msg_Two.j2 k1 x4_1 true l0 (l0.length : Int) x21_1 (!t137) (⟨#[]⟩ : ByteArray) (⟨#[]⟩ : ByteArray) (⟨#[]⟩ : ByteArray) (⟨#[]⟩ : ByteArray) x129004_1 (⟨#[]⟩ : ByteArray) ((rd_T30 l0 x21_1).f0) ((rd_T30 l0 x21_1).f1)))) = some (r1, r2, r3, r4, r5, r6, r7, r8) := by rw [if_neg (show ¬ (false = true) by decide)] at H; exact H
       clear H
       have H := H1
       clear H1
       replace H := Option.bind_eq_some_iff.mp H
       obtain ⟨t137, A380, H⟩ := H
       replace H : (if t137 = true then (if ((rd_T30 l0 x21_1).f0).toList = ([116, 101] : List UInt8) then (if ((rd_T30 l0 x21_1).f1).toList = ([116, 114, 97, 105, 108, 101, 114, 115] : List UInt8) then (if ((rd_T30 l0 x21_1).f0).toList = ([104, 111, 115, 116] : List UInt8) then (msg_Two.j2 k1 x4_1 true l0 (l0.length : Int) x21_1 t132 (⟨#[]⟩ : ByteArray) (⟨#[]⟩ : ByteArray) (⟨#[]⟩ : ByteArray) (⟨#[]⟩ : ByteArray) x129004_1 (⟨#[]⟩ : ByteArray) ((rd_T30 l0 x21_1).f0) ((rd_T30 l0 x21_1).f1)) else (msg_Two.j2 k1 x4_1 true l0 (l0.length : Int) x21_1 false (⟨#[]⟩ : ByteArray) (⟨#[]⟩ : ByteArray) (⟨#[]⟩ : ByteArray) (⟨#[]⟩ : ByteArray) x129004_1 (⟨#[]⟩ : ByteArray) ((rd_T30 l0 x21_1).f0) ((rd_T30 l0 x21_1).f1))) else (msg_Two.j2 k1 x4_1 true l0 (l0.length : Int) x21_1 (((rd_T30 l0 x21_1).f1).toList != ([116, 114, 97, 105, 108, 101, 114, 115] : List UInt8)) (⟨#[]⟩ : ByteArray) (⟨#[]⟩ : ByteArray) (⟨#[]⟩ : ByteArray) (⟨#[]⟩ : ByteArray) x129004_1 (⟨#[]⟩ : ByteArray) ((rd_T30 l0 x21_1).f0) ((rd_T30 l0 x21_1).f1))) else (if ((rd_T30 l0 x21_1).f0).toList = ([104, 111, 115, 116] : List UInt8) then (msg_Two.j2 k1 x4_1 true l0 (l0.length : Int) x21_1 t132 (⟨#[]⟩ : ByteArray) (⟨#[]⟩ : ByteArray) (⟨#[]⟩ : ByteArray) (⟨#[]⟩ : ByteArray) x129004_1 (⟨#[]⟩ : ByteArray) ((rd_T30 l0 x21_1).f0) ((rd_T30 l0 x21_1).f1)) else (msg_Two.j2 k1 x4_1 true l0 (l0.length : Int) x21_1 false (⟨#[]⟩ : ByteArray) (⟨#[]⟩ : ByteArray) (⟨#[]⟩ : ByteArray) (⟨#[]⟩ : ByteArray) x129004_1 (⟨#[]⟩ : ByteArray) ((rd_T30 l0 x21_1).f0) ((rd_T30 l0 x21_1).f1)))) else (msg_Two.j2 k1 x4_1 true l0 (l0.length : Int) x21_1 (!t137) (⟨#[]⟩ : ByteArray) (⟨#[]⟩ : ByteArray) (⟨#[]⟩ : ByteArray) (⟨#[]⟩ : ByteArray) x129004_1 (⟨#[]⟩ : ByteArray) ((rd_T30 l0 x21_1).f0) ((rd_T30 l0 x21_1).f1))) = some (r1, r2, r3, r4, r5, r6, r7, r8) := H
       have A38 := Aside0.mk A380
       clear A380
       have HC39 := Aside0.mk H
       clear H
       have p129 : 0 ≤ (x21_1 : Int) := of_decide_eq_true (by first | (with_reducible assumption) | assumption)
       have q129 : x21_1 < (l0.length : Int) := of_decide_eq_true (by first | (with_reducible assumption) | assumption)
       obtain ⟨ad129, e129, hx129_0, hx129_1⟩ := at_T30 HR0.out x21_1 p129 q129
       cases e129
       replace hx129_0 := (HB.out.cell (World.block_lt_of_cell? w _ hx129_0)).trans hx129_0
       replace hx129_1 := (HB.out.cell (World.block_lt_of_cell? w _ hx129_1)).trans hx129_1
       replace p129 := eq_true p129
       replace q129 := eq_true q129
       go_upto_if 53 with (first | ((with_reducible refine gate_dst (N := 8) rfl ?_); refine box_event ?hg (N := 8) ?hd (cs := #[.string (⟨#[]⟩ : ByteArray), .string (⟨#[]⟩ : ByteArray)]) (t := 30) ?hr ?_; (case hd => rfl); (case hg => rfl); (case hr => first | (go_simp; done) | (go_simp; rfl)); intro gb130 hg w40 hbox hb; have n0_ := Aside0.mk (MR_below (by with_reducible repeat (first | exact HO_4.out | apply MR_alloc | apply MR_drewN | apply MR_drew | apply MR_set)) hb); have n1_ := Aside0.mk (Kd.R_below (Kd.R_elderB (by (with_reducible repeat (first | apply Kd.R_alloc | apply Kd.R_drewN | apply Kd.R_drew)); exact HO_129004.out) gb130 (Nat.le_of_eq hg.symm)) hb); have n2_ := Aside0.mk (blk_below (g := gb127) (o := .cells #[.string x128000_1, .string x128001_1, .string x128002_1, .string x128003_1, .slice none 0 0, .string x128005_1, .slice none 0 0] 24 (0, 0)) (by (with_reducible repeat (first | refine blk_drewN ?_ _ | refine blk_drew ?_ | refine blk_alloc ?_ _)); exact BK127.out) hb); have n3_ := Aside0.mk (blk_below (g := gb128) (o := .cells #[.string (⟨#[]⟩ : ByteArray), .string (⟨#[]⟩ : ByteArray), .string (⟨#[]⟩ : ByteArray), .string (⟨#[]⟩ : ByteArray), u129004, .string (⟨#[]⟩ : ByteArray), .slice none 0 0] 24 (0, 0)) (by (with_reducible repeat (first | refine blk_drewN ?_ _ | refine blk_drew ?_ | refine blk_alloc ?_ _)); exact BK128.out) hb); have n4_ := Aside0.mk (below_step (by repeat (first | (with_reducible first | exact HB.out | apply below_alloc | apply pw_below_drewN | apply below_drew1 | refine below_set ?_ GE127.out | refine below_set ?_ GE128.out) | exact HB.out)) hb); have n5_ := Aside0.mk (hbox); have n6_ := Aside0.mk ((by rw [hg]; exact (below_size (by repeat (first | (with_reducible first | exact HB.out | apply below_alloc | apply pw_below_drewN | apply below_drew1 | refine below_set ?_ GE127.out | refine below_set ?_ GE128.out) | exact HB.out))) : w.heap.size ≤ gb130)); have n7_ := Aside0.mk ((by rw [hg]; exact (below_size (by repeat (first | (with_reducible first | exact HB.out | apply below_alloc | apply pw_below_drewN | apply below_drew1 | refine below_set ?_ GE127.out | refine below_set ?_ GE128.out) | exact HB.out))) : w.heap.size ≤ gb130)); have n8_ := Aside0.mk ((by rw [hg]; exact Nat.ne_of_lt (blk_lt (g := gb127) (o := .cells #[.string x128000_1, .string x128001_1, .string x128002_1, .string x128003_1, .slice none 0 0, .string x128005_1, .slice none 0 0] 24 (0, 0)) (by (with_reducible repeat (first | refine blk_drewN ?_ _ | refine blk_drew ?_ | refine blk_alloc ?_ _)); exact BK127.out)) : gb127 ≠ gb130)); have n9_ := Aside0.mk ((by rw [hg]; exact Nat.ne_of_gt (blk_lt (g := gb127) (o := .cells #[.string x128000_1, .string x128001_1, .string x128002_1, .string x128003_1, .slice none 0 0, .string x128005_1, .slice none 0 0] 24 (0, 0)) (by (with_reducible repeat (first | refine blk_drewN ?_ _ | refine blk_drew ?_ | refine blk_alloc ?_ _)); exact BK127.out)) : gb130 ≠ gb127)); have n10_ := Aside0.mk ((by rw [hg]; exact Nat.ne_of_lt (blk_lt (g := gb128) (o := .cells #[.string (⟨#[]⟩ : ByteArray), .string (⟨#[]⟩ : ByteArray), .string (⟨#[]⟩ : ByteArray), .string (⟨#[]⟩ : ByteArray), u129004, .string (⟨#[]⟩ : ByteArray), .slice none 0 0] 24 (0, 0)) (by (with_reducible repeat (first | refine blk_drewN ?_ _ | refine blk_drew ?_ | refine blk_alloc ?_ _)); exact BK128.out)) : gb128 ≠ gb130)); have n11_ := Aside0.mk ((by rw [hg]; exact Nat.ne_of_gt (blk_lt (g := gb128) (o := .cells #[.string (⟨#[]⟩ : ByteArray), .string (⟨#[]⟩ : ByteArray), .string (⟨#[]⟩ : ByteArray), .string (⟨#[]⟩ : ByteArray), u129004, .string (⟨#[]⟩ : ByteArray), .slice none 0 0] 24 (0, 0)) (by (with_reducible repeat (first | refine blk_drewN ?_ _ | refine blk_drew ?_ | refine blk_alloc ?_ _)); exact BK128.out)) : gb130 ≠ gb128)); clear HO_4; clear HO_129004; clear BK127; clear BK128; clear HB; have HO_4 := n0_; have HO_129004 := n1_; have BK127 := n2_; have BK128 := n3_; have HB := n4_; have BK130 := n5_; have GW130 := n6_; have GE130 := n7_; have NB127_130 := n8_; have NB130_127 := n9_; have NB128_130 := n10_; have NB130_128 := n11_; clear n0_ n1_ n2_ n3_ n4_ n5_ n6_ n7_ n8_ n9_ n10_ n11_; clear hb hbox hg; have hnb41 := NB130_127.out; have hnc41 := NB127_130.out; have hnb42 := NB130_128.out; have hnc42 := NB128_130.out; have hcz43_0 : w40.cell? ⟨gb130, 0, none⟩ = some (.string (⟨#[]⟩ : ByteArray)) := (blk_cell BK130.out 0).trans rfl; have hcz43_1 : w40.cell? ⟨gb130, 1, none⟩ = some (.string (⟨#[]⟩ : ByteArray)) := (blk_cell BK130.out 1).trans rfl; have hfz43_0 := blk_frozen BK130.out 0; have hfz43_1 := blk_frozen BK130.out 1) | ((with_reducible refine gate_dst (N := 29) rfl ?_); refine mgetL 29 rfl rfl _ _ rfl _ rfl rfl (by with_reducible repeat (first | exact HO_4.out | apply MR_alloc | apply MR_drewN | apply MR_drew | apply MR_set)) A7.out ?_; intro w45 hb; have n0_ := Aside0.mk (MR_below (by with_reducible repeat (first | exact HO_4.out | apply MR_alloc | apply MR_drewN | apply MR_drew | apply MR_set)) hb); have n1_ := Aside0.mk (Kd.R_below (by (with_reducible repeat (first | apply Kd.R_alloc | apply Kd.R_drewN | apply Kd.R_drew)); exact (Kd.R_mono (Kd.R_far (p := ⟨gb130, 1, none⟩) (Kd.R_far (p := ⟨gb130, 0, none⟩) (Kd.R_mono HO_129004.out (fun k_ hk => (⟨hk, hk.2⟩ : _ ∧ k_ ≠ gb130))) (fun _ hk => hk.2) (.string ((rd_T30 l0 x21_1).f0))) (fun _ hk => hk.2) (.string ((rd_T30 l0 x21_1).f1))) (fun _ h_ => h_.1))) hb); have n2_ := Aside0.mk (blk_below (g := gb127) (o := .cells #[.string x128000_1, .string x128001_1, .string x128002_1, .string x128003_1, .slice none 0 0, .string x128005_1, .slice none 0 0] 24 (0, 0)) (by (with_reducible repeat (first | refine blk_drewN ?_ _ | refine blk_drew ?_ | refine blk_alloc ?_ _)); refine blk_far ?_ NB127_130.out _; (with_reducible repeat (first | refine blk_drewN ?_ _ | refine blk_drew ?_ | refine blk_alloc ?_ _)); refine blk_far ?_ NB127_130.out _; (with_reducible repeat (first | refine blk_drewN ?_ _ | refine blk_drew ?_ | refine blk_alloc ?_ _)); exact BK127.out) hb); have n3_ := Aside0.mk (blk_below (g := gb128) (o := .cells #[.string (⟨#[]⟩ : ByteArray), .string (⟨#[]⟩ : ByteArray), .string (⟨#[]⟩ : ByteArray), .string (⟨#[]⟩ : ByteArray), u129004, .string (⟨#[]⟩ : ByteArray), .slice none 0 0] 24 (0, 0)) (by (with_reducible repeat (first | refine blk_drewN ?_ _ | refine blk_drew ?_ | refine blk_alloc ?_ _)); refine blk_far ?_ NB128_130.out _; (with_reducible repeat (first | refine blk_drewN ?_ _ | refine blk_drew ?_ | refine blk_alloc ?_ _)); refine blk_far ?_ NB128_130.out _; (with_reducible repeat (first | refine blk_drewN ?_ _ | refine blk_drew ?_ | refine blk_alloc ?_ _)); exact BK128.out) hb); have n4_ := Aside0.mk (blk_below (g := gb130) (o := .cells #[.string ((rd_T30 l0 x21_1).f0), .string ((rd_T30 l0 x21_1).f1)] 30 (0, 0)) (by (with_reducible repeat (first | refine blk_drewN ?_ _ | refine blk_drew ?_ | refine blk_alloc ?_ _)); refine blk_put (cs := #[.string ((rd_T30 l0 x21_1).f0), .string (⟨#[]⟩ : ByteArray)]) ?_ 1 _ rfl; (with_reducible repeat (first | refine blk_drewN ?_ _ | refine blk_drew ?_ | refine blk_alloc ?_ _)); refine blk_put (cs := #[.string (⟨#[]⟩ : ByteArray), .string (⟨#[]⟩ : ByteArray)]) ?_ 0 _ rfl; (with_reducible repeat (first | refine blk_drewN ?_ _ | refine blk_drew ?_ | refine blk_alloc ?_ _)); exact BK130.out) hb); have n5_ := Aside0.mk (below_step (by repeat (first | (with_reducible first | exact HB.out | apply below_alloc | apply pw_below_drewN | apply below_drew1 | refine below_set ?_ GE127.out | refine below_set ?_ GE128.out | refine below_set ?_ GE130.out) | exact HB.out)) hb); clear HO_4; clear HO_129004; clear BK127; clear BK128; clear BK130; clear HB; have HO_4 := n0_; have HO_129004 := n1_; have BK127 := n2_; have BK128 := n3_; have BK130 := n4_; have HB := n5_; clear n0_ n1_ n2_ n3_ n4_ n5_; (try clear hb); (try clear hb2); (try clear hk); (try clear hi); have hcz46_0 : w45.cell? ⟨gb130, 0, none⟩ = some (.string ((rd_T30 l0 x21_1).f0)) := (blk_cell BK130.out 0).trans rfl; have hcz46_1 : w45.cell? ⟨gb130, 1, none⟩ = some (.string ((rd_T30 l0 x21_1).f1)) := (blk_cell BK130.out 1).trans rfl; have hfz46_0 := blk_frozen BK130.out 0; have hfz46_1 := blk_frozen BK130.out 1) | ((with_reducible refine gate_callee (f := 15) rfl ?_); refine goesL_ (some 34) rfl rfl Tryd.func15 (by kernel_rfl) rfl #[.string ((rd_T30 l0 x21_1).f0)] rfl (by (try simp only [List.map_toArray, List.map_cons, List.map_nil]); first | done | rfl | (simp only [List.length_drop, List.length_take]; rfl)) ?_; (with_reducible refine (msg_pseudo.calls ((rd_T30 l0 x21_1).f0) false _ A8.out).mono ?_); rintro e w' ⟨rfl, ⟨nd, rfl⟩⟩; refine ⟨_, rfl, ?_⟩) | ((with_reducible refine gate_callee (f := 16) rfl ?_); refine goesL_ (some 55) rfl rfl Tryd.func16 (by kernel_rfl) rfl #[.agg #[.string ((rd_T30 l0 x21_1).f0), .string ((rd_T30 l0 x21_1).f1)]] rfl (by (try simp only [List.map_toArray, List.map_cons, List.map_nil]); first | done | rfl | (simp only [List.length_drop, List.length_take]; rfl)) ?_; (with_reducible refine (msg_plain.calls k1 ((rd_T30 l0 x21_1).f0) ((rd_T30 l0 x21_1).f1) t137 _ A38.out).mono ?_); rintro e w47 ⟨rfl, hb⟩; refine ⟨_, rfl, ?_⟩; have n0_ := Aside0.mk (MR_below (by with_reducible repeat (first | exact HO_4.out | apply MR_alloc | apply MR_drewN | apply MR_drew | apply MR_set)) hb); have n1_ := Aside0.mk (Kd.R_below (by (with_reducible repeat (first | apply Kd.R_alloc | apply Kd.R_drewN | apply Kd.R_drew)); exact HO_129004.out) hb); have n2_ := Aside0.mk (blk_below (g := gb127) (o := .cells #[.string x128000_1, .string x128001_1, .string x128002_1, .string x128003_1, .slice none 0 0, .string x128005_1, .slice none 0 0] 24 (0, 0)) (by (with_reducible repeat (first | refine blk_drewN ?_ _ | refine blk_drew ?_ | refine blk_alloc ?_ _)); exact BK127.out) hb); have n3_ := Aside0.mk (blk_below (g := gb128) (o := .cells #[.string (⟨#[]⟩ : ByteArray), .string (⟨#[]⟩ : ByteArray), .string (⟨#[]⟩ : ByteArray), .string (⟨#[]⟩ : ByteArray), u129004, .string (⟨#[]⟩ : ByteArray), .slice none 0 0] 24 (0, 0)) (by (with_reducible repeat (first | refine blk_drewN ?_ _ | refine blk_drew ?_ | refine blk_alloc ?_ _)); exact BK128.out) hb); have n4_ := Aside0.mk (blk_below (g := gb130) (o := .cells #[.string ((rd_T30 l0 x21_1).f0), .string ((rd_T30 l0 x21_1).f1)] 30 (0, 0)) (by (with_reducible repeat (first | refine blk_drewN ?_ _ | refine blk_drew ?_ | refine blk_alloc ?_ _)); exact BK130.out) hb); have n5_ := Aside0.mk (below_step (by repeat (first | (with_reducible first | exact HB.out | apply below_alloc | apply pw_below_drewN | apply below_drew1 | refine below_set ?_ GE127.out | refine below_set ?_ GE128.out | refine below_set ?_ GE130.out) | exact HB.out)) hb); clear HO_4; clear HO_129004; clear BK127; clear BK128; clear BK130; clear HB; have HO_4 := n0_; have HO_129004 := n1_; have BK127 := n2_; have BK128 := n3_; have BK130 := n4_; have HB := n5_; clear n0_ n1_ n2_ n3_ n4_ n5_; (try clear hb); (try clear hb2); (try clear hk); (try clear hi)))
       (try simp only [Act.put, List.setIfInBounds_toArray, List.set_cons_zero, List.set_cons_succ])
       go_cut [53] (fun v53 wc => ∃ (kq : Nat) (x53_38 : Bool), v53 = .bool x53_38 ∧ Aside0 (msg_Two.j2 kq x4_1 true l0 (l0.length : Int) x21_1 x53_38 (⟨#[]⟩ : ByteArray) (⟨#[]⟩ : ByteArray) (⟨#[]⟩ : ByteArray) (⟨#[]⟩ : ByteArray) x129004_1 (⟨#[]⟩ : ByteArray) ((rd_T30 l0 x21_1).f0) ((rd_T30 l0 x21_1).f1) = some (r1, r2, r3, r4, r5, r6, r7, r8)) ∧ Aside0 (kq ≤ k1) ∧ Aside0 (MR wc w.heap.size (.map (some b4_)) x4_1) ∧ Aside0 (Kd.R k30 30 wc w.heap.size (fun k_ => True ∧ k_ ≠ gb130) u129004 x129004_1) ∧ Aside0 (wc.heap[gb127]? = some (.cells #[.string x128000_1, .string x128001_1, .string x128002_1, .string x128003_1, (.slice none 0 0), .string x128005_1, (.slice none 0 0)] 24 (0, 0))) ∧ Aside0 (wc.heap[gb128]? = some (.cells #[.string (⟨#[]⟩ : ByteArray), .string (⟨#[]⟩ : ByteArray), .string (⟨#[]⟩ : ByteArray), .string (⟨#[]⟩ : ByteArray), u129004, .string (⟨#[]⟩ : ByteArray), (.slice none 0 0)] 24 (0, 0))) ∧ Aside0 (wc.heap[gb130]? = some (.cells #[.string ((rd_T30 l0 x21_1).f0), .string ((rd_T30 l0 x21_1).f1)] 30 (0, 0))) ∧ Aside0 (Below w.heap.size w wc))
       case first =>
        have H := HC39.out
        clear HC39
        by_cases c48 : t137 = true
        ·
         subst c48
         have H1 : (if ((rd_T30 l0 x21_1).f0).toList = ([116, 101] : List UInt8) then (if ((rd_T30 l0 x21_1).f1).toList = ([116, 114, 97, 105, 108, 101, 114, 115] : List UInt8) then (if ((rd_T30 l0 x21_1).f0).toList = ([104, 111, 115, 116] : List UInt8) then (msg_Two.j2 k1 x4_1 true l0 (l0.length : Int) x21_1 t132 (⟨#[]⟩ : ByteArray) (⟨#[]⟩ : ByteArray) (⟨#[]⟩ : ByteArray) (⟨#[]⟩ : ByteArray) x129004_1 (⟨#[]⟩ : ByteArray) ((rd_T30 l0 x21_1).f0) ((rd_T30 l0 x21_1).f1)) else (msg_Two.j2 k1 x4_1 true l0 (l0.length : Int) x21_1 false (⟨#[]⟩ : ByteArray) (⟨#[]⟩ : ByteArray) (⟨#[]⟩ : ByteArray) (⟨#[]⟩ : ByteArray) x129004_1 (⟨#[]⟩ : ByteArray) ((rd_T30 l0 x21_1).f0) ((rd_T30 l0 x21_1).f1))) else (msg_Two.j2 k1 x4_1 true l0 (l0.length : Int) x21_1 (((rd_T30 l0 x21_1).f1).toList != ([116, 114, 97, 105, 108, 101, 114, 115] : List UInt8)) (⟨#[]⟩ : ByteArray) (⟨#[]⟩ : ByteArray) (⟨#[]⟩ : ByteArray) (⟨#[]⟩ : ByteArray) x129004_1 (⟨#[]⟩ : ByteArray) ((rd_T30 l0 x21_1).f0) ((rd_T30 l0 x21_1).f1))) else (if ((rd_T30 l0 x21_1).f0).toList = ([104, 111, 115, 116] : List UInt8) then (msg_Two.j2 k1 x4_1 true l0 (l0.length : Int) x21_1 t132 (⟨#[]⟩ : ByteArray) (⟨#[]⟩ : ByteArray) (⟨#[]⟩ : ByteArray) (⟨#[]⟩ : ByteArray) x129004_1 (⟨#[]⟩ : ByteArray) ((rd_T30 l0 x21_1).f0) ((rd_T30 l0 x21_1).f1)) else (msg_Two.j2 k1 x4_1 true l0 (l0.length : Int) x21_1 false (⟨#[]⟩ : ByteArray) (⟨#[]⟩ : ByteArray) (⟨#[]⟩ : ByteArray) (⟨#[]⟩ : ByteArray) x129004_1 (⟨#[]⟩ : ByteArray) ((rd_T30 l0 x21_1).f0) ((rd_T30 l0 x21_1).f1)))) = some (r1, r2, r3, r4, r5, r6, r7, r8) := by rw [if_pos rfl] at H; exact H
         clear H
         have H := H1
         clear H1
         by_cases c49 : ((rd_T30 l0 x21_1).f0).toList = ([116, 101] : List UInt8)
         ·
          rw [if_pos c49] at H
          have c49b0 : (((rd_T30 l0 x21_1).f0).toList == ([116, 101] : List UInt8)) = true := beq_iff_eq.mpr c49
          have c49b1 : (((rd_T30 l0 x21_1).f0).toList != ([116, 101] : List UInt8)) = false := bne_eq_false_iff_eq.mpr c49
          clear c49
          (first | rw [c49b0] | (simp only [i64_w, i32_w]; rw [c49b0]) | skip)
          by_cases c50 : ((rd_T30 l0 x21_1).f1).toList = ([116, 114, 97, 105, 108, 101, 114, 115] : List UInt8)
          ·
           rw [if_pos c50] at H
           have c50b0 : (((rd_T30 l0 x21_1).f1).toList == ([116, 114, 97, 105, 108, 101, 114, 115] : List UInt8)) = true := beq_iff_eq.mpr c50
           have c50b1 : (((rd_T30 l0 x21_1).f1).toList != ([116, 114, 97, 105, 108, 101, 114, 115] : List UInt8)) = false := bne_eq_false_iff_eq.mpr c50
           clear c50
           by_cases c51 : ((rd_T30 l0 x21_1).f0).toList = ([104, 111, 115, 116] : List UInt8)
           ·
            rw [if_pos c51] at H
            have c51b0 : (((rd_T30 l0 x21_1).f0).toList == ([104, 111, 115, 116] : List UInt8)) = true := beq_iff_eq.mpr c51
            have c51b1 : (((rd_T30 l0 x21_1).f0).toList != ([104, 111, 115, 116] : List UInt8)) = false := bne_eq_false_iff_eq.mpr c51
            clear c51
            have H' := Aside0.mk H
            clear H
            have hnb52 := NB130_127.out
            have hnc52 := NB127_130.out
            have hnb53 := NB130_128.out
            have hnc53 := NB128_130.out
            have hcz54_0 : w47.cell? ⟨gb130, 0, none⟩ = some (.string ((rd_T30 l0 x21_1).f0)) := (blk_cell BK130.out 0).trans rfl
            have hcz54_1 : w47.cell? ⟨gb130, 1, none⟩ = some (.string ((rd_T30 l0 x21_1).f1)) := (blk_cell BK130.out 1).trans rfl
            have hfz54_0 := blk_frozen BK130.out 0
            have hfz54_1 := blk_frozen BK130.out 1
            go_wp2
            go_meet
            case rel => exact ⟨_, (t132), (by first | rfl | (simp; done) | (simp [*]; done) | (simp [bne_nil_]; done) | (simp only [ByteArray.size_append, Int.natCast_add]; rfl)), H', ⟨by have := HK1.out; first | omega | exact Nat.le_refl _⟩, ⟨by with_reducible repeat (first | exact HO_4.out | apply MR_alloc | apply MR_drewN | apply MR_drew | apply MR_set)⟩, ⟨by (with_reducible repeat (first | apply Kd.R_alloc | apply Kd.R_drewN | apply Kd.R_drew)); exact HO_129004.out⟩, ⟨by (with_reducible repeat (first | refine blk_drewN ?_ _ | refine blk_drew ?_ | refine blk_alloc ?_ _)); exact BK127.out⟩, ⟨by (with_reducible repeat (first | refine blk_drewN ?_ _ | refine blk_drew ?_ | refine blk_alloc ?_ _)); exact BK128.out⟩, ⟨by (with_reducible repeat (first | refine blk_drewN ?_ _ | refine blk_drew ?_ | refine blk_alloc ?_ _)); exact BK130.out⟩, ⟨by repeat (first | (with_reducible first | exact HB.out | apply below_alloc | apply pw_below_drewN | apply below_drew1 | refine below_set ?_ GE127.out | refine below_set ?_ GE128.out | refine below_set ?_ GE130.out) | exact HB.out)⟩⟩
           ·
            rw [if_neg c51] at H
            have c51b0 : (((rd_T30 l0 x21_1).f0).toList == ([104, 111, 115, 116] : List UInt8)) = false := beq_eq_false_iff_ne.mpr c51
            have c51b1 : (((rd_T30 l0 x21_1).f0).toList != ([104, 111, 115, 116] : List UInt8)) = true := bne_iff_ne.mpr c51
            have H' := Aside0.mk H
            clear H
            have hnb55 := NB130_127.out
            have hnc55 := NB127_130.out
            have hnb56 := NB130_128.out
            have hnc56 := NB128_130.out
            have hcz57_0 : w47.cell? ⟨gb130, 0, none⟩ = some (.string ((rd_T30 l0 x21_1).f0)) := (blk_cell BK130.out 0).trans rfl
            have hcz57_1 : w47.cell? ⟨gb130, 1, none⟩ = some (.string ((rd_T30 l0 x21_1).f1)) := (blk_cell BK130.out 1).trans rfl
            have hfz57_0 := blk_frozen BK130.out 0
            have hfz57_1 := blk_frozen BK130.out 1
            go_wp2
            go_meet
            case rel => exact ⟨_, (false), (by first | rfl | (simp; done) | (simp [*]; done) | (simp [bne_nil_]; done) | (simp only [ByteArray.size_append, Int.natCast_add]; rfl)), H', ⟨by have := HK1.out; first | omega | exact Nat.le_refl _⟩, ⟨by with_reducible repeat (first | exact HO_4.out | apply MR_alloc | apply MR_drewN | apply MR_drew | apply MR_set)⟩, ⟨by (with_reducible repeat (first | apply Kd.R_alloc | apply Kd.R_drewN | apply Kd.R_drew)); exact HO_129004.out⟩, ⟨by (with_reducible repeat (first | refine blk_drewN ?_ _ | refine blk_drew ?_ | refine blk_alloc ?_ _)); exact BK127.out⟩, ⟨by (with_reducible repeat (first | refine blk_drewN ?_ _ | refine blk_drew ?_ | refine blk_alloc ?_ _)); exact BK128.out⟩, ⟨by (with_reducible repeat (first | refine blk_drewN ?_ _ | refine blk_drew ?_ | refine blk_alloc ?_ _)); exact BK130.out⟩, ⟨by repeat (first | (with_reducible first | exact HB.out | apply below_alloc | apply pw_below_drewN | apply below_drew1 | refine below_set ?_ GE127.out | refine below_set ?_ GE128.out | refine below_set ?_ GE130.out) | exact HB.out)⟩⟩
          ·
           rw [if_neg c50] at H
           have c50b0 : (((rd_T30 l0 x21_1).f1).toList == ([116, 114, 97, 105, 108, 101, 114, 115] : List UInt8)) = false := beq_eq_false_iff_ne.mpr c50
           have c50b1 : (((rd_T30 l0 x21_1).f1).toList != ([116, 114, 97, 105, 108, 101, 114, 115] : List UInt8)) = true := bne_iff_ne.mpr c50
           have H' := Aside0.mk H
           clear H
           have hnb58 := NB130_127.out
           have hnc58 := NB127_130.out
           have hnb59 := NB130_128.out
           have hnc59 := NB128_130.out
           have hcz60_0 : w47.cell? ⟨gb130, 0, none⟩ = some (.string ((rd_T30 l0 x21_1).f0)) := (blk_cell BK130.out 0).trans rfl
           have hcz60_1 : w47.cell? ⟨gb130, 1, none⟩ = some (.string ((rd_T30 l0 x21_1).f1)) := (blk_cell BK130.out 1).trans rfl
           have hfz60_0 := blk_frozen BK130.out 0
           have hfz60_1 := blk_frozen BK130.out 1
           go_wp2
           go_meet
           case rel => exact ⟨_, ((((rd_T30 l0 x21_1).f1).toList != ([116, 114, 97, 105, 108, 101, 114, 115] : List UInt8))), (by first | rfl | (simp; done) | (simp [*]; done) | (simp [bne_nil_]; done) | (simp only [ByteArray.size_append, Int.natCast_add]; rfl)), H', ⟨by have := HK1.out; first | omega | exact Nat.le_refl _⟩, ⟨by with_reducible repeat (first | exact HO_4.out | apply MR_alloc | apply MR_drewN | apply MR_drew | apply MR_set)⟩, ⟨by (with_reducible repeat (first | apply Kd.R_alloc | apply Kd.R_drewN | apply Kd.R_drew)); exact HO_129004.out⟩, ⟨by (with_reducible repeat (first | refine blk_drewN ?_ _ | refine blk_drew ?_ | refine blk_alloc ?_ _)); exact BK127.out⟩, ⟨by (with_reducible repeat (first | refine blk_drewN ?_ _ | refine blk_drew ?_ | refine blk_alloc ?_ _)); exact BK128.out⟩, ⟨by (with_reducible repeat (first | refine blk_drewN ?_ _ | refine blk_drew ?_ | refine blk_alloc ?_ _)); exact BK130.out⟩, ⟨by repeat (first | (with_reducible first | exact HB.out | apply below_alloc | apply pw_below_drewN | apply below_drew1 | refine below_set ?_ GE127.out | refine below_set ?_ GE128.out | refine below_set ?_ GE130.out) | exact HB.out)⟩⟩
         ·
          rw [if_neg c49] at H
          have c49b0 : (((rd_T30 l0 x21_1).f0).toList == ([116, 101] : List UInt8)) = false := beq_eq_false_iff_ne.mpr c49
          have c49b1 : (((rd_T30 l0 x21_1).f0).toList != ([116, 101] : List UInt8)) = true := bne_iff_ne.mpr c49
          (first | rw [c49b0] | (simp only [i64_w, i32_w]; rw [c49b0]) | skip)
          by_cases c61 : ((rd_T30 l0 x21_1).f0).toList = ([104, 111, 115, 116] : List UInt8)
          ·
           rw [if_pos c61] at H
           have c61b0 : (((rd_T30 l0 x21_1).f0).toList == ([104, 111, 115, 116] : List UInt8)) = true := beq_iff_eq.mpr c61
           have c61b1 : (((rd_T30 l0 x21_1).f0).toList != ([104, 111, 115, 116] : List UInt8)) = false := bne_eq_false_iff_eq.mpr c61
           clear c61
           have H' := Aside0.mk H
           clear H
           have hnb62 := NB130_127.out
           have hnc62 := NB127_130.out
           have hnb63 := NB130_128.out
           have hnc63 := NB128_130.out
           have hcz64_0 : w47.cell? ⟨gb130, 0, none⟩ = some (.string ((rd_T30 l0 x21_1).f0)) := (blk_cell BK130.out 0).trans rfl
           have hcz64_1 : w47.cell? ⟨gb130, 1, none⟩ = some (.string ((rd_T30 l0 x21_1).f1)) := (blk_cell BK130.out 1).trans rfl
           have hfz64_0 := blk_frozen BK130.out 0
           have hfz64_1 := blk_frozen BK130.out 1
           go_wp2
           go_meet
           case rel => exact ⟨_, (t132), (by first | rfl | (simp; done) | (simp [*]; done) | (simp [bne_nil_]; done) | (simp only [ByteArray.size_append, Int.natCast_add]; rfl)), H', ⟨by have := HK1.out; first | omega | exact Nat.le_refl _⟩, ⟨by with_reducible repeat (first | exact HO_4.out | apply MR_alloc | apply MR_drewN | apply MR_drew | apply MR_set)⟩, ⟨by (with_reducible repeat (first | apply Kd.R_alloc | apply Kd.R_drewN | apply Kd.R_drew)); exact HO_129004.out⟩, ⟨by (with_reducible repeat (first | refine blk_drewN ?_ _ | refine blk_drew ?_ | refine blk_alloc ?_ _)); exact BK127.out⟩, ⟨by (with_reducible repeat (first | refine blk_drewN ?_ _ | refine blk_drew ?_ | refine blk_alloc ?_ _)); exact BK128.out⟩, ⟨by (with_reducible repeat (first | refine blk_drewN ?_ _ | refine blk_drew ?_ | refine blk_alloc ?_ _)); exact BK130.out⟩, ⟨by repeat (first | (with_reducible first | exact HB.out | apply below_alloc | apply pw_below_drewN | apply below_drew1 | refine below_set ?_ GE127.out | refine below_set ?_ GE128.out | refine below_set ?_ GE130.out) | exact HB.out)⟩⟩
          ·
           rw [if_neg c61] at H
           have c61b0 : (((rd_T30 l0 x21_1).f0).toList == ([104, 111, 115, 116] : List UInt8)) = false := beq_eq_false_iff_ne.mpr c61
           have c61b1 : (((rd_T30 l0 x21_1).f0).toList != ([104, 111, 115, 116] : List UInt8)) = true := bne_iff_ne.mpr c61
           have H' := Aside0.mk H
           clear H
           have hnb65 := NB130_127.out
           have hnc65 := NB127_130.out
           have hnb66 := NB130_128.out
           have hnc66 := NB128_130.out
           have hcz67_0 : w47.cell? ⟨gb130, 0, none⟩ = some (.string ((rd_T30 l0 x21_1).f0)) := (blk_cell BK130.out 0).trans rfl
           have hcz67_1 : w47.cell? ⟨gb130, 1, none⟩ = some (.string ((rd_T30 l0 x21_1).f1)) := (blk_cell BK130.out 1).trans rfl
           have hfz67_0 := blk_frozen BK130.out 0
           have hfz67_1 := blk_frozen BK130.out 1
           go_wp2
           go_meet
           case rel => exact ⟨_, (false), (by first | rfl | (simp; done) | (simp [*]; done) | (simp [bne_nil_]; done) | (simp only [ByteArray.size_append, Int.natCast_add]; rfl)), H', ⟨by have := HK1.out; first | omega | exact Nat.le_refl _⟩, ⟨by with_reducible repeat (first | exact HO_4.out | apply MR_alloc | apply MR_drewN | apply MR_drew | apply MR_set)⟩, ⟨by (with_reducible repeat (first | apply Kd.R_alloc | apply Kd.R_drewN | apply Kd.R_drew)); exact HO_129004.out⟩, ⟨by (with_reducible repeat (first | refine blk_drewN ?_ _ | refine blk_drew ?_ | refine blk_alloc ?_ _)); exact BK127.out⟩, ⟨by (with_reducible repeat (first | refine blk_drewN ?_ _ | refine blk_drew ?_ | refine blk_alloc ?_ _)); exact BK128.out⟩, ⟨by (with_reducible repeat (first | refine blk_drewN ?_ _ | refine blk_drew ?_ | refine blk_alloc ?_ _)); exact BK130.out⟩, ⟨by repeat (first | (with_reducible first | exact HB.out | apply below_alloc | apply pw_below_drewN | apply below_drew1 | refine below_set ?_ GE127.out | refine below_set ?_ GE128.out | refine below_set ?_ GE130.out) | exact HB.out)⟩⟩
        ·
         replace c48 := Bool.eq_false_iff.mpr c48
         subst c48
         have H1 : (msg_Two.j2 k1 x4_1 true l0 (l0.length : Int) x21_1 (!false) (⟨#[]⟩ : ByteArray) (⟨#[]⟩ : ByteArray) (⟨#[]⟩ : ByteArray) (⟨#[]⟩ : ByteArray) x129004_1 (⟨#[]⟩ : ByteArray) ((rd_T30 l0 x21_1).f0) ((rd_T30 l0 x21_1).f1)) = some (r1, r2, r3, r4, r5, r6, r7, r8) := by rw [if_neg (show ¬ (false = true) by decide)] at H; exact H
         clear H
         have H := H1
         clear H1
         have H' := Aside0.mk H
         clear H
         go_wp2
         go_meet
         case rel => exact ⟨_, (!false), (by first | rfl | (simp; done) | (simp [*]; done) | (simp [bne_nil_]; done) | (simp only [ByteArray.size_append, Int.natCast_add]; rfl)), H', ⟨by have := HK1.out; first | omega | exact Nat.le_refl _⟩, ⟨by with_reducible repeat (first | exact HO_4.out | apply MR_alloc | apply MR_drewN | apply MR_drew | apply MR_set)⟩, ⟨by (with_reducible repeat (first | apply Kd.R_alloc | apply Kd.R_drewN | apply Kd.R_drew)); exact HO_129004.out⟩, ⟨by (with_reducible repeat (first | refine blk_drewN ?_ _ | refine blk_drew ?_ | refine blk_alloc ?_ _)); exact BK127.out⟩, ⟨by (with_reducible repeat (first | refine blk_drewN ?_ _ | refine blk_drew ?_ | refine blk_alloc ?_ _)); exact BK128.out⟩, ⟨by (with_reducible repeat (first | refine blk_drewN ?_ _ | refine blk_drew ?_ | refine blk_alloc ?_ _)); exact BK130.out⟩, ⟨by repeat (first | (with_reducible first | exact HB.out | apply below_alloc | apply pw_below_drewN | apply below_drew1 | refine below_set ?_ GE127.out | refine below_set ?_ GE128.out | refine below_set ?_ GE130.out) | exact HB.out)⟩⟩
       case rest =>
        clear HC39
        try clear c1
        try clear p1
        try clear q1
        try clear hx1
        try clear c2
        try clear p2
        try clear c3
        try clear c4
        try clear c4b0
        try clear c5
        try clear c5b0
        try clear c6
        try clear c6b0
        try clear p6
        try clear c9
        try clear c12
        try clear p12
        try clear q12
        try clear hx12
        try clear c13
        try clear c15
        try clear c16
        try clear c18
        try clear c18b0
        try clear c18b1
        try clear c19
        try clear c19b0
        try clear c19b1
        try clear c20
        try clear c20b0
        try clear c20b1
        try clear c21
        try clear c22
        try clear c23
        try clear c24
        try clear c26
        try clear c27
        try clear c28
        try clear c31
        try clear c32
        try clear c35
        try clear c36
        try clear c41
        try clear c42
        try clear c48
        try clear c49
        try clear c49b0
        try clear c49b1
        try clear c50
        try clear c50b0
        try clear c50b1
        try clear c51
        try clear c51b0
        try clear c51b1
        try clear c52
        try clear c53
        try clear c55
        try clear c56
        try clear c58
        try clear c59
        try clear c61
        try clear c61b0
        try clear c61b1
        try clear c62
        try clear c63
        try clear p64
        try clear c65
        try clear c66
        try clear hcz14_0
        try clear hcz14_1
        try clear hcz17_0
        try clear hcz17_1
        try clear hcz25_0
        try clear hcz25_1
        try clear hcz25_2
        try clear hcz25_3
        try clear hcz25_4
        try clear hcz25_5
        try clear hcz25_6
        try clear hcz29_0
        try clear hcz29_1
        try clear hcz29_2
        try clear hcz29_3
        try clear hcz29_4
        try clear hcz29_5
        try clear hcz29_6
        try clear hcz33_0
        try clear hcz33_1
        try clear hcz37_0
        try clear hcz37_1
        try clear hcz37_2
        try clear hcz37_3
        try clear hcz37_4
        try clear hcz37_5
        try clear hcz37_6
        try clear hcz43_0
        try clear hcz43_1
        try clear hcz46_0
        try clear hcz46_1
        try clear hcz54_0
        try clear hcz54_1
        try clear hcz57_0
        try clear hcz57_1
        try clear hcz60_0
        try clear hcz60_1
        try clear hcz64_0
        try clear hcz64_1
        try clear hcz67_0
        try clear hcz67_1
        try clear hfz14_0
        try clear hfz14_1
        try clear hfz17_0
        try clear hfz17_1
        try clear hfz25_0
        try clear hfz25_1
        try clear hfz25_2
        try clear hfz25_3
        try clear hfz25_4
        try clear hfz25_5
        try clear hfz25_6
        try clear hfz29_0
        try clear hfz29_1
        try clear hfz29_2
        try clear hfz29_3
        try clear hfz29_4
        try clear hfz29_5
        try clear hfz29_6
        try clear hfz33_0
        try clear hfz33_1
        try clear hfz37_0
        try clear hfz37_1
        try clear hfz37_2
        try clear hfz37_3
        try clear hfz37_4
        try clear hfz37_5
        try clear hfz37_6
        try clear hfz43_0
        try clear hfz43_1
        try clear hfz46_0
        try clear hfz46_1
        try clear hfz54_0
        try clear hfz54_1
        try clear hfz57_0
        try clear hfz57_1
        try clear hfz60_0
        try clear hfz60_1
        try clear hfz64_0
        try clear hfz64_1
        try clear hfz67_0
        try clear hfz67_1
        try clear hx129_0
        try clear hx129_1
        try clear p1
        try clear p12
        try clear p129
        try clear p2
        try clear q1
        try clear q12
        try clear q129
        obtain ⟨kq, x53_38, rfl, HA, HJ38, HO_4, HO_129004, BK127, BK128, BK130, HB⟩ := hcut
        cases kq with
        | zero => exact absurd HA.out (by simp [msg_Two.j2])
        | succ kj38 =>
         have H := HA.out
         clear HA
         simp only [msg_Two.j2] at H
         by_cases c68 : x53_38 = true
         ·
          subst c68
          have H1 : (some ((⟨#[]⟩ : ByteArray), (⟨#[]⟩ : ByteArray), (⟨#[]⟩ : ByteArray), (⟨#[]⟩ : ByteArray), ([] : List (S30)), (⟨#[]⟩ : ByteArray), ([] : List (S30)), 141)) = some (r1, r2, r3, r4, r5, r6, r7, r8) := by rw [if_pos rfl] at H; exact H
          clear H
          have H := H1
          clear H1
          simp only [Option.some.injEq, Prod.mk.injEq] at H
          obtain ⟨rfl, rfl, rfl, rfl, rfl, rfl, rfl, rfl⟩ := H
          have hnb69 := NB127_128.out
          have hnc69 := NB128_127.out
          have hnb70 := NB127_130.out
          have hnc70 := NB130_127.out
          have hcz71_0 : wc.cell? ⟨gb127, 0, none⟩ = some (.string x128000_1) := (blk_cell BK127.out 0).trans rfl
          have hcz71_1 : wc.cell? ⟨gb127, 1, none⟩ = some (.string x128001_1) := (blk_cell BK127.out 1).trans rfl
          have hcz71_2 : wc.cell? ⟨gb127, 2, none⟩ = some (.string x128002_1) := (blk_cell BK127.out 2).trans rfl
          have hcz71_3 : wc.cell? ⟨gb127, 3, none⟩ = some (.string x128003_1) := (blk_cell BK127.out 3).trans rfl
          have hcz71_4 : wc.cell? ⟨gb127, 4, none⟩ = some (.slice none 0 0) := (blk_cell BK127.out 4).trans rfl
          have hcz71_5 : wc.cell? ⟨gb127, 5, none⟩ = some (.string x128005_1) := (blk_cell BK127.out 5).trans rfl
          have hcz71_6 : wc.cell? ⟨gb127, 6, none⟩ = some (.slice none 0 0) := (blk_cell BK127.out 6).trans rfl
          have hfz71_0 := blk_frozen BK127.out 0
          have hfz71_1 := blk_frozen BK127.out 1
          have hfz71_2 := blk_frozen BK127.out 2
          have hfz71_3 := blk_frozen BK127.out 3
          have hfz71_4 := blk_frozen BK127.out 4
          have hfz71_5 := blk_frozen BK127.out 5
          have hfz71_6 := blk_frozen BK127.out 6
          go_wp2
          refine bodyPost_ret (results_ct rfl _ _ gb127 24 #[.string (⟨#[]⟩ : ByteArray), .string (⟨#[]⟩ : ByteArray), .string (⟨#[]⟩ : ByteArray), .string (⟨#[]⟩ : ByteArray), .slice none 0 0, .string (⟨#[]⟩ : ByteArray), .slice none 0 0] (0, 0) _ rfl (by (with_reducible repeat (first | refine blk_drewN ?_ _ | refine blk_drew ?_ | refine blk_alloc ?_ _)); refine blk_put (cs := #[.string (⟨#[]⟩ : ByteArray), .string (⟨#[]⟩ : ByteArray), .string (⟨#[]⟩ : ByteArray), .string (⟨#[]⟩ : ByteArray), .slice none 0 0, .string (⟨#[]⟩ : ByteArray), .slice none 0 0]) ?_ 6 _ rfl; (with_reducible repeat (first | refine blk_drewN ?_ _ | refine blk_drew ?_ | refine blk_alloc ?_ _)); refine blk_put (cs := #[.string (⟨#[]⟩ : ByteArray), .string (⟨#[]⟩ : ByteArray), .string (⟨#[]⟩ : ByteArray), .string (⟨#[]⟩ : ByteArray), .slice none 0 0, .string x128005_1, .slice none 0 0]) ?_ 5 _ rfl; (with_reducible repeat (first | refine blk_drewN ?_ _ | refine blk_drew ?_ | refine blk_alloc ?_ _)); refine blk_put (cs := #[.string (⟨#[]⟩ : ByteArray), .string (⟨#[]⟩ : ByteArray), .string (⟨#[]⟩ : ByteArray), .string (⟨#[]⟩ : ByteArray), .slice none 0 0, .string x128005_1, .slice none 0 0]) ?_ 4 _ rfl; (with_reducible repeat (first | refine blk_drewN ?_ _ | refine blk_drew ?_ | refine blk_alloc ?_ _)); refine blk_put (cs := #[.string (⟨#[]⟩ : ByteArray), .string (⟨#[]⟩ : ByteArray), .string (⟨#[]⟩ : ByteArray), .string x128003_1, .slice none 0 0, .string x128005_1, .slice none 0 0]) ?_ 3 _ rfl; (with_reducible repeat (first | refine blk_drewN ?_ _ | refine blk_drew ?_ | refine blk_alloc ?_ _)); refine blk_put (cs := #[.string (⟨#[]⟩ : ByteArray), .string (⟨#[]⟩ : ByteArray), .string x128002_1, .string x128003_1, .slice none 0 0, .string x128005_1, .slice none 0 0]) ?_ 2 _ rfl; (with_reducible repeat (first | refine blk_drewN ?_ _ | refine blk_drew ?_ | refine blk_alloc ?_ _)); refine blk_put (cs := #[.string (⟨#[]⟩ : ByteArray), .string x128001_1, .string x128002_1, .string x128003_1, .slice none 0 0, .string x128005_1, .slice none 0 0]) ?_ 1 _ rfl; (with_reducible repeat (first | refine blk_drewN ?_ _ | refine blk_drew ?_ | refine blk_alloc ?_ _)); refine blk_put (cs := #[.string x128000_1, .string x128001_1, .string x128002_1, .string x128003_1, .slice none 0 0, .string x128005_1, .slice none 0 0]) ?_ 0 _ rfl; (with_reducible repeat (first | refine blk_drewN ?_ _ | refine blk_drew ?_ | refine blk_alloc ?_ _)); exact BK127.out) Tryd.underlying24 rfl (by kernel_rfl)) rfl ?_
          exact ⟨_, _, by first | rfl | (simp [errW_none, errW_some] <;> rfl) | (simp [*, errW_none, errW_some] <;> rfl), by first | exact Kd.R_nil _ _ _ _ _ | exact Kd.N_nil _ _ _ _ _ | exact Kd.V_nil _ _ _ _ _ | exact Kd.Q_nil _ _ _ _ _ | exact Kd.S_nil _ _ _ _ _, by first | exact Kd.R_nil _ _ _ _ _ | exact Kd.N_nil _ _ _ _ _ | exact Kd.V_nil _ _ _ _ _ | exact Kd.Q_nil _ _ _ _ _ | exact Kd.S_nil _ _ _ _ _, by repeat (first | (with_reducible first | exact HB.out | apply below_alloc | apply pw_below_drewN | apply below_drew1 | refine below_set ?_ GE127.out | refine below_set ?_ GE128.out | refine below_set ?_ GE130.out) | exact HB.out)⟩
         ·
          replace c68 := Bool.eq_false_iff.mpr c68
          subst c68
          have H1 : (if ((rd_T30 l0 x21_1).f0).toList = ([104, 111, 115, 116] : List UInt8) then ((mput.f x4_1 ((rd_T30 l0 x21_1).f0) ((rd_T30 l0 x21_1).f1)).bind fun t138 => (msg_Two.l0 kj38 t138 true l0 (l0.length : Int) (wrap64 (x21_1 + 1)) (⟨#[]⟩ : ByteArray) (⟨#[]⟩ : ByteArray) (⟨#[]⟩ : ByteArray) (⟨#[]⟩ : ByteArray) x129004_1 (⟨#[]⟩ : ByteArray))) else (if ((rd_T30 l0 x21_1).f0).toList = ([116, 101] : List UInt8) then (msg_Two.l0 kj38 x4_1 true l0 (l0.length : Int) (wrap64 (x21_1 + 1)) (⟨#[]⟩ : ByteArray) (⟨#[]⟩ : ByteArray) (⟨#[]⟩ : ByteArray) (⟨#[]⟩ : ByteArray) x129004_1 (⟨#[]⟩ : ByteArray)) else (if x129004_1.length < 4398046511104 then (msg_Two.l0 kj38 x4_1 true l0 (l0.length : Int) (wrap64 (x21_1 + 1)) (⟨#[]⟩ : ByteArray) (⟨#[]⟩ : ByteArray) (⟨#[]⟩ : ByteArray) (⟨#[]⟩ : ByteArray) (x129004_1 ++ [(⟨((rd_T30 l0 x21_1).f0), ((rd_T30 l0 x21_1).f1)⟩ : S30)]) (⟨#[]⟩ : ByteArray)) else (none)))) = some (r1, r2, r3, r4, r5, r6, r7, r8) := by rw [if_neg (show ¬ (false = true) by decide)] at H; exact H
          clear H
          have H := H1
          clear H1
          by_cases c72 : ((rd_T30 l0 x21_1).f0).toList = ([104, 111, 115, 116] : List UInt8)
          ·
           rw [if_pos c72] at H
           have c72b0 : (((rd_T30 l0 x21_1).f0).toList == ([104, 111, 115, 116] : List UInt8)) = true := beq_iff_eq.mpr c72
           have c72b1 : (((rd_T30 l0 x21_1).f0).toList != ([104, 111, 115, 116] : List UInt8)) = false := bne_eq_false_iff_eq.mpr c72
           clear c72
           replace H := Option.bind_eq_some_iff.mp H
           obtain ⟨t138, A730, H⟩ := H
           replace H : (msg_Two.l0 kj38 t138 true l0 (l0.length : Int) (wrap64 (x21_1 + 1)) (⟨#[]⟩ : ByteArray) (⟨#[]⟩ : ByteArray) (⟨#[]⟩ : ByteArray) (⟨#[]⟩ : ByteArray) x129004_1 (⟨#[]⟩ : ByteArray)) = some (r1, r2, r3, r4, r5, r6, r7, r8) := H
           have A73 := Aside0.mk A730
           clear A730
           have H' := Aside0.mk H
           clear H
           have hnb74 := NB130_127.out
           have hnc74 := NB127_130.out
           have hnb75 := NB130_128.out
           have hnc75 := NB128_130.out
           have hcz76_0 : wc.cell? ⟨gb130, 0, none⟩ = some (.string ((rd_T30 l0 x21_1).f0)) := (blk_cell BK130.out 0).trans rfl
           have hcz76_1 : wc.cell? ⟨gb130, 1, none⟩ = some (.string ((rd_T30 l0 x21_1).f1)) := (blk_cell BK130.out 1).trans rfl
           have hfz76_0 := blk_frozen BK130.out 0
           have hfz76_1 := blk_frozen BK130.out 1
           go_wp2_with (first | (at_mapUpdate; refine mputL rfl _ _ _ rfl _ rfl rfl rfl (by with_reducible repeat (first | exact HO_4.out | apply MR_alloc | apply MR_drewN | apply MR_drew | apply MR_set)) A73.out ?_; intro w77 ho0 hg hm hB_; have n0_ := Aside0.mk (True.intro); have n1_ := Aside0.mk (R_m (by (with_reducible repeat (first | apply Kd.R_alloc | apply Kd.R_drewN | apply Kd.R_drew)); exact HO_129004.out) hm hg); have n2_ := Aside0.mk (ho0); have n3_ := Aside0.mk (blk_m (g := gb127) (o := .cells #[.string x128000_1, .string x128001_1, .string x128002_1, .string x128003_1, .slice none 0 0, .string x128005_1, .slice none 0 0] 24 (0, 0)) (by (with_reducible repeat (first | refine blk_drewN ?_ _ | refine blk_drew ?_ | refine blk_alloc ?_ _)); exact BK127.out) (fun _ _ h_ => by cases h_) hm hg); have n4_ := Aside0.mk (blk_m (g := gb128) (o := .cells #[.string (⟨#[]⟩ : ByteArray), .string (⟨#[]⟩ : ByteArray), .string (⟨#[]⟩ : ByteArray), .string (⟨#[]⟩ : ByteArray), u129004, .string (⟨#[]⟩ : ByteArray), .slice none 0 0] 24 (0, 0)) (by (with_reducible repeat (first | refine blk_drewN ?_ _ | refine blk_drew ?_ | refine blk_alloc ?_ _)); exact BK128.out) (fun _ _ h_ => by cases h_) hm hg); have n5_ := Aside0.mk (blk_m (g := gb130) (o := .cells #[.string ((rd_T30 l0 x21_1).f0), .string ((rd_T30 l0 x21_1).f1)] 30 (0, 0)) (by (with_reducible repeat (first | refine blk_drewN ?_ _ | refine blk_drew ?_ | refine blk_alloc ?_ _)); exact BK130.out) (fun _ _ h_ => by cases h_) hm hg); have n6_ := Aside0.mk (below_m (by repeat (first | (with_reducible first | exact HB.out | apply below_alloc | apply pw_below_drewN | apply below_drew1 | refine below_set ?_ GE127.out | refine below_set ?_ GE128.out | refine below_set ?_ GE130.out) | exact HB.out)) hB_ hg); clear HO_4; clear HO_129004; clear BK127; clear BK128; clear BK130; clear HB; have HO_4 := n0_; have HO_129004 := n1_; have HO140 := n2_; have BK127 := n3_; have BK128 := n4_; have BK130 := n5_; have HB := n6_; clear n0_ n1_ n2_ n3_ n4_ n5_ n6_; (try clear hg); (try clear hm); (try clear hB_); (try clear hb2); (try clear hk); (try clear hi); (try clear ho0)))
           go_roundg kj38
           case measure => have := HK1.out; have := HJ38.out; omega
           case rel => exact ⟨(t138), (true), (wrap64 (x21_1 + 1)), (x128000_1), (x128001_1), (x128002_1), (x128003_1), (x128005_1), (x129004_1), (u129004), (by first | rfl | (simp; done) | (simp [*]; done) | (simp [bne_nil_]; done) | (simp only [ByteArray.size_append, Int.natCast_add]; rfl)), (by first | rfl | (simp; done) | (simp [*]; done) | (simp [bne_nil_]; done) | (simp only [ByteArray.size_append, Int.natCast_add]; rfl)), H', ⟨by have := HK1.out; have := HJ38.out; omega⟩, ⟨by with_reducible repeat (first | exact HO140.out | apply MR_alloc | apply MR_drewN | apply MR_drew | apply MR_set)⟩, ⟨by (with_reducible repeat (first | apply Kd.R_alloc | apply Kd.R_drewN | apply Kd.R_drew)); exact Kd.R_mono HO_129004.out (fun _ _ => trivial)⟩, ⟨by (with_reducible repeat (first | refine blk_drewN ?_ _ | refine blk_drew ?_ | refine blk_alloc ?_ _)); exact BK127.out⟩, ⟨by (with_reducible repeat (first | refine blk_drewN ?_ _ | refine blk_drew ?_ | refine blk_alloc ?_ _)); exact BK128.out⟩, ⟨by repeat (first | (with_reducible first | exact HB.out | apply below_alloc | apply pw_below_drewN | apply below_drew1 | refine below_set ?_ GE127.out | refine below_set ?_ GE128.out | refine below_set ?_ GE130.out) | exact HB.out)⟩⟩
          ·
           rw [if_neg c72] at H
           have c72b0 : (((rd_T30 l0 x21_1).f0).toList == ([104, 111, 115, 116] : List UInt8)) = false := beq_eq_false_iff_ne.mpr c72
           have c72b1 : (((rd_T30 l0 x21_1).f0).toList != ([104, 111, 115, 116] : List UInt8)) = true := bne_iff_ne.mpr c72
           by_cases c78 : ((rd_T30 l0 x21_1).f0).toList = ([116, 101] : List UInt8)
           ·
            rw [if_pos c78] at H
            have c78b0 : (((rd_T30 l0 x21_1).f0).toList == ([116, 101] : List UInt8)) = true := beq_iff_eq.mpr c78
            have c78b1 : (((rd_T30 l0 x21_1).f0).toList != ([116, 101] : List UInt8)) = false := bne_eq_false_iff_eq.mpr c78
            clear c78
            have H' := Aside0.mk H
            clear H
            have hnb79 := NB130_127.out
            have hnc79 := NB127_130.out
            have hnb80 := NB130_128.out
            have hnc80 := NB128_130.out
            have hcz81_0 : wc.cell? ⟨gb130, 0, none⟩ = some (.string ((rd_T30 l0 x21_1).f0)) := (blk_cell BK130.out 0).trans rfl
            have hcz81_1 : wc.cell? ⟨gb130, 1, none⟩ = some (.string ((rd_T30 l0 x21_1).f1)) := (blk_cell BK130.out 1).trans rfl
            have hfz81_0 := blk_frozen BK130.out 0
            have hfz81_1 := blk_frozen BK130.out 1
            go_wp2
            go_roundg kj38
            case measure => have := HK1.out; have := HJ38.out; omega
            case rel => exact ⟨(x4_1), (true), (wrap64 (x21_1 + 1)), (x128000_1), (x128001_1), (x128002_1), (x128003_1), (x128005_1), (x129004_1), (u129004), (by first | rfl | (simp; done) | (simp [*]; done) | (simp [bne_nil_]; done) | (simp only [ByteArray.size_append, Int.natCast_add]; rfl)), (by first | rfl | (simp; done) | (simp [*]; done) | (simp [bne_nil_]; done) | (simp only [ByteArray.size_append, Int.natCast_add]; rfl)), H', ⟨by have := HK1.out; have := HJ38.out; omega⟩, ⟨by with_reducible repeat (first | exact HO_4.out | apply MR_alloc | apply MR_drewN | apply MR_drew | apply MR_set)⟩, ⟨by (with_reducible repeat (first | apply Kd.R_alloc | apply Kd.R_drewN | apply Kd.R_drew)); exact Kd.R_mono HO_129004.out (fun _ _ => trivial)⟩, ⟨by (with_reducible repeat (first | refine blk_drewN ?_ _ | refine blk_drew ?_ | refine blk_alloc ?_ _)); exact BK127.out⟩, ⟨by (with_reducible repeat (first | refine blk_drewN ?_ _ | refine blk_drew ?_ | refine blk_alloc ?_ _)); exact BK128.out⟩, ⟨by repeat (first | (with_reducible first | exact HB.out | apply below_alloc | apply pw_below_drewN | apply below_drew1 | refine below_set ?_ GE127.out | refine below_set ?_ GE128.out | refine below_set ?_ GE130.out) | exact HB.out)⟩⟩
           ·
            rw [if_neg c78] at H
            have c78b0 : (((rd_T30 l0 x21_1).f0).toList == ([116, 101] : List UInt8)) = false := beq_eq_false_iff_ne.mpr c78
            have c78b1 : (((rd_T30 l0 x21_1).f0).toList != ([116, 101] : List UInt8)) = true := bne_iff_ne.mpr c78
            by_cases c82 : x129004_1.length < 4398046511104
            ·
             rw [if_pos c82] at H
             have LMc82 := Aside0.mk c82
             clear c82
             obtain ⟨y141, hy141⟩ : ∃ y_ : List (S30), y_ = (x129004_1 ++ [(⟨((rd_T30 l0 x21_1).f0), ((rd_T30 l0 x21_1).f1)⟩ : S30)]) := ⟨_, rfl⟩
             replace H : (msg_Two.l0 kj38 x4_1 true l0 (l0.length : Int) (wrap64 (x21_1 + 1)) (⟨#[]⟩ : ByteArray) (⟨#[]⟩ : ByteArray) (⟨#[]⟩ : ByteArray) (⟨#[]⟩ : ByteArray) y141 (⟨#[]⟩ : ByteArray)) = some (r1, r2, r3, r4, r5, r6, r7, r8) := by first | (rw [hy141]; with_reducible exact H) | (have H2_ := (Option.bind_some _ _).symm.trans H; rw [hy141]; with_reducible exact H2_) | (have H2_ := (Option.bind_some _ _).symm.trans H; with_reducible exact H2_) | with_reducible exact H | (rw [hy141]; exact H) | exact H
             have Ny141 := Aside0.mk hy141
             clear hy141
             have H' := Aside0.mk H
             clear H
             have hnb83 := NB130_127.out
             have hnc83 := NB127_130.out
             have hnb84 := NB130_128.out
             have hnc84 := NB128_130.out
             have hcz85_0 : wc.cell? ⟨gb130, 0, none⟩ = some (.string ((rd_T30 l0 x21_1).f0)) := (blk_cell BK130.out 0).trans rfl
             have hcz85_1 : wc.cell? ⟨gb130, 1, none⟩ = some (.string ((rd_T30 l0 x21_1).f1)) := (blk_cell BK130.out 1).trans rfl
             have hfz85_0 := blk_frozen BK130.out 0
             have hfz85_1 := blk_frozen BK130.out 1
             have hnb86 := NB128_127.out
             have hnc86 := NB127_128.out
             have hcz87_0 : wc.cell? ⟨gb128, 0, none⟩ = some (.string (⟨#[]⟩ : ByteArray)) := (blk_cell BK128.out 0).trans rfl
             have hcz87_1 : wc.cell? ⟨gb128, 1, none⟩ = some (.string (⟨#[]⟩ : ByteArray)) := (blk_cell BK128.out 1).trans rfl
             have hcz87_2 : wc.cell? ⟨gb128, 2, none⟩ = some (.string (⟨#[]⟩ : ByteArray)) := (blk_cell BK128.out 2).trans rfl
             have hcz87_3 : wc.cell? ⟨gb128, 3, none⟩ = some (.string (⟨#[]⟩ : ByteArray)) := (blk_cell BK128.out 3).trans rfl
             have hcz87_4 : wc.cell? ⟨gb128, 4, none⟩ = some (u129004) := (blk_cell BK128.out 4).trans rfl
             have hcz87_5 : wc.cell? ⟨gb128, 5, none⟩ = some (.string (⟨#[]⟩ : ByteArray)) := (blk_cell BK128.out 5).trans rfl
             have hcz87_6 : wc.cell? ⟨gb128, 6, none⟩ = some (.slice none 0 0) := (blk_cell BK128.out 6).trans rfl
             have hfz87_0 := blk_frozen BK128.out 0
             have hfz87_1 := blk_frozen BK128.out 1
             have hfz87_2 := blk_frozen BK128.out 2
             have hfz87_3 := blk_frozen BK128.out 3
             have hfz87_4 := blk_frozen BK128.out 4
             have hfz87_5 := blk_frozen BK128.out 5
             have hfz87_6 := blk_frozen BK128.out 6
             go_wp2_with (first | ((with_reducible refine gate_builtin (b := .append) (xs := #[.tmp 86, .tmp 88]) rfl ?_); at_builtin; refine Kd.R_append k30 (w0 := w) w.heap.size rfl (.tmp 86) (.tmp 88) 22 30 (.agg #[(.string ⟨#[]⟩), (.string ⟨#[]⟩)]) 32 rfl Tryd.underlying22 info30 rfl (by decide) (by omega) u129004 x129004_1 (⟨((rd_T30 l0 x21_1).f0), ((rd_T30 l0 x21_1).f1)⟩ : S30) [.string ((rd_T30 l0 x21_1).f0), .string ((rd_T30 l0 x21_1).f1)] (fun k_ => True ∧ k_ ≠ gb130) (fun _ => False) rfl rfl ?aP (fun _ hk => hk.elim) ?aF ?aO ?aB ?aS ?aL ?_; (case aP => exact k30_mkM _ _ _ (⟨((rd_T30 l0 x21_1).f0), ((rd_T30 l0 x21_1).f1)⟩ : S30)); (case aB => exact (by repeat (first | (with_reducible first | exact HB.out | apply below_alloc | apply pw_below_drewN | apply below_drew1 | refine below_set ?_ GE127.out | refine below_set ?_ GE128.out | refine below_set ?_ GE130.out) | exact HB.out))); (case aF => exact (fun k_ hk => ⟨trivial, Kd.freshB (g := gb130) (o := .cells #[.string ((rd_T30 l0 x21_1).f0), .string ((rd_T30 l0 x21_1).f1)] 30 (0, 0)) (by (with_reducible repeat (first | refine blk_drewN ?_ _ | refine blk_drew ?_ | refine blk_alloc ?_ _)); exact BK130.out) k_ hk⟩)); (case aO => exact (by (with_reducible repeat (first | apply Kd.R_alloc | apply Kd.R_drewN | apply Kd.R_drew)); exact HO_129004.out)); (case aS => exact (below_size (by repeat (first | (with_reducible first | exact HB.out | apply below_alloc | apply pw_below_drewN | apply below_drew1 | refine below_set ?_ GE127.out | refine below_set ?_ GE128.out | refine below_set ?_ GE130.out) | exact HB.out)))); (case aL => have := LMc82.out; omega); intro v142 w88 ho hb hg hat; rw [← Ny141.out] at ho; have n0_ := Aside0.mk (MR_over (by with_reducible repeat (first | exact HO_4.out | apply MR_alloc | apply MR_drewN | apply MR_drew | apply MR_set)) (Kd.R_mono (by (with_reducible repeat (first | apply Kd.R_alloc | apply Kd.R_drewN | apply Kd.R_drew)); exact HO_129004.out) (fun _ _ => trivial)) hg); have n1_ := Aside0.mk (blk_grown (g := gb127) (o := .cells #[.string x128000_1, .string x128001_1, .string x128002_1, .string x128003_1, .slice none 0 0, .string x128005_1, .slice none 0 0] 24 (0, 0)) (by (with_reducible repeat (first | refine blk_drewN ?_ _ | refine blk_drew ?_ | refine blk_alloc ?_ _)); exact BK127.out) hg (Kd.R_ne HO_129004.out BK127.out (by decide))); have n2_ := Aside0.mk (blk_grown (g := gb128) (o := .cells #[.string (⟨#[]⟩ : ByteArray), .string (⟨#[]⟩ : ByteArray), .string (⟨#[]⟩ : ByteArray), .string (⟨#[]⟩ : ByteArray), u129004, .string (⟨#[]⟩ : ByteArray), .slice none 0 0] 24 (0, 0)) (by (with_reducible repeat (first | refine blk_drewN ?_ _ | refine blk_drew ?_ | refine blk_alloc ?_ _)); exact BK128.out) hg (Kd.R_ne HO_129004.out BK128.out (by decide))); have n3_ := Aside0.mk (blk_grown (g := gb130) (o := .cells #[.string ((rd_T30 l0 x21_1).f0), .string ((rd_T30 l0 x21_1).f1)] 30 (0, 0)) (by (with_reducible repeat (first | refine blk_drewN ?_ _ | refine blk_drew ?_ | refine blk_alloc ?_ _)); exact BK130.out) hg (Kd.R_away HO_129004.out (fun _ hk => hk.2))); have n4_ := Aside0.mk (hb); have n5_ := Aside0.mk (ho); clear HO_4; clear BK127; clear BK128; clear BK130; clear HB; clear HO_129004; have HO_4 := n0_; have BK127 := n1_; have BK128 := n2_; have BK130 := n3_; have HB := n4_; have HO143 := n5_; clear n0_ n1_ n2_ n3_ n4_ n5_; clear ho hb hg hat; obtain ⟨Ao89, co89, eo89⟩ := Kd.R_slice HO143.out; subst eo89; have hcz90_0 : w88.cell? ⟨gb128, 0, none⟩ = some (.string (⟨#[]⟩ : ByteArray)) := (blk_cell BK128.out 0).trans rfl; have hcz90_1 : w88.cell? ⟨gb128, 1, none⟩ = some (.string (⟨#[]⟩ : ByteArray)) := (blk_cell BK128.out 1).trans rfl; have hcz90_2 : w88.cell? ⟨gb128, 2, none⟩ = some (.string (⟨#[]⟩ : ByteArray)) := (blk_cell BK128.out 2).trans rfl; have hcz90_3 : w88.cell? ⟨gb128, 3, none⟩ = some (.string (⟨#[]⟩ : ByteArray)) := (blk_cell BK128.out 3).trans rfl; have hcz90_4 : w88.cell? ⟨gb128, 4, none⟩ = some (u129004) := (blk_cell BK128.out 4).trans rfl; have hcz90_5 : w88.cell? ⟨gb128, 5, none⟩ = some (.string (⟨#[]⟩ : ByteArray)) := (blk_cell BK128.out 5).trans rfl; have hcz90_6 : w88.cell? ⟨gb128, 6, none⟩ = some (.slice none 0 0) := (blk_cell BK128.out 6).trans rfl; have hfz90_0 := blk_frozen BK128.out 0; have hfz90_1 := blk_frozen BK128.out 1; have hfz90_2 := blk_frozen BK128.out 2; have hfz90_3 := blk_frozen BK128.out 3; have hfz90_4 := blk_frozen BK128.out 4; have hfz90_5 := blk_frozen BK128.out 5; have hfz90_6 := blk_frozen BK128.out 6))
             go_roundg kj38
             case measure => have := HK1.out; have := HJ38.out; omega
             case rel => exact ⟨(x4_1), (true), (wrap64 (x21_1 + 1)), (x128000_1), (x128001_1), (x128002_1), (x128003_1), (x128005_1), (y141), (.slice Ao89 y141.length co89), (by first | rfl | (simp; done) | (simp [*]; done) | (simp [bne_nil_]; done) | (simp only [ByteArray.size_append, Int.natCast_add]; rfl)), (by first | rfl | (simp; done) | (simp [*]; done) | (simp [bne_nil_]; done) | (simp only [ByteArray.size_append, Int.natCast_add]; rfl)), H', ⟨by have := HK1.out; have := HJ38.out; omega⟩, ⟨by with_reducible repeat (first | exact HO_4.out | apply MR_alloc | apply MR_drewN | apply MR_drew | apply MR_set)⟩, ⟨by (with_reducible repeat (first | apply Kd.R_alloc | apply Kd.R_drewN | apply Kd.R_drew)); exact Kd.R_mono (Kd.R_far (p := ⟨gb128, 4, none⟩) (Kd.R_types HO143.out BK128.out (by decide)) (fun _ hk => hk.2) (.slice Ao89 y141.length co89)) (fun _ _ => trivial)⟩, ⟨by (with_reducible repeat (first | refine blk_drewN ?_ _ | refine blk_drew ?_ | refine blk_alloc ?_ _)); refine blk_far ?_ NB127_128.out _; (with_reducible repeat (first | refine blk_drewN ?_ _ | refine blk_drew ?_ | refine blk_alloc ?_ _)); exact BK127.out⟩, ⟨by (with_reducible repeat (first | refine blk_drewN ?_ _ | refine blk_drew ?_ | refine blk_alloc ?_ _)); refine blk_put (cs := #[.string (⟨#[]⟩ : ByteArray), .string (⟨#[]⟩ : ByteArray), .string (⟨#[]⟩ : ByteArray), .string (⟨#[]⟩ : ByteArray), u129004, .string (⟨#[]⟩ : ByteArray), .slice none 0 0]) ?_ 4 _ rfl; (with_reducible repeat (first | refine blk_drewN ?_ _ | refine blk_drew ?_ | refine blk_alloc ?_ _)); exact BK128.out⟩, ⟨by repeat (first | (with_reducible first | exact HB.out | apply below_alloc | apply pw_below_drewN | apply below_drew1 | refine below_set ?_ GE127.out | refine below_set ?_ GE128.out | refine below_set ?_ GE130.out) | exact HB.out)⟩⟩
            ·
             rw [if_neg c82] at H
             exact absurd H (by simp)
     ·
      rw [if_neg c6] at H
      exact absurd H (by simp)
    ·
     rw [if_neg c5] at H
     exact absurd H (by simp)
   ·
    rw [if_neg c4] at H
    have c4b0 : decide (x21_1 < (l0.length : Int)) = false := decide_eq_false c4
    clear c4
    replace H := Option.bind_eq_some_iff.mp H
    obtain ⟨t144, A910, H⟩ := H
    replace H : ((mat.f x4_1 (⟨#[58, 115, 99, 104, 101, 109, 101]⟩ : ByteArray)).bind fun t145 => ((mat.f x4_1 (⟨#[58, 112, 97, 116, 104]⟩ : ByteArray)).bind fun t146 => ((text_Token.f k1 t144).bind fun t147 => (if t147 = true then (if t145.toList = ([104, 116, 116, 112] : List UInt8) then ((msg_goes.f k1 t144 t146).bind fun t148 => (msg_Two.j3 k1 x4_1 (!t148) t144 t145 (⟨#[]⟩ : ByteArray) t146 x129004_1 (⟨#[]⟩ : ByteArray))) else (if t145.toList = ([104, 116, 116, 112, 115] : List UInt8) then ((msg_goes.f k1 t144 t146).bind fun t149 => (msg_Two.j3 k1 x4_1 (!t149) t144 t145 (⟨#[]⟩ : ByteArray) t146 x129004_1 (⟨#[]⟩ : ByteArray))) else (msg_Two.j3 k1 x4_1 true t144 t145 (⟨#[]⟩ : ByteArray) t146 x129004_1 (⟨#[]⟩ : ByteArray)))) else (msg_Two.j3 k1 x4_1 true t144 t145 (⟨#[]⟩ : ByteArray) t146 x129004_1 (⟨#[]⟩ : ByteArray)))))) = some (r1, r2, r3, r4, r5, r6, r7, r8) := H
    have A91 := Aside0.mk A910
    clear A910
    replace H := Option.bind_eq_some_iff.mp H
    obtain ⟨t145, A920, H⟩ := H
    replace H : ((mat.f x4_1 (⟨#[58, 112, 97, 116, 104]⟩ : ByteArray)).bind fun t146 => ((text_Token.f k1 t144).bind fun t147 => (if t147 = true then (if t145.toList = ([104, 116, 116, 112] : List UInt8) then ((msg_goes.f k1 t144 t146).bind fun t148 => (msg_Two.j3 k1 x4_1 (!t148) t144 t145 (⟨#[]⟩ : ByteArray) t146 x129004_1 (⟨#[]⟩ : ByteArray))) else (if t145.toList = ([104, 116, 116, 112, 115] : List UInt8) then ((msg_goes.f k1 t144 t146).bind fun t149 => (msg_Two.j3 k1 x4_1 (!t149) t144 t145 (⟨#[]⟩ : ByteArray) t146 x129004_1 (⟨#[]⟩ : ByteArray))) else (msg_Two.j3 k1 x4_1 true t144 t145 (⟨#[]⟩ : ByteArray) t146 x129004_1 (⟨#[]⟩ : ByteArray)))) else (msg_Two.j3 k1 x4_1 true t144 t145 (⟨#[]⟩ : ByteArray) t146 x129004_1 (⟨#[]⟩ : ByteArray))))) = some (r1, r2, r3, r4, r5, r6, r7, r8) := H
    have A92 := Aside0.mk A920
    clear A920
    replace H := Option.bind_eq_some_iff.mp H
    obtain ⟨t146, A930, H⟩ := H
    replace H : ((text_Token.f k1 t144).bind fun t147 => (if t147 = true then (if t145.toList = ([104, 116, 116, 112] : List UInt8) then ((msg_goes.f k1 t144 t146).bind fun t148 => (msg_Two.j3 k1 x4_1 (!t148) t144 t145 (⟨#[]⟩ : ByteArray) t146 x129004_1 (⟨#[]⟩ : ByteArray))) else (if t145.toList = ([104, 116, 116, 112, 115] : List UInt8) then ((msg_goes.f k1 t144 t146).bind fun t149 => (msg_Two.j3 k1 x4_1 (!t149) t144 t145 (⟨#[]⟩ : ByteArray) t146 x129004_1 (⟨#[]⟩ : ByteArray))) else (msg_Two.j3 k1 x4_1 true t144 t145 (⟨#[]⟩ : ByteArray) t146 x129004_1 (⟨#[]⟩ : ByteArray)))) else (msg_Two.j3 k1 x4_1 true t144 t145 (⟨#[]⟩ : ByteArray) t146 x129004_1 (⟨#[]⟩ : ByteArray)))) = some (r1, r2, r3, r4, r5, r6, r7, r8) := H
    have A93 := Aside0.mk A930
    clear A930
    have HC94 := Aside0.mk H
    clear H
    go_upto_region 28 with fail
    have hnb99 := NB128_127.out
    have hnc99 := NB127_128.out
    have hcz100_0 : wr.cell? ⟨gb128, 0, none⟩ = some (.string (⟨#[]⟩ : ByteArray)) := (blk_cell BK128.out 0).trans rfl
    have hcz100_1 : wr.cell? ⟨gb128, 1, none⟩ = some (.string (⟨#[]⟩ : ByteArray)) := (blk_cell BK128.out 1).trans rfl
    have hcz100_2 : wr.cell? ⟨gb128, 2, none⟩ = some (.string (⟨#[]⟩ : ByteArray)) := (blk_cell BK128.out 2).trans rfl
    have hcz100_3 : wr.cell? ⟨gb128, 3, none⟩ = some (.string (⟨#[]⟩ : ByteArray)) := (blk_cell BK128.out 3).trans rfl
    have hcz100_4 : wr.cell? ⟨gb128, 4, none⟩ = some (u129004) := (blk_cell BK128.out 4).trans rfl
    have hcz100_5 : wr.cell? ⟨gb128, 5, none⟩ = some (.string (⟨#[]⟩ : ByteArray)) := (blk_cell BK128.out 5).trans rfl
    have hcz100_6 : wr.cell? ⟨gb128, 6, none⟩ = some (.slice none 0 0) := (blk_cell BK128.out 6).trans rfl
    have hfz100_0 := blk_frozen BK128.out 0
    have hfz100_1 := blk_frozen BK128.out 1
    have hfz100_2 := blk_frozen BK128.out 2
    have hfz100_3 := blk_frozen BK128.out 3
    have hfz100_4 := blk_frozen BK128.out 4
    have hfz100_5 := blk_frozen BK128.out 5
    have hfz100_6 := blk_frozen BK128.out 6
    (try simp only [Act.put, List.setIfInBounds_toArray, List.set_cons_zero, List.set_cons_succ])
    refine start_ (n := 12) (S := fun w' => (Instr.lookup 42 (.map (some b4_)) (.string (⟨#[58, 109, 101, 116, 104, 111, 100]⟩ : ByteArray)) false).run Tryd.prog w' = .ok (.string t144) w' ∧ (Instr.lookup 42 (.map (some b4_)) (.string (⟨#[58, 115, 99, 104, 101, 109, 101]⟩ : ByteArray)) false).run Tryd.prog w' = .ok (.string t145) w' ∧ (Instr.lookup 42 (.map (some b4_)) (.string (⟨#[58, 112, 97, 116, 104]⟩ : ByteArray)) false).run Tryd.prog w' = .ok (.string t146) w') (ds := []) #[false, false, false, false, false, false, false, false, false, false, false, false] (by kernel_rfl) rfl rfl ⟨(matL (by with_reducible repeat (first | exact HO_4.out | apply MR_alloc | apply MR_drewN | apply MR_drew | apply MR_set)) A91.out), (matL (by with_reducible repeat (first | exact HO_4.out | apply MR_alloc | apply MR_drewN | apply MR_drew | apply MR_set)) A92.out), (matL (by with_reducible repeat (first | exact HO_4.out | apply MR_alloc | apply MR_drewN | apply MR_drew | apply MR_set)) A93.out)⟩ (fun hHeld => ?_)
    refine pure_ (i := 0) (N := some 92) (v := ?_) (a' := ?_) #[true, false, false, false, false, false, false, false, false, false, false, false] rfl rfl (by kernel_rfl) (fun _ _ _ h => h) (Or.inl ⟨by rfl, ?_⟩) ?_ ?_
    rotate_left
    ·
     intro w'
     go_simp
     with_reducible rfl
    rotate_left
    ·
     simp only [Act.put, List.setIfInBounds_toArray, List.set_cons_zero, List.set_cons_succ, i64_w, i32_w]
     rfl
    refine pure_ (i := 2) (N := some 94) (v := ?_) (a' := ?_) #[true, false, true, false, false, false, false, false, false, false, false, false] rfl rfl (by kernel_rfl) (fun _ _ _ h => h) (Or.inl ⟨by rfl, ?_⟩) ?_ ?_
    rotate_left
    ·
     intro w'
     go_simp
     with_reducible rfl
    rotate_left
    ·
     simp only [Act.put, List.setIfInBounds_toArray, List.set_cons_zero, List.set_cons_succ, i64_w, i32_w]
     rfl
    refine pure_ (i := 4) (N := some 96) (v := ?_) (a' := ?_) #[true, false, true, false, true, false, false, false, false, false, false, false] rfl rfl (by kernel_rfl) (fun _ _ _ h => h) (Or.inl ⟨by rfl, ?_⟩) ?_ ?_
    rotate_left
    ·
     intro w'
     go_simp
     with_reducible rfl
    rotate_left
    ·
     simp only [Act.put, List.setIfInBounds_toArray, List.set_cons_zero, List.set_cons_succ, i64_w, i32_w]
     rfl
    refine take_ (i := 1) (N := some 93) (v := ?_) (a' := ?_) #[true, true, true, false, true, false, false, false, false, false, false, false] rfl rfl (by kernel_rfl) (fun _ _ _ h => h) (Or.inl ⟨by rfl, ?_⟩) hHeld ?_ ?_
    rotate_left
    ·
     rintro w' ⟨s0, s1, s2⟩
     go_simp
     with_reducible rfl
    rotate_left
    ·
     simp only [Act.put, List.setIfInBounds_toArray, List.set_cons_zero, List.set_cons_succ, i64_w, i32_w]
     rfl
    refine pure_ (i := 6) (N := some 98) (v := ?_) (a' := ?_) #[true, true, true, false, true, false, true, false, false, false, false, false] rfl rfl (by kernel_rfl) (fun _ _ _ h => h) (Or.inl ⟨by rfl, ?_⟩) ?_ ?_
    rotate_left
    ·
     intro w'
     go_simp
     with_reducible rfl
    rotate_left
    ·
     simp only [Act.put, List.setIfInBounds_toArray, List.set_cons_zero, List.set_cons_succ, i64_w, i32_w]
     rfl
    refine take_ (i := 3) (N := some 95) (v := ?_) (a' := ?_) #[true, true, true, true, true, false, true, false, false, false, false, false] rfl rfl (by kernel_rfl) (fun _ _ _ h => h) (Or.inl ⟨by rfl, ?_⟩) hHeld ?_ ?_
    rotate_left
    ·
     rintro w' ⟨s0, s1, s2⟩
     go_simp
     with_reducible rfl
    rotate_left
    ·
     simp only [Act.put, List.setIfInBounds_toArray, List.set_cons_zero, List.set_cons_succ, i64_w, i32_w]
     rfl
    refine take_ (i := 5) (N := some 97) (v := ?_) (a' := ?_) #[true, true, true, true, true, true, true, false, false, false, false, false] rfl rfl (by kernel_rfl) (fun _ _ _ h => h) (Or.inl ⟨by rfl, ?_⟩) hHeld ?_ ?_
    rotate_left
    ·
     rintro w' ⟨s0, s1, s2⟩
     go_simp
     with_reducible rfl
    rotate_left
    ·
     simp only [Act.put, List.setIfInBounds_toArray, List.set_cons_zero, List.set_cons_succ, i64_w, i32_w]
     rfl
    refine one_ (i := 7) (N := none) #[true, true, true, true, true, true, true, true, false, false, false, false] rfl rfl (by kernel_rfl) (by decide) (fun K hK => ?_)
    refine skip_ (w1 := ?_) (by rfl) rfl ?_ ?_
    rotate_left
    ·
     go_simp
     rfl
    refine hK.out _ _ ⟨(matL (by with_reducible repeat (first | exact HO_4.out | apply MR_alloc | apply MR_drewN | apply MR_drew | apply MR_set)) A91.out), (matL (by with_reducible repeat (first | exact HO_4.out | apply MR_alloc | apply MR_drewN | apply MR_drew | apply MR_set)) A92.out), (matL (by with_reducible repeat (first | exact HO_4.out | apply MR_alloc | apply MR_drewN | apply MR_drew | apply MR_set)) A93.out)⟩ (fun hHeld => ?_)
    clear hK K
    refine pure_ (i := 8) (N := some 99) (v := ?_) (a' := ?_) #[true, true, true, true, true, true, true, true, true, false, false, false] rfl rfl (by kernel_rfl) (fun _ _ _ h => h) (Or.inl ⟨by rfl, ?_⟩) ?_ ?_
    rotate_left
    ·
     intro w'
     go_simp
     with_reducible rfl
    rotate_left
    ·
     simp only [Act.put, List.setIfInBounds_toArray, List.set_cons_zero, List.set_cons_succ, i64_w, i32_w]
     rfl
    refine one_ (i := 9) (N := none) #[true, true, true, true, true, true, true, true, true, true, false, false] rfl rfl (by kernel_rfl) (by decide) (fun K hK => ?_)
    refine skip_ (w1 := ?_) (by rfl) rfl ?_ ?_
    rotate_left
    ·
     go_simp
     rfl
    refine hK.out _ _ ⟨(matL (by with_reducible repeat (first | exact HO_4.out | apply MR_alloc | apply MR_drewN | apply MR_drew | apply MR_set)) A91.out), (matL (by with_reducible repeat (first | exact HO_4.out | apply MR_alloc | apply MR_drewN | apply MR_drew | apply MR_set)) A92.out), (matL (by with_reducible repeat (first | exact HO_4.out | apply MR_alloc | apply MR_drewN | apply MR_drew | apply MR_set)) A93.out)⟩ (fun hHeld => ?_)
    clear hK K
    refine pure_ (i := 10) (N := some 100) (v := ?_) (a' := ?_) #[true, true, true, true, true, true, true, true, true, true, true, false] rfl rfl (by kernel_rfl) (fun _ _ _ h => h) (Or.inl ⟨by rfl, ?_⟩) ?_ ?_
    rotate_left
    ·
     intro w'
     go_simp
     with_reducible rfl
    rotate_left
    ·
     simp only [Act.put, List.setIfInBounds_toArray, List.set_cons_zero, List.set_cons_succ, i64_w, i32_w]
     rfl
    refine one_ (i := 11) (N := none) #[true, true, true, true, true, true, true, true, true, true, true, true] rfl rfl (by kernel_rfl) (by decide) (fun K hK => ?_)
    refine skip_ (w1 := ?_) (by rfl) rfl ?_ ?_
    rotate_left
    ·
     go_simp
     rfl
    refine hK.out _ _ ⟨(matL (by with_reducible repeat (first | exact HO_4.out | apply MR_alloc | apply MR_drewN | apply MR_drew | apply MR_set)) A91.out), (matL (by with_reducible repeat (first | exact HO_4.out | apply MR_alloc | apply MR_drewN | apply MR_drew | apply MR_set)) A92.out), (matL (by with_reducible repeat (first | exact HO_4.out | apply MR_alloc | apply MR_drewN | apply MR_drew | apply MR_set)) A93.out)⟩ (fun hHeld => ?_)
    clear hK K
    refine done_ (by kernel_rfl) ?_
    clear hHeld
    clear hHeld
    clear hHeld
    clear hHeld
    go_upto_region 29 with fail
    (try simp only [Act.put, List.setIfInBounds_toArray, List.set_cons_zero, List.set_cons_succ])
    go_cut [122] (fun v122 wc => ∃ (kq : Nat) (x122_93 : Bool), v122 = .bool x122_93 ∧ Aside0 (msg_Two.j3 kq x4_1 x122_93 t144 t145 (⟨#[]⟩ : ByteArray) t146 x129004_1 (⟨#[]⟩ : ByteArray) = some (r1, r2, r3, r4, r5, r6, r7, r8)) ∧ Aside0 (kq ≤ k1) ∧ Aside0 (MR wc w.heap.size (.map (some b4_)) x4_1) ∧ Aside0 (Kd.R k30 30 wc w.heap.size (fun k_ => True) u129004 x129004_1) ∧ Aside0 (wc.heap[gb127]? = some (.cells #[.string x128000_1, .string x128001_1, .string x128002_1, .string x128003_1, (.slice none 0 0), .string x128005_1, (.slice none 0 0)] 24 (0, 0))) ∧ Aside0 (wc.heap[gb128]? = some (.cells #[.string t144, .string t145, .string (⟨#[]⟩ : ByteArray), .string t146, u129004, .string (⟨#[]⟩ : ByteArray), (.slice none 0 0)] 24 (0, 0))) ∧ Aside0 (Below w.heap.size w wc))
    case first =>
     have H := HC94.out
     clear HC94
     replace H := Option.bind_eq_some_iff.mp H
     obtain ⟨t147, A1010, H⟩ := H
     replace H : (if t147 = true then (if t145.toList = ([104, 116, 116, 112] : List UInt8) then ((msg_goes.f k1 t144 t146).bind fun t148 => (msg_Two.j3 k1 x4_1 (!t148) t144 t145 (⟨#[]⟩ : ByteArray) t146 x129004_1 (⟨#[]⟩ : ByteArray))) else (if t145.toList = ([104, 116, 116, 112, 115] : List UInt8) then ((msg_goes.f k1 t144 t146).bind fun t149 => (msg_Two.j3 k1 x4_1 (!t149) t144 t145 (⟨#[]⟩ : ByteArray) t146 x129004_1 (⟨#[]⟩ : ByteArray))) else (msg_Two.j3 k1 x4_1 true t144 t145 (⟨#[]⟩ : ByteArray) t146 x129004_1 (⟨#[]⟩ : ByteArray)))) else (msg_Two.j3 k1 x4_1 true t144 t145 (⟨#[]⟩ : ByteArray) t146 x129004_1 (⟨#[]⟩ : ByteArray))) = some (r1, r2, r3, r4, r5, r6, r7, r8) := H
     have A101 := Aside0.mk A1010
     clear A1010
     by_cases c102 : t147 = true
     ·
      subst c102
      have H1 : (if t145.toList = ([104, 116, 116, 112] : List UInt8) then ((msg_goes.f k1 t144 t146).bind fun t148 => (msg_Two.j3 k1 x4_1 (!t148) t144 t145 (⟨#[]⟩ : ByteArray) t146 x129004_1 (⟨#[]⟩ : ByteArray))) else (if t145.toList = ([104, 116, 116, 112, 115] : List UInt8) then ((msg_goes.f k1 t144 t146).bind fun t149 => (msg_Two.j3 k1 x4_1 (!t149) t144 t145 (⟨#[]⟩ : ByteArray) t146 x129004_1 (⟨#[]⟩ : ByteArray))) else (msg_Two.j3 k1 x4_1 true t144 t145 (⟨#[]⟩ : ByteArray) t146 x129004_1 (⟨#[]⟩ : ByteArray)))) = some (r1, r2, r3, r4, r5, r6, r7, r8) := by rw [if_pos rfl] at H; exact H
      clear H
      have H := H1
      clear H1
      by_cases c103 : t145.toList = ([104, 116, 116, 112] : List UInt8)
      ·
       rw [if_pos c103] at H
       have c103b0 : (t145.toList == ([104, 116, 116, 112] : List UInt8)) = true := beq_iff_eq.mpr c103
       have c103b1 : (t145.toList != ([104, 116, 116, 112] : List UInt8)) = false := bne_eq_false_iff_eq.mpr c103
       clear c103
       (first | rw [c103b0] | (simp only [i64_w, i32_w]; rw [c103b0]) | skip)
       replace H := Option.bind_eq_some_iff.mp H
       obtain ⟨t148, A1040, H⟩ := H
       replace H : (msg_Two.j3 k1 x4_1 (!t148) t144 t145 (⟨#[]⟩ : ByteArray) t146 x129004_1 (⟨#[]⟩ : ByteArray)) = some (r1, r2, r3, r4, r5, r6, r7, r8) := H
       have A104 := Aside0.mk A1040
       clear A1040
       have H' := Aside0.mk H
       clear H
       have hnb105 := NB128_127.out
       have hnc105 := NB127_128.out
       have hcz106_0 : wr.cell? ⟨gb128, 0, none⟩ = some (.string (⟨#[]⟩ : ByteArray)) := (blk_cell BK128.out 0).trans rfl
       have hcz106_1 : wr.cell? ⟨gb128, 1, none⟩ = some (.string (⟨#[]⟩ : ByteArray)) := (blk_cell BK128.out 1).trans rfl
       have hcz106_2 : wr.cell? ⟨gb128, 2, none⟩ = some (.string (⟨#[]⟩ : ByteArray)) := (blk_cell BK128.out 2).trans rfl
       have hcz106_3 : wr.cell? ⟨gb128, 3, none⟩ = some (.string (⟨#[]⟩ : ByteArray)) := (blk_cell BK128.out 3).trans rfl
       have hcz106_4 : wr.cell? ⟨gb128, 4, none⟩ = some (u129004) := (blk_cell BK128.out 4).trans rfl
       have hcz106_5 : wr.cell? ⟨gb128, 5, none⟩ = some (.string (⟨#[]⟩ : ByteArray)) := (blk_cell BK128.out 5).trans rfl
       have hcz106_6 : wr.cell? ⟨gb128, 6, none⟩ = some (.slice none 0 0) := (blk_cell BK128.out 6).trans rfl
       have hfz106_0 := blk_frozen BK128.out 0
       have hfz106_1 := blk_frozen BK128.out 1
       have hfz106_2 := blk_frozen BK128.out 2
       have hfz106_3 := blk_frozen BK128.out 3
       have hfz106_4 := blk_frozen BK128.out 4
       have hfz106_5 := blk_frozen BK128.out 5
       have hfz106_6 := blk_frozen BK128.out 6
       go_wp2_with (first | ((with_reducible refine gate_callee (f := 17) rfl ?_); refine goesL_ (some 103) rfl rfl Tryd.func17 (by kernel_rfl) rfl #[.string t144] rfl (by (try simp only [List.map_toArray, List.map_cons, List.map_nil]); first | done | rfl | (simp only [List.length_drop, List.length_take]; rfl)) ?_; (with_reducible refine (text_Token.calls k1 t144 true _ A101.out).mono ?_); rintro e w' ⟨rfl, ⟨nd, rfl⟩⟩; refine ⟨_, rfl, ?_⟩) | (go_at_call 18; (with_reducible refine (msg_goes.calls k1 t144 t146 t148 _ A104.out).mono ?_); rintro e w' ⟨rfl, ⟨nd, rfl⟩⟩))
       go_meet
       case rel => exact ⟨_, (!t148), (by first | rfl | (simp; done) | (simp [*]; done) | (simp [bne_nil_]; done) | (simp only [ByteArray.size_append, Int.natCast_add]; rfl)), H', ⟨by have := HK1.out; first | omega | exact Nat.le_refl _⟩, ⟨by with_reducible repeat (first | exact HO_4.out | apply MR_alloc | apply MR_drewN | apply MR_drew | apply MR_set)⟩, ⟨by (with_reducible repeat (first | apply Kd.R_alloc | apply Kd.R_drewN | apply Kd.R_drew)); exact Kd.R_mono (Kd.R_far (p := ⟨gb128, 3, none⟩) (Kd.R_far (p := ⟨gb128, 1, none⟩) (Kd.R_far (p := ⟨gb128, 0, none⟩) (Kd.R_types HO_129004.out BK128.out (by decide)) (fun _ hk => hk.2) (.string t144)) (fun _ hk => hk.2) (.string t145)) (fun _ hk => hk.2) (.string t146)) (fun _ hk => hk.1)⟩, ⟨by (with_reducible repeat (first | refine blk_drewN ?_ _ | refine blk_drew ?_ | refine blk_alloc ?_ _)); refine blk_far ?_ NB127_128.out _; (with_reducible repeat (first | refine blk_drewN ?_ _ | refine blk_drew ?_ | refine blk_alloc ?_ _)); refine blk_far ?_ NB127_128.out _; (with_reducible repeat (first | refine blk_drewN ?_ _ | refine blk_drew ?_ | refine blk_alloc ?_ _)); refine blk_far ?_ NB127_128.out _; (with_reducible repeat (first | refine blk_drewN ?_ _ | refine blk_drew ?_ | refine blk_alloc ?_ _)); exact BK127.out⟩, ⟨by (with_reducible repeat (first | refine blk_drewN ?_ _ | refine blk_drew ?_ | refine blk_alloc ?_ _)); refine blk_put (cs := #[.string t144, .string t145, .string (⟨#[]⟩ : ByteArray), .string (⟨#[]⟩ : ByteArray), u129004, .string (⟨#[]⟩ : ByteArray), .slice none 0 0]) ?_ 3 _ rfl; (with_reducible repeat (first | refine blk_drewN ?_ _ | refine blk_drew ?_ | refine blk_alloc ?_ _)); refine blk_put (cs := #[.string t144, .string (⟨#[]⟩ : ByteArray), .string (⟨#[]⟩ : ByteArray), .string (⟨#[]⟩ : ByteArray), u129004, .string (⟨#[]⟩ : ByteArray), .slice none 0 0]) ?_ 1 _ rfl; (with_reducible repeat (first | refine blk_drewN ?_ _ | refine blk_drew ?_ | refine blk_alloc ?_ _)); refine blk_put (cs := #[.string (⟨#[]⟩ : ByteArray), .string (⟨#[]⟩ : ByteArray), .string (⟨#[]⟩ : ByteArray), .string (⟨#[]⟩ : ByteArray), u129004, .string (⟨#[]⟩ : ByteArray), .slice none 0 0]) ?_ 0 _ rfl; (with_reducible repeat (first | refine blk_drewN ?_ _ | refine blk_drew ?_ | refine blk_alloc ?_ _)); exact BK128.out⟩, ⟨by repeat (first | (with_reducible first | exact HB.out | apply below_alloc | apply pw_below_drewN | apply below_drew1 | refine below_set ?_ GE127.out | refine below_set ?_ GE128.out) | exact HB.out)⟩⟩
      ·
       rw [if_neg c103] at H
       have c103b0 : (t145.toList == ([104, 116, 116, 112] : List UInt8)) = false := beq_eq_false_iff_ne.mpr c103
       have c103b1 : (t145.toList != ([104, 116, 116, 112] : List UInt8)) = true := bne_iff_ne.mpr c103
       (first | rw [c103b0] | (simp only [i64_w, i32_w]; rw [c103b0]) | skip)
       by_cases c107 : t145.toList = ([104, 116, 116, 112, 115] : List UInt8)
       ·
        rw [if_pos c107] at H
        have c107b0 : (t145.toList == ([104, 116, 116, 112, 115] : List UInt8)) = true := beq_iff_eq.mpr c107
        have c107b1 : (t145.toList != ([104, 116, 116, 112, 115] : List UInt8)) = false := bne_eq_false_iff_eq.mpr c107
        clear c107
        replace H := Option.bind_eq_some_iff.mp H
        obtain ⟨t149, A1080, H⟩ := H
        replace H : (msg_Two.j3 k1 x4_1 (!t149) t144 t145 (⟨#[]⟩ : ByteArray) t146 x129004_1 (⟨#[]⟩ : ByteArray)) = some (r1, r2, r3, r4, r5, r6, r7, r8) := H
        have A108 := Aside0.mk A1080
        clear A1080
        have H' := Aside0.mk H
        clear H
        have hnb109 := NB128_127.out
        have hnc109 := NB127_128.out
        have hcz110_0 : wr.cell? ⟨gb128, 0, none⟩ = some (.string (⟨#[]⟩ : ByteArray)) := (blk_cell BK128.out 0).trans rfl
        have hcz110_1 : wr.cell? ⟨gb128, 1, none⟩ = some (.string (⟨#[]⟩ : ByteArray)) := (blk_cell BK128.out 1).trans rfl
        have hcz110_2 : wr.cell? ⟨gb128, 2, none⟩ = some (.string (⟨#[]⟩ : ByteArray)) := (blk_cell BK128.out 2).trans rfl
        have hcz110_3 : wr.cell? ⟨gb128, 3, none⟩ = some (.string (⟨#[]⟩ : ByteArray)) := (blk_cell BK128.out 3).trans rfl
        have hcz110_4 : wr.cell? ⟨gb128, 4, none⟩ = some (u129004) := (blk_cell BK128.out 4).trans rfl
        have hcz110_5 : wr.cell? ⟨gb128, 5, none⟩ = some (.string (⟨#[]⟩ : ByteArray)) := (blk_cell BK128.out 5).trans rfl
        have hcz110_6 : wr.cell? ⟨gb128, 6, none⟩ = some (.slice none 0 0) := (blk_cell BK128.out 6).trans rfl
        have hfz110_0 := blk_frozen BK128.out 0
        have hfz110_1 := blk_frozen BK128.out 1
        have hfz110_2 := blk_frozen BK128.out 2
        have hfz110_3 := blk_frozen BK128.out 3
        have hfz110_4 := blk_frozen BK128.out 4
        have hfz110_5 := blk_frozen BK128.out 5
        have hfz110_6 := blk_frozen BK128.out 6
        go_wp2_with (first | ((with_reducible refine gate_callee (f := 17) rfl ?_); refine goesL_ (some 103) rfl rfl Tryd.func17 (by kernel_rfl) rfl #[.string t144] rfl (by (try simp only [List.map_toArray, List.map_cons, List.map_nil]); first | done | rfl | (simp only [List.length_drop, List.length_take]; rfl)) ?_; (with_reducible refine (text_Token.calls k1 t144 true _ A101.out).mono ?_); rintro e w' ⟨rfl, ⟨nd, rfl⟩⟩; refine ⟨_, rfl, ?_⟩) | (go_at_call 18; (with_reducible refine (msg_goes.calls k1 t144 t146 t149 _ A108.out).mono ?_); rintro e w' ⟨rfl, ⟨nd, rfl⟩⟩))
        go_meet
        case rel => exact ⟨_, (!t149), (by first | rfl | (simp; done) | (simp [*]; done) | (simp [bne_nil_]; done) | (simp only [ByteArray.size_append, Int.natCast_add]; rfl)), H', ⟨by have := HK1.out; first | omega | exact Nat.le_refl _⟩, ⟨by with_reducible repeat (first | exact HO_4.out | apply MR_alloc | apply MR_drewN | apply MR_drew | apply MR_set)⟩, ⟨by (with_reducible repeat (first | apply Kd.R_alloc | apply Kd.R_drewN | apply Kd.R_drew)); exact Kd.R_mono (Kd.R_far (p := ⟨gb128, 3, none⟩) (Kd.R_far (p := ⟨gb128, 1, none⟩) (Kd.R_far (p := ⟨gb128, 0, none⟩) (Kd.R_types HO_129004.out BK128.out (by decide)) (fun _ hk => hk.2) (.string t144)) (fun _ hk => hk.2) (.string t145)) (fun _ hk => hk.2) (.string t146)) (fun _ hk => hk.1)⟩, ⟨by (with_reducible repeat (first | refine blk_drewN ?_ _ | refine blk_drew ?_ | refine blk_alloc ?_ _)); refine blk_far ?_ NB127_128.out _; (with_reducible repeat (first | refine blk_drewN ?_ _ | refine blk_drew ?_ | refine blk_alloc ?_ _)); refine blk_far ?_ NB127_128.out _; (with_reducible repeat (first | refine blk_drewN ?_ _ | refine blk_drew ?_ | refine blk_alloc ?_ _)); refine blk_far ?_ NB127_128.out _; (with_reducible repeat (first | refine blk_drewN ?_ _ | refine blk_drew ?_ | refine blk_alloc ?_ _)); exact BK127.out⟩, ⟨by (with_reducible repeat (first | refine blk_drewN ?_ _ | refine blk_drew ?_ | refine blk_alloc ?_ _)); refine blk_put (cs := #[.string t144, .string t145, .string (⟨#[]⟩ : ByteArray), .string (⟨#[]⟩ : ByteArray), u129004, .string (⟨#[]⟩ : ByteArray), .slice none 0 0]) ?_ 3 _ rfl; (with_reducible repeat (first | refine blk_drewN ?_ _ | refine blk_drew ?_ | refine blk_alloc ?_ _)); refine blk_put (cs := #[.string t144, .string (⟨#[]⟩ : ByteArray), .string (⟨#[]⟩ : ByteArray), .string (⟨#[]⟩ : ByteArray), u129004, .string (⟨#[]⟩ : ByteArray), .slice none 0 0]) ?_ 1 _ rfl; (with_reducible repeat (first | refine blk_drewN ?_ _ | refine blk_drew ?_ | refine blk_alloc ?_ _)); refine blk_put (cs := #[.string (⟨#[]⟩ : ByteArray), .string (⟨#[]⟩ : ByteArray), .string (⟨#[]⟩ : ByteArray), .string (⟨#[]⟩ : ByteArray), u129004, .string (⟨#[]⟩ : ByteArray), .slice none 0 0]) ?_ 0 _ rfl; (with_reducible repeat (first | refine blk_drewN ?_ _ | refine blk_drew ?_ | refine blk_alloc ?_ _)); exact BK128.out⟩, ⟨by repeat (first | (with_reducible first | exact HB.out | apply below_alloc | apply pw_below_drewN | apply below_drew1 | refine below_set ?_ GE127.out | refine below_set ?_ GE128.out) | exact HB.out)⟩⟩
       ·
        rw [if_neg c107] at H
        have c107b0 : (t145.toList == ([104, 116, 116, 112, 115] : List UInt8)) = false := beq_eq_false_iff_ne.mpr c107
        have c107b1 : (t145.toList != ([104, 116, 116, 112, 115] : List UInt8)) = true := bne_iff_ne.mpr c107
        have H' := Aside0.mk H
        clear H
        have hnb111 := NB128_127.out
        have hnc111 := NB127_128.out
        have hcz112_0 : wr.cell? ⟨gb128, 0, none⟩ = some (.string (⟨#[]⟩ : ByteArray)) := (blk_cell BK128.out 0).trans rfl
        have hcz112_1 : wr.cell? ⟨gb128, 1, none⟩ = some (.string (⟨#[]⟩ : ByteArray)) := (blk_cell BK128.out 1).trans rfl
        have hcz112_2 : wr.cell? ⟨gb128, 2, none⟩ = some (.string (⟨#[]⟩ : ByteArray)) := (blk_cell BK128.out 2).trans rfl
        have hcz112_3 : wr.cell? ⟨gb128, 3, none⟩ = some (.string (⟨#[]⟩ : ByteArray)) := (blk_cell BK128.out 3).trans rfl
        have hcz112_4 : wr.cell? ⟨gb128, 4, none⟩ = some (u129004) := (blk_cell BK128.out 4).trans rfl
        have hcz112_5 : wr.cell? ⟨gb128, 5, none⟩ = some (.string (⟨#[]⟩ : ByteArray)) := (blk_cell BK128.out 5).trans rfl
        have hcz112_6 : wr.cell? ⟨gb128, 6, none⟩ = some (.slice none 0 0) := (blk_cell BK128.out 6).trans rfl
        have hfz112_0 := blk_frozen BK128.out 0
        have hfz112_1 := blk_frozen BK128.out 1
        have hfz112_2 := blk_frozen BK128.out 2
        have hfz112_3 := blk_frozen BK128.out 3
        have hfz112_4 := blk_frozen BK128.out 4
        have hfz112_5 := blk_frozen BK128.out 5
        have hfz112_6 := blk_frozen BK128.out 6
        go_wp2_with (first | ((with_reducible refine gate_callee (f := 17) rfl ?_); refine goesL_ (some 103) rfl rfl Tryd.func17 (by kernel_rfl) rfl #[.string t144] rfl (by (try simp only [List.map_toArray, List.map_cons, List.map_nil]); first | done | rfl | (simp only [List.length_drop, List.length_take]; rfl)) ?_; (with_reducible refine (text_Token.calls k1 t144 true _ A101.out).mono ?_); rintro e w' ⟨rfl, ⟨nd, rfl⟩⟩; refine ⟨_, rfl, ?_⟩))
        go_meet
        case rel => exact ⟨_, (true), (by first | rfl | (simp; done) | (simp [*]; done) | (simp [bne_nil_]; done) | (simp only [ByteArray.size_append, Int.natCast_add]; rfl)), H', ⟨by have := HK1.out; first | omega | exact Nat.le_refl _⟩, ⟨by with_reducible repeat (first | exact HO_4.out | apply MR_alloc | apply MR_drewN | apply MR_drew | apply MR_set)⟩, ⟨by (with_reducible repeat (first | apply Kd.R_alloc | apply Kd.R_drewN | apply Kd.R_drew)); exact Kd.R_mono (Kd.R_far (p := ⟨gb128, 3, none⟩) (Kd.R_far (p := ⟨gb128, 1, none⟩) (Kd.R_far (p := ⟨gb128, 0, none⟩) (Kd.R_types HO_129004.out BK128.out (by decide)) (fun _ hk => hk.2) (.string t144)) (fun _ hk => hk.2) (.string t145)) (fun _ hk => hk.2) (.string t146)) (fun _ hk => hk.1)⟩, ⟨by (with_reducible repeat (first | refine blk_drewN ?_ _ | refine blk_drew ?_ | refine blk_alloc ?_ _)); refine blk_far ?_ NB127_128.out _; (with_reducible repeat (first | refine blk_drewN ?_ _ | refine blk_drew ?_ | refine blk_alloc ?_ _)); refine blk_far ?_ NB127_128.out _; (with_reducible repeat (first | refine blk_drewN ?_ _ | refine blk_drew ?_ | refine blk_alloc ?_ _)); refine blk_far ?_ NB127_128.out _; (with_reducible repeat (first | refine blk_drewN ?_ _ | refine blk_drew ?_ | refine blk_alloc ?_ _)); exact BK127.out⟩, ⟨by (with_reducible repeat (first | refine blk_drewN ?_ _ | refine blk_drew ?_ | refine blk_alloc ?_ _)); refine blk_put (cs := #[.string t144, .string t145, .string (⟨#[]⟩ : ByteArray), .string (⟨#[]⟩ : ByteArray), u129004, .string (⟨#[]⟩ : ByteArray), .slice none 0 0]) ?_ 3 _ rfl; (with_reducible repeat (first | refine blk_drewN ?_ _ | refine blk_drew ?_ | refine blk_alloc ?_ _)); refine blk_put (cs := #[.string t144, .string (⟨#[]⟩ : ByteArray), .string (⟨#[]⟩ : ByteArray), .string (⟨#[]⟩ : ByteArray), u129004, .string (⟨#[]⟩ : ByteArray), .slice none 0 0]) ?_ 1 _ rfl; (with_reducible repeat (first | refine blk_drewN ?_ _ | refine blk_drew ?_ | refine blk_alloc ?_ _)); refine blk_put (cs := #[.string (⟨#[]⟩ : ByteArray), .string (⟨#[]⟩ : ByteArray), .string (⟨#[]⟩ : ByteArray), .string (⟨#[]⟩ : ByteArray), u129004, .string (⟨#[]⟩ : ByteArray), .slice none 0 0]) ?_ 0 _ rfl; (with_reducible repeat (first | refine blk_drewN ?_ _ | refine blk_drew ?_ | refine blk_alloc ?_ _)); exact BK128.out⟩, ⟨by repeat (first | (with_reducible first | exact HB.out | apply below_alloc | apply pw_below_drewN | apply below_drew1 | refine below_set ?_ GE127.out | refine below_set ?_ GE128.out) | exact HB.out)⟩⟩
     ·
      replace c102 := Bool.eq_false_iff.mpr c102
      subst c102
      have H1 : (msg_Two.j3 k1 x4_1 true t144 t145 (⟨#[]⟩ : ByteArray) t146 x129004_1 (⟨#[]⟩ : ByteArray)) = some (r1, r2, r3, r4, r5, r6, r7, r8) := by rw [if_neg (show ¬ (false = true) by decide)] at H; exact H
      clear H
      have H := H1
      clear H1
      have H' := Aside0.mk H
      clear H
      have hnb113 := NB128_127.out
      have hnc113 := NB127_128.out
      have hcz114_0 : wr.cell? ⟨gb128, 0, none⟩ = some (.string (⟨#[]⟩ : ByteArray)) := (blk_cell BK128.out 0).trans rfl
      have hcz114_1 : wr.cell? ⟨gb128, 1, none⟩ = some (.string (⟨#[]⟩ : ByteArray)) := (blk_cell BK128.out 1).trans rfl
      have hcz114_2 : wr.cell? ⟨gb128, 2, none⟩ = some (.string (⟨#[]⟩ : ByteArray)) := (blk_cell BK128.out 2).trans rfl
      have hcz114_3 : wr.cell? ⟨gb128, 3, none⟩ = some (.string (⟨#[]⟩ : ByteArray)) := (blk_cell BK128.out 3).trans rfl
      have hcz114_4 : wr.cell? ⟨gb128, 4, none⟩ = some (u129004) := (blk_cell BK128.out 4).trans rfl
      have hcz114_5 : wr.cell? ⟨gb128, 5, none⟩ = some (.string (⟨#[]⟩ : ByteArray)) := (blk_cell BK128.out 5).trans rfl
      have hcz114_6 : wr.cell? ⟨gb128, 6, none⟩ = some (.slice none 0 0) := (blk_cell BK128.out 6).trans rfl
      have hfz114_0 := blk_frozen BK128.out 0
      have hfz114_1 := blk_frozen BK128.out 1
      have hfz114_2 := blk_frozen BK128.out 2
      have hfz114_3 := blk_frozen BK128.out 3
      have hfz114_4 := blk_frozen BK128.out 4
      have hfz114_5 := blk_frozen BK128.out 5
      have hfz114_6 := blk_frozen BK128.out 6
      go_wp2_with (first | ((with_reducible refine gate_callee (f := 17) rfl ?_); refine goesL_ (some 103) rfl rfl Tryd.func17 (by kernel_rfl) rfl #[.string t144] rfl (by (try simp only [List.map_toArray, List.map_cons, List.map_nil]); first | done | rfl | (simp only [List.length_drop, List.length_take]; rfl)) ?_; (with_reducible refine (text_Token.calls k1 t144 false _ A101.out).mono ?_); rintro e w' ⟨rfl, ⟨nd, rfl⟩⟩; refine ⟨_, rfl, ?_⟩))
      go_meet
      case rel => exact ⟨_, (true), (by first | rfl | (simp; done) | (simp [*]; done) | (simp [bne_nil_]; done) | (simp only [ByteArray.size_append, Int.natCast_add]; rfl)), H', ⟨by have := HK1.out; first | omega | exact Nat.le_refl _⟩, ⟨by with_reducible repeat (first | exact HO_4.out | apply MR_alloc | apply MR_drewN | apply MR_drew | apply MR_set)⟩, ⟨by (with_reducible repeat (first | apply Kd.R_alloc | apply Kd.R_drewN | apply Kd.R_drew)); exact Kd.R_mono (Kd.R_far (p := ⟨gb128, 3, none⟩) (Kd.R_far (p := ⟨gb128, 1, none⟩) (Kd.R_far (p := ⟨gb128, 0, none⟩) (Kd.R_types HO_129004.out BK128.out (by decide)) (fun _ hk => hk.2) (.string t144)) (fun _ hk => hk.2) (.string t145)) (fun _ hk => hk.2) (.string t146)) (fun _ hk => hk.1)⟩, ⟨by (with_reducible repeat (first | refine blk_drewN ?_ _ | refine blk_drew ?_ | refine blk_alloc ?_ _)); refine blk_far ?_ NB127_128.out _; (with_reducible repeat (first | refine blk_drewN ?_ _ | refine blk_drew ?_ | refine blk_alloc ?_ _)); refine blk_far ?_ NB127_128.out _; (with_reducible repeat (first | refine blk_drewN ?_ _ | refine blk_drew ?_ | refine blk_alloc ?_ _)); refine blk_far ?_ NB127_128.out _; (with_reducible repeat (first | refine blk_drewN ?_ _ | refine blk_drew ?_ | refine blk_alloc ?_ _)); exact BK127.out⟩, ⟨by (with_reducible repeat (first | refine blk_drewN ?_ _ | refine blk_drew ?_ | refine blk_alloc ?_ _)); refine blk_put (cs := #[.string t144, .string t145, .string (⟨#[]⟩ : ByteArray), .string (⟨#[]⟩ : ByteArray), u129004, .string (⟨#[]⟩ : ByteArray), .slice none 0 0]) ?_ 3 _ rfl; (with_reducible repeat (first | refine blk_drewN ?_ _ | refine blk_drew ?_ | refine blk_alloc ?_ _)); refine blk_put (cs := #[.string t144, .string (⟨#[]⟩ : ByteArray), .string (⟨#[]⟩ : ByteArray), .string (⟨#[]⟩ : ByteArray), u129004, .string (⟨#[]⟩ : ByteArray), .slice none 0 0]) ?_ 1 _ rfl; (with_reducible repeat (first | refine blk_drewN ?_ _ | refine blk_drew ?_ | refine blk_alloc ?_ _)); refine blk_put (cs := #[.string (⟨#[]⟩ : ByteArray), .string (⟨#[]⟩ : ByteArray), .string (⟨#[]⟩ : ByteArray), .string (⟨#[]⟩ : ByteArray), u129004, .string (⟨#[]⟩ : ByteArray), .slice none 0 0]) ?_ 0 _ rfl; (with_reducible repeat (first | refine blk_drewN ?_ _ | refine blk_drew ?_ | refine blk_alloc ?_ _)); exact BK128.out⟩, ⟨by repeat (first | (with_reducible first | exact HB.out | apply below_alloc | apply pw_below_drewN | apply below_drew1 | refine below_set ?_ GE127.out | refine below_set ?_ GE128.out) | exact HB.out)⟩⟩
    case rest =>
     clear HC94
     try clear c1
     try clear p1
     try clear q1
     try clear hx1
     try clear c2
     try clear p2
     try clear c3
     try clear c4
     try clear c4b0
     try clear c5
     try clear c5b0
     try clear c6
     try clear c6b0
     try clear p6
     try clear c7
     try clear c8
     try clear c9
     try clear c10
     try clear c11
     try clear c12
     try clear p12
     try clear q12
     try clear hx12
     try clear c13
     try clear c15
     try clear c16
     try clear c17
     try clear c18
     try clear c18b0
     try clear c18b1
     try clear c19
     try clear c19b0
     try clear c19b1
     try clear c20
     try clear c20b0
     try clear c20b1
     try clear c21
     try clear c22
     try clear c23
     try clear c24
     try clear c26
     try clear c27
     try clear c28
     try clear c31
     try clear c32
     try clear c35
     try clear c36
     try clear c41
     try clear c42
     try clear c48
     try clear c49
     try clear c49b0
     try clear c49b1
     try clear c50
     try clear c50b0
     try clear c50b1
     try clear c51
     try clear c51b0
     try clear c51b1
     try clear c52
     try clear c53
     try clear c55
     try clear c56
     try clear c58
     try clear c59
     try clear c61
     try clear c61b0
     try clear c61b1
     try clear c62
     try clear c63
     try clear p64
     try clear c65
     try clear c66
     try clear c68
     try clear c69
     try clear c70
     try clear c72
     try clear c72b0
     try clear c72b1
     try clear c74
     try clear c75
     try clear c78
     try clear c78b0
     try clear c78b1
     try clear c79
     try clear c80
     try clear c82
     try clear c83
     try clear c84
     try clear c86
     try clear c99
     try clear c102
     try clear c103
     try clear c103b0
     try clear c103b1
     try clear c105
     try clear c107
     try clear c107b0
     try clear c107b1
     try clear c109
     try clear c111
     try clear c113
     try clear hcz100_0
     try clear hcz100_1
     try clear hcz100_2
     try clear hcz100_3
     try clear hcz100_4
     try clear hcz100_5
     try clear hcz100_6
     try clear hcz106_0
     try clear hcz106_1
     try clear hcz106_2
     try clear hcz106_3
     try clear hcz106_4
     try clear hcz106_5
     try clear hcz106_6
     try clear hcz110_0
     try clear hcz110_1
     try clear hcz110_2
     try clear hcz110_3
     try clear hcz110_4
     try clear hcz110_5
     try clear hcz110_6
     try clear hcz112_0
     try clear hcz112_1
     try clear hcz112_2
     try clear hcz112_3
     try clear hcz112_4
     try clear hcz112_5
     try clear hcz112_6
     try clear hcz114_0
     try clear hcz114_1
     try clear hcz114_2
     try clear hcz114_3
     try clear hcz114_4
     try clear hcz114_5
     try clear hcz114_6
     try clear hcz14_0
     try clear hcz14_1
     try clear hcz17_0
     try clear hcz17_1
     try clear hcz25_0
     try clear hcz25_1
     try clear hcz25_2
     try clear hcz25_3
     try clear hcz25_4
     try clear hcz25_5
     try clear hcz25_6
     try clear hcz29_0
     try clear hcz29_1
     try clear hcz29_2
     try clear hcz29_3
     try clear hcz29_4
     try clear hcz29_5
     try clear hcz29_6
     try clear hcz33_0
     try clear hcz33_1
     try clear hcz37_0
     try clear hcz37_1
     try clear hcz37_2
     try clear hcz37_3
     try clear hcz37_4
     try clear hcz37_5
     try clear hcz37_6
     try clear hcz43_0
     try clear hcz43_1
     try clear hcz46_0
     try clear hcz46_1
     try clear hcz54_0
     try clear hcz54_1
     try clear hcz57_0
     try clear hcz57_1
     try clear hcz60_0
     try clear hcz60_1
     try clear hcz64_0
     try clear hcz64_1
     try clear hcz67_0
     try clear hcz67_1
     try clear hcz71_0
     try clear hcz71_1
     try clear hcz71_2
     try clear hcz71_3
     try clear hcz71_4
     try clear hcz71_5
     try clear hcz71_6
     try clear hcz76_0
     try clear hcz76_1
     try clear hcz81_0
     try clear hcz81_1
     try clear hcz85_0
     try clear hcz85_1
     try clear hcz87_0
     try clear hcz87_1
     try clear hcz87_2
     try clear hcz87_3
     try clear hcz87_4
     try clear hcz87_5
     try clear hcz87_6
     try clear hcz90_0
     try clear hcz90_1
     try clear hcz90_2
     try clear hcz90_3
     try clear hcz90_4
     try clear hcz90_5
     try clear hcz90_6
     try clear hfz100_0
     try clear hfz100_1
     try clear hfz100_2
     try clear hfz100_3
     try clear hfz100_4
     try clear hfz100_5
     try clear hfz100_6
     try clear hfz106_0
     try clear hfz106_1
     try clear hfz106_2
     try clear hfz106_3
     try clear hfz106_4
     try clear hfz106_5
     try clear hfz106_6
     try clear hfz110_0
     try clear hfz110_1
     try clear hfz110_2
     try clear hfz110_3
     try clear hfz110_4
     try clear hfz110_5
     try clear hfz110_6
     try clear hfz112_0
     try clear hfz112_1
     try clear hfz112_2
     try clear hfz112_3
     try clear hfz112_4
     try clear hfz112_5
     try clear hfz112_6
     try clear hfz114_0
     try clear hfz114_1
     try clear hfz114_2
     try clear hfz114_3
     try clear hfz114_4
     try clear hfz114_5
     try clear hfz114_6
     try clear hfz14_0
     try clear hfz14_1
     try clear hfz17_0
     try clear hfz17_1
     try clear hfz25_0
     try clear hfz25_1
     try clear hfz25_2
     try clear hfz25_3
     try clear hfz25_4
     try clear hfz25_5
     try clear hfz25_6
     try clear hfz29_0
     try clear hfz29_1
     try clear hfz29_2
     try clear hfz29_3
     try clear hfz29_4
     try clear hfz29_5
     try clear hfz29_6
     try clear hfz33_0
     try clear hfz33_1
     try clear hfz37_0
     try clear hfz37_1
     try clear hfz37_2
     try clear hfz37_3
     try clear hfz37_4
     try clear hfz37_5
     try clear hfz37_6
     try clear hfz43_0
     try clear hfz43_1
     try clear hfz46_0
     try clear hfz46_1
     try clear hfz54_0
     try clear hfz54_1
     try clear hfz57_0
     try clear hfz57_1
     try clear hfz60_0
     try clear hfz60_1
     try clear hfz64_0
     try clear hfz64_1
     try clear hfz67_0
     try clear hfz67_1
     try clear hfz71_0
     try clear hfz71_1
     try clear hfz71_2
     try clear hfz71_3
     try clear hfz71_4
     try clear hfz71_5
     try clear hfz71_6
     try clear hfz76_0
     try clear hfz76_1
     try clear hfz81_0
     try clear hfz81_1
     try clear hfz85_0
     try clear hfz85_1
     try clear hfz87_0
     try clear hfz87_1
     try clear hfz87_2
     try clear hfz87_3
     try clear hfz87_4
     try clear hfz87_5
     try clear hfz87_6
     try clear hfz90_0
     try clear hfz90_1
     try clear hfz90_2
     try clear hfz90_3
     try clear hfz90_4
     try clear hfz90_5
     try clear hfz90_6
     try clear hx129_0
     try clear hx129_1
     try clear p1
     try clear p12
     try clear p129
     try clear p2
     try clear p6
     try clear p64
     try clear q1
     try clear q12
     try clear q129
     obtain ⟨kq, x122_93, rfl, HA, HJ93, HO_4, HO_129004, BK127, BK128, HB⟩ := hcut
     cases kq with
     | zero => exact absurd HA.out (by simp [msg_Two.j3])
     | succ kj93 =>
      have H := HA.out
      clear HA
      simp only [msg_Two.j3] at H
      by_cases c115 : x122_93 = true
      ·
       subst c115
       have H1 : (some ((⟨#[]⟩ : ByteArray), (⟨#[]⟩ : ByteArray), (⟨#[]⟩ : ByteArray), (⟨#[]⟩ : ByteArray), ([] : List (S30)), (⟨#[]⟩ : ByteArray), ([] : List (S30)), 140)) = some (r1, r2, r3, r4, r5, r6, r7, r8) := by rw [if_pos rfl] at H; exact H
       clear H
       have H := H1
       clear H1
       simp only [Option.some.injEq, Prod.mk.injEq] at H
       obtain ⟨rfl, rfl, rfl, rfl, rfl, rfl, rfl, rfl⟩ := H
       have hnb116 := NB127_128.out
       have hnc116 := NB128_127.out
       have hcz117_0 : wc.cell? ⟨gb127, 0, none⟩ = some (.string x128000_1) := (blk_cell BK127.out 0).trans rfl
       have hcz117_1 : wc.cell? ⟨gb127, 1, none⟩ = some (.string x128001_1) := (blk_cell BK127.out 1).trans rfl
       have hcz117_2 : wc.cell? ⟨gb127, 2, none⟩ = some (.string x128002_1) := (blk_cell BK127.out 2).trans rfl
       have hcz117_3 : wc.cell? ⟨gb127, 3, none⟩ = some (.string x128003_1) := (blk_cell BK127.out 3).trans rfl
       have hcz117_4 : wc.cell? ⟨gb127, 4, none⟩ = some (.slice none 0 0) := (blk_cell BK127.out 4).trans rfl
       have hcz117_5 : wc.cell? ⟨gb127, 5, none⟩ = some (.string x128005_1) := (blk_cell BK127.out 5).trans rfl
       have hcz117_6 : wc.cell? ⟨gb127, 6, none⟩ = some (.slice none 0 0) := (blk_cell BK127.out 6).trans rfl
       have hfz117_0 := blk_frozen BK127.out 0
       have hfz117_1 := blk_frozen BK127.out 1
       have hfz117_2 := blk_frozen BK127.out 2
       have hfz117_3 := blk_frozen BK127.out 3
       have hfz117_4 := blk_frozen BK127.out 4
       have hfz117_5 := blk_frozen BK127.out 5
       have hfz117_6 := blk_frozen BK127.out 6
       go_wp2
       refine bodyPost_ret (results_ct rfl _ _ gb127 24 #[.string (⟨#[]⟩ : ByteArray), .string (⟨#[]⟩ : ByteArray), .string (⟨#[]⟩ : ByteArray), .string (⟨#[]⟩ : ByteArray), .slice none 0 0, .string (⟨#[]⟩ : ByteArray), .slice none 0 0] (0, 0) _ rfl (by (with_reducible repeat (first | refine blk_drewN ?_ _ | refine blk_drew ?_ | refine blk_alloc ?_ _)); refine blk_put (cs := #[.string (⟨#[]⟩ : ByteArray), .string (⟨#[]⟩ : ByteArray), .string (⟨#[]⟩ : ByteArray), .string (⟨#[]⟩ : ByteArray), .slice none 0 0, .string (⟨#[]⟩ : ByteArray), .slice none 0 0]) ?_ 6 _ rfl; (with_reducible repeat (first | refine blk_drewN ?_ _ | refine blk_drew ?_ | refine blk_alloc ?_ _)); refine blk_put (cs := #[.string (⟨#[]⟩ : ByteArray), .string (⟨#[]⟩ : ByteArray), .string (⟨#[]⟩ : ByteArray), .string (⟨#[]⟩ : ByteArray), .slice none 0 0, .string x128005_1, .slice none 0 0]) ?_ 5 _ rfl; (with_reducible repeat (first | refine blk_drewN ?_ _ | refine blk_drew ?_ | refine blk_alloc ?_ _)); refine blk_put (cs := #[.string (⟨#[]⟩ : ByteArray), .string (⟨#[]⟩ : ByteArray), .string (⟨#[]⟩ : ByteArray), .string (⟨#[]⟩ : ByteArray), .slice none 0 0, .string x128005_1, .slice none 0 0]) ?_ 4 _ rfl; (with_reducible repeat (first | refine blk_drewN ?_ _ | refine blk_drew ?_ | refine blk_alloc ?_ _)); refine blk_put (cs := #[.string (⟨#[]⟩ : ByteArray), .string (⟨#[]⟩ : ByteArray), .string (⟨#[]⟩ : ByteArray), .string x128003_1, .slice none 0 0, .string x128005_1, .slice none 0 0]) ?_ 3 _ rfl; (with_reducible repeat (first | refine blk_drewN ?_ _ | refine blk_drew ?_ | refine blk_alloc ?_ _)); refine blk_put (cs := #[.string (⟨#[]⟩ : ByteArray), .string (⟨#[]⟩ : ByteArray), .string x128002_1, .string x128003_1, .slice none 0 0, .string x128005_1, .slice none 0 0]) ?_ 2 _ rfl; (with_reducible repeat (first | refine blk_drewN ?_ _ | refine blk_drew ?_ | refine blk_alloc ?_ _)); refine blk_put (cs := #[.string (⟨#[]⟩ : ByteArray), .string x128001_1, .string x128002_1, .string x128003_1, .slice none 0 0, .string x128005_1, .slice none 0 0]) ?_ 1 _ rfl; (with_reducible repeat (first | refine blk_drewN ?_ _ | refine blk_drew ?_ | refine blk_alloc ?_ _)); refine blk_put (cs := #[.string x128000_1, .string x128001_1, .string x128002_1, .string x128003_1, .slice none 0 0, .string x128005_1, .slice none 0 0]) ?_ 0 _ rfl; (with_reducible repeat (first | refine blk_drewN ?_ _ | refine blk_drew ?_ | refine blk_alloc ?_ _)); exact BK127.out) Tryd.underlying24 rfl (by kernel_rfl)) rfl ?_
       exact ⟨_, _, by first | rfl | (simp [errW_none, errW_some] <;> rfl) | (simp [*, errW_none, errW_some] <;> rfl), by first | exact Kd.R_nil _ _ _ _ _ | exact Kd.N_nil _ _ _ _ _ | exact Kd.V_nil _ _ _ _ _ | exact Kd.Q_nil _ _ _ _ _ | exact Kd.S_nil _ _ _ _ _, by first | exact Kd.R_nil _ _ _ _ _ | exact Kd.N_nil _ _ _ _ _ | exact Kd.V_nil _ _ _ _ _ | exact Kd.Q_nil _ _ _ _ _ | exact Kd.S_nil _ _ _ _ _, by repeat (first | (with_reducible first | exact HB.out | apply below_alloc | apply pw_below_drewN | apply below_drew1 | refine below_set ?_ GE127.out | refine below_set ?_ GE128.out) | exact HB.out)⟩
      ·
       replace c115 := Bool.eq_false_iff.mpr c115
       subst c115
       have H1 : ((mget.f x4_1 (⟨#[58, 97, 117, 116, 104, 111, 114, 105, 116, 121]⟩ : ByteArray)).bind fun bt150 => ((mget.f x4_1 (⟨#[104, 111, 115, 116]⟩ : ByteArray)).bind fun bt152 => (if bt150.2 = true then (if bt152.2 = true then (msg_Two.j4 kj93 bt150.1 bt150.2 bt152.1 (bt150.1.toList != bt152.1.toList) t144 t145 (⟨#[]⟩ : ByteArray) t146 x129004_1 (⟨#[]⟩ : ByteArray)) else (msg_Two.j4 kj93 bt150.1 bt150.2 bt152.1 false t144 t145 (⟨#[]⟩ : ByteArray) t146 x129004_1 (⟨#[]⟩ : ByteArray))) else (msg_Two.j4 kj93 bt150.1 bt150.2 bt152.1 false t144 t145 (⟨#[]⟩ : ByteArray) t146 x129004_1 (⟨#[]⟩ : ByteArray))))) = some (r1, r2, r3, r4, r5, r6, r7, r8) := by rw [if_neg (show ¬ (false = true) by decide)] at H; exact H
       clear H
       have H := H1
       clear H1
       replace H := Option.bind_eq_some_iff.mp H
       obtain ⟨⟨t150, t151⟩, A1180, H⟩ := H
       replace H : ((mget.f x4_1 (⟨#[104, 111, 115, 116]⟩ : ByteArray)).bind fun bt152 => (if t151 = true then (if bt152.2 = true then (msg_Two.j4 kj93 t150 t151 bt152.1 (t150.toList != bt152.1.toList) t144 t145 (⟨#[]⟩ : ByteArray) t146 x129004_1 (⟨#[]⟩ : ByteArray)) else (msg_Two.j4 kj93 t150 t151 bt152.1 false t144 t145 (⟨#[]⟩ : ByteArray) t146 x129004_1 (⟨#[]⟩ : ByteArray))) else (msg_Two.j4 kj93 t150 t151 bt152.1 false t144 t145 (⟨#[]⟩ : ByteArray) t146 x129004_1 (⟨#[]⟩ : ByteArray)))) = some (r1, r2, r3, r4, r5, r6, r7, r8) := H
       have A118 := Aside0.mk A1180
       clear A1180
       replace H := Option.bind_eq_some_iff.mp H
       obtain ⟨⟨t152, t153⟩, A1190, H⟩ := H
       replace H : (if t151 = true then (if t153 = true then (msg_Two.j4 kj93 t150 t151 t152 (t150.toList != t152.toList) t144 t145 (⟨#[]⟩ : ByteArray) t146 x129004_1 (⟨#[]⟩ : ByteArray)) else (msg_Two.j4 kj93 t150 t151 t152 false t144 t145 (⟨#[]⟩ : ByteArray) t146 x129004_1 (⟨#[]⟩ : ByteArray))) else (msg_Two.j4 kj93 t150 t151 t152 false t144 t145 (⟨#[]⟩ : ByteArray) t146 x129004_1 (⟨#[]⟩ : ByteArray))) = some (r1, r2, r3, r4, r5, r6, r7, r8) := H
       have A119 := Aside0.mk A1190
       clear A1190
       have HC120 := Aside0.mk H
       clear H
       go_upto_region 33 with (first | ((with_reducible refine gate_dst (N := 126) rfl ?_); refine mgetL 126 rfl rfl _ _ rfl _ rfl rfl (by with_reducible repeat (first | exact HO_4.out | apply MR_alloc | apply MR_drewN | apply MR_drew | apply MR_set)) A118.out ?_; intro w121 hb; have n0_ := Aside0.mk (MR_below (by with_reducible repeat (first | exact HO_4.out | apply MR_alloc | apply MR_drewN | apply MR_drew | apply MR_set)) hb); have n1_ := Aside0.mk (Kd.R_below (by (with_reducible repeat (first | apply Kd.R_alloc | apply Kd.R_drewN | apply Kd.R_drew)); exact HO_129004.out) hb); have n2_ := Aside0.mk (blk_below (g := gb127) (o := .cells #[.string x128000_1, .string x128001_1, .string x128002_1, .string x128003_1, .slice none 0 0, .string x128005_1, .slice none 0 0] 24 (0, 0)) (by (with_reducible repeat (first | refine blk_drewN ?_ _ | refine blk_drew ?_ | refine blk_alloc ?_ _)); exact BK127.out) hb); have n3_ := Aside0.mk (blk_below (g := gb128) (o := .cells #[.string t144, .string t145, .string (⟨#[]⟩ : ByteArray), .string t146, u129004, .string (⟨#[]⟩ : ByteArray), .slice none 0 0] 24 (0, 0)) (by (with_reducible repeat (first | refine blk_drewN ?_ _ | refine blk_drew ?_ | refine blk_alloc ?_ _)); exact BK128.out) hb); have n4_ := Aside0.mk (below_step (by repeat (first | (with_reducible first | exact HB.out | apply below_alloc | apply pw_below_drewN | apply below_drew1 | refine below_set ?_ GE127.out | refine below_set ?_ GE128.out) | exact HB.out)) hb); clear HO_4; clear HO_129004; clear BK127; clear BK128; clear HB; have HO_4 := n0_; have HO_129004 := n1_; have BK127 := n2_; have BK128 := n3_; have HB := n4_; clear n0_ n1_ n2_ n3_ n4_; (try clear hb); (try clear hb2); (try clear hk); (try clear hi)) | ((with_reducible refine gate_dst (N := 131) rfl ?_); refine mgetL 131 rfl rfl _ _ rfl _ rfl rfl (by with_reducible repeat (first | exact HO_4.out | apply MR_alloc | apply MR_drewN | apply MR_drew | apply MR_set)) A119.out ?_; intro w122 hb; have n0_ := Aside0.mk (MR_below (by with_reducible repeat (first | exact HO_4.out | apply MR_alloc | apply MR_drewN | apply MR_drew | apply MR_set)) hb); have n1_ := Aside0.mk (Kd.R_below (by (with_reducible repeat (first | apply Kd.R_alloc | apply Kd.R_drewN | apply Kd.R_drew)); exact HO_129004.out) hb); have n2_ := Aside0.mk (blk_below (g := gb127) (o := .cells #[.string x128000_1, .string x128001_1, .string x128002_1, .string x128003_1, .slice none 0 0, .string x128005_1, .slice none 0 0] 24 (0, 0)) (by (with_reducible repeat (first | refine blk_drewN ?_ _ | refine blk_drew ?_ | refine blk_alloc ?_ _)); exact BK127.out) hb); have n3_ := Aside0.mk (blk_below (g := gb128) (o := .cells #[.string t144, .string t145, .string (⟨#[]⟩ : ByteArray), .string t146, u129004, .string (⟨#[]⟩ : ByteArray), .slice none 0 0] 24 (0, 0)) (by (with_reducible repeat (first | refine blk_drewN ?_ _ | refine blk_drew ?_ | refine blk_alloc ?_ _)); exact BK128.out) hb); have n4_ := Aside0.mk (below_step (by repeat (first | (with_reducible first | exact HB.out | apply below_alloc | apply pw_below_drewN | apply below_drew1 | refine below_set ?_ GE127.out | refine below_set ?_ GE128.out) | exact HB.out)) hb); clear HO_4; clear HO_129004; clear BK127; clear BK128; clear HB; have HO_4 := n0_; have HO_129004 := n1_; have BK127 := n2_; have BK128 := n3_; have HB := n4_; clear n0_ n1_ n2_ n3_ n4_; (try clear hb); (try clear hb2); (try clear hk); (try clear hi)))
       (try simp only [Act.put, List.setIfInBounds_toArray, List.set_cons_zero, List.set_cons_succ])
       go_cut [142] (fun v142 wc => ∃ (kq : Nat) (x142_119 : Bool), v142 = .bool x142_119 ∧ Aside0 (msg_Two.j4 kq t150 t151 t152 x142_119 t144 t145 (⟨#[]⟩ : ByteArray) t146 x129004_1 (⟨#[]⟩ : ByteArray) = some (r1, r2, r3, r4, r5, r6, r7, r8)) ∧ Aside0 (kq ≤ kj93) ∧ Aside0 (Kd.R k30 30 wc w.heap.size (fun _ => True) u129004 x129004_1) ∧ Aside0 (wc.heap[gb127]? = some (.cells #[.string x128000_1, .string x128001_1, .string x128002_1, .string x128003_1, (.slice none 0 0), .string x128005_1, (.slice none 0 0)] 24 (0, 0))) ∧ Aside0 (wc.heap[gb128]? = some (.cells #[.string t144, .string t145, .string (⟨#[]⟩ : ByteArray), .string t146, u129004, .string (⟨#[]⟩ : ByteArray), (.slice none 0 0)] 24 (0, 0))) ∧ Aside0 (Below w.heap.size w wc))
       case first =>
        have H := HC120.out
        clear HC120
        by_cases c123 : t151 = true
        ·
         subst c123
         have H1 : (if t153 = true then (msg_Two.j4 kj93 t150 true t152 (t150.toList != t152.toList) t144 t145 (⟨#[]⟩ : ByteArray) t146 x129004_1 (⟨#[]⟩ : ByteArray)) else (msg_Two.j4 kj93 t150 true t152 false t144 t145 (⟨#[]⟩ : ByteArray) t146 x129004_1 (⟨#[]⟩ : ByteArray))) = some (r1, r2, r3, r4, r5, r6, r7, r8) := by rw [if_pos rfl] at H; exact H
         clear H
         have H := H1
         clear H1
         by_cases c124 : t153 = true
         ·
          subst c124
          have H1 : (msg_Two.j4 kj93 t150 true t152 (t150.toList != t152.toList) t144 t145 (⟨#[]⟩ : ByteArray) t146 x129004_1 (⟨#[]⟩ : ByteArray)) = some (r1, r2, r3, r4, r5, r6, r7, r8) := by rw [if_pos rfl] at H; exact H
          clear H
          have H := H1
          clear H1
          have H' := Aside0.mk H
          clear H
          go_wp2
          go_meet
          case rel => exact ⟨_, ((t150.toList != t152.toList)), (by first | rfl | (simp; done) | (simp [*]; done) | (simp [bne_nil_]; done) | (simp only [ByteArray.size_append, Int.natCast_add]; rfl)), H', ⟨by have := HK1.out; have := HJ93.out; first | omega | exact Nat.le_refl _⟩, ⟨by (with_reducible repeat (first | apply Kd.R_alloc | apply Kd.R_drewN | apply Kd.R_drew)); exact Kd.R_mono HO_129004.out (fun _ hk => trivial)⟩, ⟨by (with_reducible repeat (first | refine blk_drewN ?_ _ | refine blk_drew ?_ | refine blk_alloc ?_ _)); exact BK127.out⟩, ⟨by (with_reducible repeat (first | refine blk_drewN ?_ _ | refine blk_drew ?_ | refine blk_alloc ?_ _)); exact BK128.out⟩, ⟨by repeat (first | (with_reducible first | exact HB.out | apply below_alloc | apply pw_below_drewN | apply below_drew1 | refine below_set ?_ GE127.out | refine below_set ?_ GE128.out) | exact HB.out)⟩⟩
         ·
          replace c124 := Bool.eq_false_iff.mpr c124
          subst c124
          have H1 : (msg_Two.j4 kj93 t150 true t152 false t144 t145 (⟨#[]⟩ : ByteArray) t146 x129004_1 (⟨#[]⟩ : ByteArray)) = some (r1, r2, r3, r4, r5, r6, r7, r8) := by rw [if_neg (show ¬ (false = true) by decide)] at H; exact H
          clear H
          have H := H1
          clear H1
          have H' := Aside0.mk H
          clear H
          go_wp2
          go_meet
          case rel => exact ⟨_, (false), (by first | rfl | (simp; done) | (simp [*]; done) | (simp [bne_nil_]; done) | (simp only [ByteArray.size_append, Int.natCast_add]; rfl)), H', ⟨by have := HK1.out; have := HJ93.out; first | omega | exact Nat.le_refl _⟩, ⟨by (with_reducible repeat (first | apply Kd.R_alloc | apply Kd.R_drewN | apply Kd.R_drew)); exact Kd.R_mono HO_129004.out (fun _ hk => trivial)⟩, ⟨by (with_reducible repeat (first | refine blk_drewN ?_ _ | refine blk_drew ?_ | refine blk_alloc ?_ _)); exact BK127.out⟩, ⟨by (with_reducible repeat (first | refine blk_drewN ?_ _ | refine blk_drew ?_ | refine blk_alloc ?_ _)); exact BK128.out⟩, ⟨by repeat (first | (with_reducible first | exact HB.out | apply below_alloc | apply pw_below_drewN | apply below_drew1 | refine below_set ?_ GE127.out | refine below_set ?_ GE128.out) | exact HB.out)⟩⟩
        ·
         replace c123 := Bool.eq_false_iff.mpr c123
         subst c123
         have H1 : (msg_Two.j4 kj93 t150 false t152 false t144 t145 (⟨#[]⟩ : ByteArray) t146 x129004_1 (⟨#[]⟩ : ByteArray)) = some (r1, r2, r3, r4, r5, r6, r7, r8) := by rw [if_neg (show ¬ (false = true) by decide)] at H; exact H
         clear H
         have H := H1
         clear H1
         have H' := Aside0.mk H
         clear H
         go_wp2
         go_meet
         case rel => exact ⟨_, (false), (by first | rfl | (simp; done) | (simp [*]; done) | (simp [bne_nil_]; done) | (simp only [ByteArray.size_append, Int.natCast_add]; rfl)), H', ⟨by have := HK1.out; have := HJ93.out; first | omega | exact Nat.le_refl _⟩, ⟨by (with_reducible repeat (first | apply Kd.R_alloc | apply Kd.R_drewN | apply Kd.R_drew)); exact Kd.R_mono HO_129004.out (fun _ hk => trivial)⟩, ⟨by (with_reducible repeat (first | refine blk_drewN ?_ _ | refine blk_drew ?_ | refine blk_alloc ?_ _)); exact BK127.out⟩, ⟨by (with_reducible repeat (first | refine blk_drewN ?_ _ | refine blk_drew ?_ | refine blk_alloc ?_ _)); exact BK128.out⟩, ⟨by repeat (first | (with_reducible first | exact HB.out | apply below_alloc | apply pw_below_drewN | apply below_drew1 | refine below_set ?_ GE127.out | refine below_set ?_ GE128.out) | exact HB.out)⟩⟩
       case rest =>
        clear HC120
        try clear c1
        try clear p1
        try clear q1
        try clear hx1
        try clear c2
        try clear p2
        try clear c3
        try clear c4
        try clear c4b0
        try clear c5
        try clear c5b0
        try clear c6
        try clear c6b0
        try clear p6
        try clear c7
        try clear c8
        try clear c9
        try clear c10
        try clear c11
        try clear c12
        try clear p12
        try clear q12
        try clear hx12
        try clear c13
        try clear c15
        try clear c16
        try clear c17
        try clear c18
        try clear c18b0
        try clear c18b1
        try clear c19
        try clear c19b0
        try clear c19b1
        try clear c20
        try clear c20b0
        try clear c20b1
        try clear c21
        try clear c22
        try clear c23
        try clear c24
        try clear c26
        try clear c27
        try clear c28
        try clear c31
        try clear c32
        try clear c35
        try clear c36
        try clear c41
        try clear c42
        try clear c48
        try clear c49
        try clear c49b0
        try clear c49b1
        try clear c50
        try clear c50b0
        try clear c50b1
        try clear c51
        try clear c51b0
        try clear c51b1
        try clear c52
        try clear c53
        try clear c55
        try clear c56
        try clear c58
        try clear c59
        try clear c61
        try clear c61b0
        try clear c61b1
        try clear c62
        try clear c63
        try clear p64
        try clear c65
        try clear c66
        try clear c68
        try clear c69
        try clear c70
        try clear c72
        try clear c72b0
        try clear c72b1
        try clear c74
        try clear c75
        try clear c78
        try clear c78b0
        try clear c78b1
        try clear c79
        try clear c80
        try clear c82
        try clear c83
        try clear c84
        try clear c86
        try clear c99
        try clear c102
        try clear c103
        try clear c103b0
        try clear c103b1
        try clear c105
        try clear c107
        try clear c107b0
        try clear c107b1
        try clear c109
        try clear c111
        try clear c113
        try clear c115
        try clear c116
        try clear c123
        try clear c124
        try clear hcz100_0
        try clear hcz100_1
        try clear hcz100_2
        try clear hcz100_3
        try clear hcz100_4
        try clear hcz100_5
        try clear hcz100_6
        try clear hcz106_0
        try clear hcz106_1
        try clear hcz106_2
        try clear hcz106_3
        try clear hcz106_4
        try clear hcz106_5
        try clear hcz106_6
        try clear hcz110_0
        try clear hcz110_1
        try clear hcz110_2
        try clear hcz110_3
        try clear hcz110_4
        try clear hcz110_5
        try clear hcz110_6
        try clear hcz112_0
        try clear hcz112_1
        try clear hcz112_2
        try clear hcz112_3
        try clear hcz112_4
        try clear hcz112_5
        try clear hcz112_6
        try clear hcz114_0
        try clear hcz114_1
        try clear hcz114_2
        try clear hcz114_3
        try clear hcz114_4
        try clear hcz114_5
        try clear hcz114_6
        try clear hcz117_0
        try clear hcz117_1
        try clear hcz117_2
        try clear hcz117_3
        try clear hcz117_4
        try clear hcz117_5
        try clear hcz117_6
        try clear hcz14_0
        try clear hcz14_1
        try clear hcz17_0
        try clear hcz17_1
        try clear hcz25_0
        try clear hcz25_1
        try clear hcz25_2
        try clear hcz25_3
        try clear hcz25_4
        try clear hcz25_5
        try clear hcz25_6
        try clear hcz29_0
        try clear hcz29_1
        try clear hcz29_2
        try clear hcz29_3
        try clear hcz29_4
        try clear hcz29_5
        try clear hcz29_6
        try clear hcz33_0
        try clear hcz33_1
        try clear hcz37_0
        try clear hcz37_1
        try clear hcz37_2
        try clear hcz37_3
        try clear hcz37_4
        try clear hcz37_5
        try clear hcz37_6
        try clear hcz43_0
        try clear hcz43_1
        try clear hcz46_0
        try clear hcz46_1
        try clear hcz54_0
        try clear hcz54_1
        try clear hcz57_0
        try clear hcz57_1
        try clear hcz60_0
        try clear hcz60_1
        try clear hcz64_0
        try clear hcz64_1
        try clear hcz67_0
        try clear hcz67_1
        try clear hcz71_0
        try clear hcz71_1
        try clear hcz71_2
        try clear hcz71_3
        try clear hcz71_4
        try clear hcz71_5
        try clear hcz71_6
        try clear hcz76_0
        try clear hcz76_1
        try clear hcz81_0
        try clear hcz81_1
        try clear hcz85_0
        try clear hcz85_1
        try clear hcz87_0
        try clear hcz87_1
        try clear hcz87_2
        try clear hcz87_3
        try clear hcz87_4
        try clear hcz87_5
        try clear hcz87_6
        try clear hcz90_0
        try clear hcz90_1
        try clear hcz90_2
        try clear hcz90_3
        try clear hcz90_4
        try clear hcz90_5
        try clear hcz90_6
        try clear hfz100_0
        try clear hfz100_1
        try clear hfz100_2
        try clear hfz100_3
        try clear hfz100_4
        try clear hfz100_5
        try clear hfz100_6
        try clear hfz106_0
        try clear hfz106_1
        try clear hfz106_2
        try clear hfz106_3
        try clear hfz106_4
        try clear hfz106_5
        try clear hfz106_6
        try clear hfz110_0
        try clear hfz110_1
        try clear hfz110_2
        try clear hfz110_3
        try clear hfz110_4
        try clear hfz110_5
        try clear hfz110_6
        try clear hfz112_0
        try clear hfz112_1
        try clear hfz112_2
        try clear hfz112_3
        try clear hfz112_4
        try clear hfz112_5
        try clear hfz112_6
        try clear hfz114_0
        try clear hfz114_1
        try clear hfz114_2
        try clear hfz114_3
        try clear hfz114_4
        try clear hfz114_5
        try clear hfz114_6
        try clear hfz117_0
        try clear hfz117_1
        try clear hfz117_2
        try clear hfz117_3
        try clear hfz117_4
        try clear hfz117_5
        try clear hfz117_6
        try clear hfz14_0
        try clear hfz14_1
        try clear hfz17_0
        try clear hfz17_1
        try clear hfz25_0
        try clear hfz25_1
        try clear hfz25_2
        try clear hfz25_3
        try clear hfz25_4
        try clear hfz25_5
        try clear hfz25_6
        try clear hfz29_0
        try clear hfz29_1
        try clear hfz29_2
        try clear hfz29_3
        try clear hfz29_4
        try clear hfz29_5
        try clear hfz29_6
        try clear hfz33_0
        try clear hfz33_1
        try clear hfz37_0
        try clear hfz37_1
        try clear hfz37_2
        try clear hfz37_3
        try clear hfz37_4
        try clear hfz37_5
        try clear hfz37_6
        try clear hfz43_0
        try clear hfz43_1
        try clear hfz46_0
        try clear hfz46_1
        try clear hfz54_0
        try clear hfz54_1
        try clear hfz57_0
        try clear hfz57_1
        try clear hfz60_0
        try clear hfz60_1
        try clear hfz64_0
        try clear hfz64_1
        try clear hfz67_0
        try clear hfz67_1
        try clear hfz71_0
        try clear hfz71_1
        try clear hfz71_2
        try clear hfz71_3
        try clear hfz71_4
        try clear hfz71_5
        try clear hfz71_6
        try clear hfz76_0
        try clear hfz76_1
        try clear hfz81_0
        try clear hfz81_1
        try clear hfz85_0
        try clear hfz85_1
        try clear hfz87_0
        try clear hfz87_1
        try clear hfz87_2
        try clear hfz87_3
        try clear hfz87_4
        try clear hfz87_5
        try clear hfz87_6
        try clear hfz90_0
        try clear hfz90_1
        try clear hfz90_2
        try clear hfz90_3
        try clear hfz90_4
        try clear hfz90_5
        try clear hfz90_6
        try clear hx129_0
        try clear hx129_1
        try clear p1
        try clear p12
        try clear p129
        try clear p2
        try clear p6
        try clear p64
        try clear q1
        try clear q12
        try clear q129
        obtain ⟨kq, x142_119, rfl, HA, HJ119, HO_129004, BK127, BK128, HB⟩ := hcut
        cases kq with
        | zero => exact absurd HA.out (by simp [msg_Two.j4])
        | succ kj119 =>
         have H := HA.out
         clear HA
         simp only [msg_Two.j4] at H
         by_cases c125 : x142_119 = true
         ·
          subst c125
          have H1 : (some ((⟨#[]⟩ : ByteArray), (⟨#[]⟩ : ByteArray), (⟨#[]⟩ : ByteArray), (⟨#[]⟩ : ByteArray), ([] : List (S30)), (⟨#[]⟩ : ByteArray), ([] : List (S30)), 141)) = some (r1, r2, r3, r4, r5, r6, r7, r8) := by rw [if_pos rfl] at H; exact H
          clear H
          have H := H1
          clear H1
          simp only [Option.some.injEq, Prod.mk.injEq] at H
          obtain ⟨rfl, rfl, rfl, rfl, rfl, rfl, rfl, rfl⟩ := H
          have hnb126 := NB127_128.out
          have hnc126 := NB128_127.out
          have hcz127_0 : wc.cell? ⟨gb127, 0, none⟩ = some (.string x128000_1) := (blk_cell BK127.out 0).trans rfl
          have hcz127_1 : wc.cell? ⟨gb127, 1, none⟩ = some (.string x128001_1) := (blk_cell BK127.out 1).trans rfl
          have hcz127_2 : wc.cell? ⟨gb127, 2, none⟩ = some (.string x128002_1) := (blk_cell BK127.out 2).trans rfl
          have hcz127_3 : wc.cell? ⟨gb127, 3, none⟩ = some (.string x128003_1) := (blk_cell BK127.out 3).trans rfl
          have hcz127_4 : wc.cell? ⟨gb127, 4, none⟩ = some (.slice none 0 0) := (blk_cell BK127.out 4).trans rfl
          have hcz127_5 : wc.cell? ⟨gb127, 5, none⟩ = some (.string x128005_1) := (blk_cell BK127.out 5).trans rfl
          have hcz127_6 : wc.cell? ⟨gb127, 6, none⟩ = some (.slice none 0 0) := (blk_cell BK127.out 6).trans rfl
          have hfz127_0 := blk_frozen BK127.out 0
          have hfz127_1 := blk_frozen BK127.out 1
          have hfz127_2 := blk_frozen BK127.out 2
          have hfz127_3 := blk_frozen BK127.out 3
          have hfz127_4 := blk_frozen BK127.out 4
          have hfz127_5 := blk_frozen BK127.out 5
          have hfz127_6 := blk_frozen BK127.out 6
          go_wp2
          refine bodyPost_ret (results_ct rfl _ _ gb127 24 #[.string (⟨#[]⟩ : ByteArray), .string (⟨#[]⟩ : ByteArray), .string (⟨#[]⟩ : ByteArray), .string (⟨#[]⟩ : ByteArray), .slice none 0 0, .string (⟨#[]⟩ : ByteArray), .slice none 0 0] (0, 0) _ rfl (by (with_reducible repeat (first | refine blk_drewN ?_ _ | refine blk_drew ?_ | refine blk_alloc ?_ _)); refine blk_put (cs := #[.string (⟨#[]⟩ : ByteArray), .string (⟨#[]⟩ : ByteArray), .string (⟨#[]⟩ : ByteArray), .string (⟨#[]⟩ : ByteArray), .slice none 0 0, .string (⟨#[]⟩ : ByteArray), .slice none 0 0]) ?_ 6 _ rfl; (with_reducible repeat (first | refine blk_drewN ?_ _ | refine blk_drew ?_ | refine blk_alloc ?_ _)); refine blk_put (cs := #[.string (⟨#[]⟩ : ByteArray), .string (⟨#[]⟩ : ByteArray), .string (⟨#[]⟩ : ByteArray), .string (⟨#[]⟩ : ByteArray), .slice none 0 0, .string x128005_1, .slice none 0 0]) ?_ 5 _ rfl; (with_reducible repeat (first | refine blk_drewN ?_ _ | refine blk_drew ?_ | refine blk_alloc ?_ _)); refine blk_put (cs := #[.string (⟨#[]⟩ : ByteArray), .string (⟨#[]⟩ : ByteArray), .string (⟨#[]⟩ : ByteArray), .string (⟨#[]⟩ : ByteArray), .slice none 0 0, .string x128005_1, .slice none 0 0]) ?_ 4 _ rfl; (with_reducible repeat (first | refine blk_drewN ?_ _ | refine blk_drew ?_ | refine blk_alloc ?_ _)); refine blk_put (cs := #[.string (⟨#[]⟩ : ByteArray), .string (⟨#[]⟩ : ByteArray), .string (⟨#[]⟩ : ByteArray), .string x128003_1, .slice none 0 0, .string x128005_1, .slice none 0 0]) ?_ 3 _ rfl; (with_reducible repeat (first | refine blk_drewN ?_ _ | refine blk_drew ?_ | refine blk_alloc ?_ _)); refine blk_put (cs := #[.string (⟨#[]⟩ : ByteArray), .string (⟨#[]⟩ : ByteArray), .string x128002_1, .string x128003_1, .slice none 0 0, .string x128005_1, .slice none 0 0]) ?_ 2 _ rfl; (with_reducible repeat (first | refine blk_drewN ?_ _ | refine blk_drew ?_ | refine blk_alloc ?_ _)); refine blk_put (cs := #[.string (⟨#[]⟩ : ByteArray), .string x128001_1, .string x128002_1, .string x128003_1, .slice none 0 0, .string x128005_1, .slice none 0 0]) ?_ 1 _ rfl; (with_reducible repeat (first | refine blk_drewN ?_ _ | refine blk_drew ?_ | refine blk_alloc ?_ _)); refine blk_put (cs := #[.string x128000_1, .string x128001_1, .string x128002_1, .string x128003_1, .slice none 0 0, .string x128005_1, .slice none 0 0]) ?_ 0 _ rfl; (with_reducible repeat (first | refine blk_drewN ?_ _ | refine blk_drew ?_ | refine blk_alloc ?_ _)); exact BK127.out) Tryd.underlying24 rfl (by kernel_rfl)) rfl ?_
          exact ⟨_, _, by first | rfl | (simp [errW_none, errW_some] <;> rfl) | (simp [*, errW_none, errW_some] <;> rfl), by first | exact Kd.R_nil _ _ _ _ _ | exact Kd.N_nil _ _ _ _ _ | exact Kd.V_nil _ _ _ _ _ | exact Kd.Q_nil _ _ _ _ _ | exact Kd.S_nil _ _ _ _ _, by first | exact Kd.R_nil _ _ _ _ _ | exact Kd.N_nil _ _ _ _ _ | exact Kd.V_nil _ _ _ _ _ | exact Kd.Q_nil _ _ _ _ _ | exact Kd.S_nil _ _ _ _ _, by repeat (first | (with_reducible first | exact HB.out | apply below_alloc | apply pw_below_drewN | apply below_drew1 | refine below_set ?_ GE127.out | refine below_set ?_ GE128.out) | exact HB.out)⟩
         ·
          replace c125 := Bool.eq_false_iff.mpr c125
          subst c125
          have H1 : (if t151 = true then ((msg_Length.f kj119 x129004_1).bind fun bt154 => (if bt154.2.2 = 0 then (some (t144, t145, t150, t146, x129004_1, (⟨#[]⟩ : ByteArray), ([] : List (S30)), 0)) else (some ((⟨#[]⟩ : ByteArray), (⟨#[]⟩ : ByteArray), (⟨#[]⟩ : ByteArray), (⟨#[]⟩ : ByteArray), ([] : List (S30)), (⟨#[]⟩ : ByteArray), ([] : List (S30)), bt154.2.2)))) else ((msg_Length.f kj119 x129004_1).bind fun bt157 => (if bt157.2.2 = 0 then (some (t144, t145, t152, t146, x129004_1, (⟨#[]⟩ : ByteArray), ([] : List (S30)), 0)) else (some ((⟨#[]⟩ : ByteArray), (⟨#[]⟩ : ByteArray), (⟨#[]⟩ : ByteArray), (⟨#[]⟩ : ByteArray), ([] : List (S30)), (⟨#[]⟩ : ByteArray), ([] : List (S30)), bt157.2.2))))) = some (r1, r2, r3, r4, r5, r6, r7, r8) := by rw [if_neg (show ¬ (false = true) by decide)] at H; exact H
          clear H
          have H := H1
          clear H1
          by_cases c128 : t151 = true
          ·
           subst c128
           have H1 : ((msg_Length.f kj119 x129004_1).bind fun bt154 => (if bt154.2.2 = 0 then (some (t144, t145, t150, t146, x129004_1, (⟨#[]⟩ : ByteArray), ([] : List (S30)), 0)) else (some ((⟨#[]⟩ : ByteArray), (⟨#[]⟩ : ByteArray), (⟨#[]⟩ : ByteArray), (⟨#[]⟩ : ByteArray), ([] : List (S30)), (⟨#[]⟩ : ByteArray), ([] : List (S30)), bt154.2.2)))) = some (r1, r2, r3, r4, r5, r6, r7, r8) := by rw [if_pos rfl] at H; exact H
           clear H
           have H := H1
           clear H1
           replace H := Option.bind_eq_some_iff.mp H
           obtain ⟨⟨t154, t155, t156⟩, A1290, H⟩ := H
           replace H : (if t156 = 0 then (some (t144, t145, t150, t146, x129004_1, (⟨#[]⟩ : ByteArray), ([] : List (S30)), 0)) else (some ((⟨#[]⟩ : ByteArray), (⟨#[]⟩ : ByteArray), (⟨#[]⟩ : ByteArray), (⟨#[]⟩ : ByteArray), ([] : List (S30)), (⟨#[]⟩ : ByteArray), ([] : List (S30)), t156))) = some (r1, r2, r3, r4, r5, r6, r7, r8) := H
           have A129 := Aside0.mk A1290
           clear A1290
           by_cases c130 : t156 = 0
           ·
            rw [if_pos c130] at H
            have c130b0 : (t156 == 0) = true := beq_iff_eq.mpr c130
            have c130b1 : (t156 != 0) = false := bne_eq_false_iff_eq.mpr c130
            clear c130
            simp only [Option.some.injEq, Prod.mk.injEq] at H
            obtain ⟨rfl, rfl, rfl, rfl, rfl, rfl, rfl, rfl⟩ := H
            have hnb131 := NB128_127.out
            have hnc131 := NB127_128.out
            have hcz132_0 : wc.cell? ⟨gb128, 0, none⟩ = some (.string t144) := (blk_cell BK128.out 0).trans rfl
            have hcz132_1 : wc.cell? ⟨gb128, 1, none⟩ = some (.string t145) := (blk_cell BK128.out 1).trans rfl
            have hcz132_2 : wc.cell? ⟨gb128, 2, none⟩ = some (.string (⟨#[]⟩ : ByteArray)) := (blk_cell BK128.out 2).trans rfl
            have hcz132_3 : wc.cell? ⟨gb128, 3, none⟩ = some (.string t146) := (blk_cell BK128.out 3).trans rfl
            have hcz132_4 : wc.cell? ⟨gb128, 4, none⟩ = some (u129004) := (blk_cell BK128.out 4).trans rfl
            have hcz132_5 : wc.cell? ⟨gb128, 5, none⟩ = some (.string (⟨#[]⟩ : ByteArray)) := (blk_cell BK128.out 5).trans rfl
            have hcz132_6 : wc.cell? ⟨gb128, 6, none⟩ = some (.slice none 0 0) := (blk_cell BK128.out 6).trans rfl
            have hfz132_0 := blk_frozen BK128.out 0
            have hfz132_1 := blk_frozen BK128.out 1
            have hfz132_2 := blk_frozen BK128.out 2
            have hfz132_3 := blk_frozen BK128.out 3
            have hfz132_4 := blk_frozen BK128.out 4
            have hfz132_5 := blk_frozen BK128.out 5
            have hfz132_6 := blk_frozen BK128.out 6
            obtain ⟨Ao133, co133, eo133⟩ := Kd.R_slice HO_129004.out
            subst eo133
            go_wp2_with (first | ((with_reducible refine gate_callee (f := 19) rfl ?_); refine goesL_ (some 153) rfl rfl Tryd.func19 (by kernel_rfl) rfl #[.slice Ao133 x129004_1.length co133] rfl (by (try simp only [List.map_toArray, List.map_cons, List.map_nil]); first | done | rfl | (simp only [List.length_drop, List.length_take]; rfl)) ?_; (with_reducible refine (msg_Length.calls kj119 _ _ x129004_1 t154 t155 t156 _ ?side1 ?side2 ?side3 A129.out).mono ?_); (case side1 => exact GI.below HG.out (by repeat (first | (with_reducible first | exact HB.out | apply below_alloc | apply pw_below_drewN | apply below_drew1 | refine below_set ?_ GE127.out | refine below_set ?_ GE128.out) | exact HB.out))); (case side2 => refine (Kd.R_reads' (e := 30) (base := w.heap.size) (ok := fun k_ => True) (n := x129004_1.length) (c := co133) ?_).2.2; exact (by (with_reducible repeat (first | apply Kd.R_alloc | apply Kd.R_drewN | apply Kd.R_drew)); exact (Kd.R_mono (Kd.R_far (p := ⟨gb128, 2, none⟩) (Kd.R_types HO_129004.out BK128.out (by decide)) (fun _ hk => hk.2) (.string t150)) (fun _ h_ => h_.1)))); (case side3 => exact (Kd.R_reads' HO_129004.out).2.1); rintro e w134 ⟨rfl, hb⟩; refine ⟨_, rfl, ?_⟩; have n0_ := Aside0.mk (Kd.R_below (by (with_reducible repeat (first | apply Kd.R_alloc | apply Kd.R_drewN | apply Kd.R_drew)); exact (Kd.R_mono (Kd.R_far (p := ⟨gb128, 2, none⟩) (Kd.R_types HO_129004.out BK128.out (by decide)) (fun _ hk => hk.2) (.string t150)) (fun _ h_ => h_.1))) hb); have n1_ := Aside0.mk (blk_below (g := gb127) (o := .cells #[.string x128000_1, .string x128001_1, .string x128002_1, .string x128003_1, .slice none 0 0, .string x128005_1, .slice none 0 0] 24 (0, 0)) (by (with_reducible repeat (first | refine blk_drewN ?_ _ | refine blk_drew ?_ | refine blk_alloc ?_ _)); refine blk_far ?_ NB127_128.out _; (with_reducible repeat (first | refine blk_drewN ?_ _ | refine blk_drew ?_ | refine blk_alloc ?_ _)); exact BK127.out) hb); have n2_ := Aside0.mk (blk_below (g := gb128) (o := .cells #[.string t144, .string t145, .string t150, .string t146, .slice Ao133 x129004_1.length co133, .string (⟨#[]⟩ : ByteArray), .slice none 0 0] 24 (0, 0)) (by (with_reducible repeat (first | refine blk_drewN ?_ _ | refine blk_drew ?_ | refine blk_alloc ?_ _)); refine blk_put (cs := #[.string t144, .string t145, .string (⟨#[]⟩ : ByteArray), .string t146, .slice Ao133 x129004_1.length co133, .string (⟨#[]⟩ : ByteArray), .slice none 0 0]) ?_ 2 _ rfl; (with_reducible repeat (first | refine blk_drewN ?_ _ | refine blk_drew ?_ | refine blk_alloc ?_ _)); exact BK128.out) hb); have n3_ := Aside0.mk (below_step (by repeat (first | (with_reducible first | exact HB.out | apply below_alloc | apply pw_below_drewN | apply below_drew1 | refine below_set ?_ GE127.out | refine below_set ?_ GE128.out) | exact HB.out)) hb); clear HO_129004; clear BK127; clear BK128; clear HB; have HO_129004 := n0_; have BK127 := n1_; have BK128 := n2_; have HB := n3_; clear n0_ n1_ n2_ n3_; (try clear hb); (try clear hb2); (try clear hk); (try clear hi); have hcz135_0 : w134.cell? ⟨gb128, 0, none⟩ = some (.string t144) := (blk_cell BK128.out 0).trans rfl; have hcz135_1 : w134.cell? ⟨gb128, 1, none⟩ = some (.string t145) := (blk_cell BK128.out 1).trans rfl; have hcz135_2 : w134.cell? ⟨gb128, 2, none⟩ = some (.string t150) := (blk_cell BK128.out 2).trans rfl; have hcz135_3 : w134.cell? ⟨gb128, 3, none⟩ = some (.string t146) := (blk_cell BK128.out 3).trans rfl; have hcz135_4 : w134.cell? ⟨gb128, 4, none⟩ = some (.slice Ao133 x129004_1.length co133) := (blk_cell BK128.out 4).trans rfl; have hcz135_5 : w134.cell? ⟨gb128, 5, none⟩ = some (.string (⟨#[]⟩ : ByteArray)) := (blk_cell BK128.out 5).trans rfl; have hcz135_6 : w134.cell? ⟨gb128, 6, none⟩ = some (.slice none 0 0) := (blk_cell BK128.out 6).trans rfl; have hfz135_0 := blk_frozen BK128.out 0; have hfz135_1 := blk_frozen BK128.out 1; have hfz135_2 := blk_frozen BK128.out 2; have hfz135_3 := blk_frozen BK128.out 3; have hfz135_4 := blk_frozen BK128.out 4; have hfz135_5 := blk_frozen BK128.out 5; have hfz135_6 := blk_frozen BK128.out 6; have hcz136_0 : w134.cell? ⟨gb127, 0, none⟩ = some (.string x128000_1) := (blk_cell BK127.out 0).trans rfl; have hcz136_1 : w134.cell? ⟨gb127, 1, none⟩ = some (.string x128001_1) := (blk_cell BK127.out 1).trans rfl; have hcz136_2 : w134.cell? ⟨gb127, 2, none⟩ = some (.string x128002_1) := (blk_cell BK127.out 2).trans rfl; have hcz136_3 : w134.cell? ⟨gb127, 3, none⟩ = some (.string x128003_1) := (blk_cell BK127.out 3).trans rfl; have hcz136_4 : w134.cell? ⟨gb127, 4, none⟩ = some (.slice none 0 0) := (blk_cell BK127.out 4).trans rfl; have hcz136_5 : w134.cell? ⟨gb127, 5, none⟩ = some (.string x128005_1) := (blk_cell BK127.out 5).trans rfl; have hcz136_6 : w134.cell? ⟨gb127, 6, none⟩ = some (.slice none 0 0) := (blk_cell BK127.out 6).trans rfl; have hfz136_0 := blk_frozen BK127.out 0; have hfz136_1 := blk_frozen BK127.out 1; have hfz136_2 := blk_frozen BK127.out 2; have hfz136_3 := blk_frozen BK127.out 3; have hfz136_4 := blk_frozen BK127.out 4; have hfz136_5 := blk_frozen BK127.out 5; have hfz136_6 := blk_frozen BK127.out 6))
            refine bodyPost_ret (results_ct rfl _ _ gb127 24 #[.string t144, .string t145, .string t150, .string t146, .slice Ao133 x129004_1.length co133, .string (⟨#[]⟩ : ByteArray), .slice none 0 0] (0, 0) _ rfl (by (with_reducible repeat (first | refine blk_drewN ?_ _ | refine blk_drew ?_ | refine blk_alloc ?_ _)); refine blk_put (cs := #[.string t144, .string t145, .string t150, .string t146, .slice Ao133 x129004_1.length co133, .string (⟨#[]⟩ : ByteArray), .slice none 0 0]) ?_ 6 _ rfl; (with_reducible repeat (first | refine blk_drewN ?_ _ | refine blk_drew ?_ | refine blk_alloc ?_ _)); refine blk_put (cs := #[.string t144, .string t145, .string t150, .string t146, .slice Ao133 x129004_1.length co133, .string x128005_1, .slice none 0 0]) ?_ 5 _ rfl; (with_reducible repeat (first | refine blk_drewN ?_ _ | refine blk_drew ?_ | refine blk_alloc ?_ _)); refine blk_put (cs := #[.string t144, .string t145, .string t150, .string t146, .slice none 0 0, .string x128005_1, .slice none 0 0]) ?_ 4 _ rfl; (with_reducible repeat (first | refine blk_drewN ?_ _ | refine blk_drew ?_ | refine blk_alloc ?_ _)); refine blk_put (cs := #[.string t144, .string t145, .string t150, .string x128003_1, .slice none 0 0, .string x128005_1, .slice none 0 0]) ?_ 3 _ rfl; (with_reducible repeat (first | refine blk_drewN ?_ _ | refine blk_drew ?_ | refine blk_alloc ?_ _)); refine blk_put (cs := #[.string t144, .string t145, .string x128002_1, .string x128003_1, .slice none 0 0, .string x128005_1, .slice none 0 0]) ?_ 2 _ rfl; (with_reducible repeat (first | refine blk_drewN ?_ _ | refine blk_drew ?_ | refine blk_alloc ?_ _)); refine blk_put (cs := #[.string t144, .string x128001_1, .string x128002_1, .string x128003_1, .slice none 0 0, .string x128005_1, .slice none 0 0]) ?_ 1 _ rfl; (with_reducible repeat (first | refine blk_drewN ?_ _ | refine blk_drew ?_ | refine blk_alloc ?_ _)); refine blk_put (cs := #[.string x128000_1, .string x128001_1, .string x128002_1, .string x128003_1, .slice none 0 0, .string x128005_1, .slice none 0 0]) ?_ 0 _ rfl; (with_reducible repeat (first | refine blk_drewN ?_ _ | refine blk_drew ?_ | refine blk_alloc ?_ _)); exact BK127.out) Tryd.underlying24 rfl (by kernel_rfl)) rfl ?_
            exact ⟨_, _, by first | rfl | (simp [errW_none, errW_some] <;> rfl) | (simp [*, errW_none, errW_some] <;> rfl), by (with_reducible repeat (first | apply Kd.R_alloc | apply Kd.R_drewN | apply Kd.R_drew)); exact Kd.R_mono (Kd.R_far (p := ⟨gb127, 6, none⟩) (Kd.R_far (p := ⟨gb127, 5, none⟩) (Kd.R_far (p := ⟨gb127, 4, none⟩) (Kd.R_far (p := ⟨gb127, 3, none⟩) (Kd.R_far (p := ⟨gb127, 2, none⟩) (Kd.R_far (p := ⟨gb127, 1, none⟩) (Kd.R_far (p := ⟨gb127, 0, none⟩) (Kd.R_types HO_129004.out BK127.out (by decide)) (fun _ hk => hk.2) (.string t144)) (fun _ hk => hk.2) (.string t145)) (fun _ hk => hk.2) (.string t150)) (fun _ hk => hk.2) (.string t146)) (fun _ hk => hk.2) (.slice Ao133 x129004_1.length co133)) (fun _ hk => hk.2) (.string (⟨#[]⟩ : ByteArray))) (fun _ hk => hk.2) (.slice none 0 0)) (fun _ hk => (by simp [Value.ownBlock])), by first | exact Kd.R_nil _ _ _ _ _ | exact Kd.N_nil _ _ _ _ _ | exact Kd.V_nil _ _ _ _ _ | exact Kd.Q_nil _ _ _ _ _ | exact Kd.S_nil _ _ _ _ _, by repeat (first | (with_reducible first | exact HB.out | apply below_alloc | apply pw_below_drewN | apply below_drew1 | refine below_set ?_ GE127.out | refine below_set ?_ GE128.out) | exact HB.out)⟩
           ·
            rw [if_neg c130] at H
            have c130b0 : (t156 == 0) = false := beq_eq_false_iff_ne.mpr c130
            have c130b1 : (t156 != 0) = true := bne_iff_ne.mpr c130
            simp only [Option.some.injEq, Prod.mk.injEq] at H
            obtain ⟨rfl, rfl, rfl, rfl, rfl, rfl, rfl, rfl⟩ := H
            have hnb137 := NB128_127.out
            have hnc137 := NB127_128.out
            have hcz138_0 : wc.cell? ⟨gb128, 0, none⟩ = some (.string t144) := (blk_cell BK128.out 0).trans rfl
            have hcz138_1 : wc.cell? ⟨gb128, 1, none⟩ = some (.string t145) := (blk_cell BK128.out 1).trans rfl
            have hcz138_2 : wc.cell? ⟨gb128, 2, none⟩ = some (.string (⟨#[]⟩ : ByteArray)) := (blk_cell BK128.out 2).trans rfl
            have hcz138_3 : wc.cell? ⟨gb128, 3, none⟩ = some (.string t146) := (blk_cell BK128.out 3).trans rfl
            have hcz138_4 : wc.cell? ⟨gb128, 4, none⟩ = some (u129004) := (blk_cell BK128.out 4).trans rfl
            have hcz138_5 : wc.cell? ⟨gb128, 5, none⟩ = some (.string (⟨#[]⟩ : ByteArray)) := (blk_cell BK128.out 5).trans rfl
            have hcz138_6 : wc.cell? ⟨gb128, 6, none⟩ = some (.slice none 0 0) := (blk_cell BK128.out 6).trans rfl
            have hfz138_0 := blk_frozen BK128.out 0
            have hfz138_1 := blk_frozen BK128.out 1
            have hfz138_2 := blk_frozen BK128.out 2
            have hfz138_3 := blk_frozen BK128.out 3
            have hfz138_4 := blk_frozen BK128.out 4
            have hfz138_5 := blk_frozen BK128.out 5
            have hfz138_6 := blk_frozen BK128.out 6
            obtain ⟨Ao139, co139, eo139⟩ := Kd.R_slice HO_129004.out
            subst eo139
            go_wp2_with (first | ((with_reducible refine gate_callee (f := 19) rfl ?_); refine goesL_ (some 153) rfl rfl Tryd.func19 (by kernel_rfl) rfl #[.slice Ao139 x129004_1.length co139] rfl (by (try simp only [List.map_toArray, List.map_cons, List.map_nil]); first | done | rfl | (simp only [List.length_drop, List.length_take]; rfl)) ?_; (with_reducible refine (msg_Length.calls kj119 _ _ x129004_1 t154 t155 t156 _ ?side1 ?side2 ?side3 A129.out).mono ?_); (case side1 => exact GI.below HG.out (by repeat (first | (with_reducible first | exact HB.out | apply below_alloc | apply pw_below_drewN | apply below_drew1 | refine below_set ?_ GE127.out | refine below_set ?_ GE128.out) | exact HB.out))); (case side2 => refine (Kd.R_reads' (e := 30) (base := w.heap.size) (ok := fun k_ => True) (n := x129004_1.length) (c := co139) ?_).2.2; exact (by (with_reducible repeat (first | apply Kd.R_alloc | apply Kd.R_drewN | apply Kd.R_drew)); exact (Kd.R_mono (Kd.R_far (p := ⟨gb128, 2, none⟩) (Kd.R_types HO_129004.out BK128.out (by decide)) (fun _ hk => hk.2) (.string t150)) (fun _ h_ => h_.1)))); (case side3 => exact (Kd.R_reads' HO_129004.out).2.1); rintro e w140 ⟨rfl, hb⟩; refine ⟨_, rfl, ?_⟩; have n0_ := Aside0.mk (Kd.R_below (by (with_reducible repeat (first | apply Kd.R_alloc | apply Kd.R_drewN | apply Kd.R_drew)); exact (Kd.R_mono (Kd.R_far (p := ⟨gb128, 2, none⟩) (Kd.R_types HO_129004.out BK128.out (by decide)) (fun _ hk => hk.2) (.string t150)) (fun _ h_ => h_.1))) hb); have n1_ := Aside0.mk (blk_below (g := gb127) (o := .cells #[.string x128000_1, .string x128001_1, .string x128002_1, .string x128003_1, .slice none 0 0, .string x128005_1, .slice none 0 0] 24 (0, 0)) (by (with_reducible repeat (first | refine blk_drewN ?_ _ | refine blk_drew ?_ | refine blk_alloc ?_ _)); refine blk_far ?_ NB127_128.out _; (with_reducible repeat (first | refine blk_drewN ?_ _ | refine blk_drew ?_ | refine blk_alloc ?_ _)); exact BK127.out) hb); have n2_ := Aside0.mk (blk_below (g := gb128) (o := .cells #[.string t144, .string t145, .string t150, .string t146, .slice Ao139 x129004_1.length co139, .string (⟨#[]⟩ : ByteArray), .slice none 0 0] 24 (0, 0)) (by (with_reducible repeat (first | refine blk_drewN ?_ _ | refine blk_drew ?_ | refine blk_alloc ?_ _)); refine blk_put (cs := #[.string t144, .string t145, .string (⟨#[]⟩ : ByteArray), .string t146, .slice Ao139 x129004_1.length co139, .string (⟨#[]⟩ : ByteArray), .slice none 0 0]) ?_ 2 _ rfl; (with_reducible repeat (first | refine blk_drewN ?_ _ | refine blk_drew ?_ | refine blk_alloc ?_ _)); exact BK128.out) hb); have n3_ := Aside0.mk (below_step (by repeat (first | (with_reducible first | exact HB.out | apply below_alloc | apply pw_below_drewN | apply below_drew1 | refine below_set ?_ GE127.out | refine below_set ?_ GE128.out) | exact HB.out)) hb); clear HO_129004; clear BK127; clear BK128; clear HB; have HO_129004 := n0_; have BK127 := n1_; have BK128 := n2_; have HB := n3_; clear n0_ n1_ n2_ n3_; (try clear hb); (try clear hb2); (try clear hk); (try clear hi); have hcz141_0 : w140.cell? ⟨gb127, 0, none⟩ = some (.string x128000_1) := (blk_cell BK127.out 0).trans rfl; have hcz141_1 : w140.cell? ⟨gb127, 1, none⟩ = some (.string x128001_1) := (blk_cell BK127.out 1).trans rfl; have hcz141_2 : w140.cell? ⟨gb127, 2, none⟩ = some (.string x128002_1) := (blk_cell BK127.out 2).trans rfl; have hcz141_3 : w140.cell? ⟨gb127, 3, none⟩ = some (.string x128003_1) := (blk_cell BK127.out 3).trans rfl; have hcz141_4 : w140.cell? ⟨gb127, 4, none⟩ = some (.slice none 0 0) := (blk_cell BK127.out 4).trans rfl; have hcz141_5 : w140.cell? ⟨gb127, 5, none⟩ = some (.string x128005_1) := (blk_cell BK127.out 5).trans rfl; have hcz141_6 : w140.cell? ⟨gb127, 6, none⟩ = some (.slice none 0 0) := (blk_cell BK127.out 6).trans rfl; have hfz141_0 := blk_frozen BK127.out 0; have hfz141_1 := blk_frozen BK127.out 1; have hfz141_2 := blk_frozen BK127.out 2; have hfz141_3 := blk_frozen BK127.out 3; have hfz141_4 := blk_frozen BK127.out 4; have hfz141_5 := blk_frozen BK127.out 5; have hfz141_6 := blk_frozen BK127.out 6))
            refine bodyPost_ret (results_ct rfl _ _ gb127 24 #[.string (⟨#[]⟩ : ByteArray), .string (⟨#[]⟩ : ByteArray), .string (⟨#[]⟩ : ByteArray), .string (⟨#[]⟩ : ByteArray), .slice none 0 0, .string (⟨#[]⟩ : ByteArray), .slice none 0 0] (0, 0) _ rfl (by (with_reducible repeat (first | refine blk_drewN ?_ _ | refine blk_drew ?_ | refine blk_alloc ?_ _)); refine blk_put (cs := #[.string (⟨#[]⟩ : ByteArray), .string (⟨#[]⟩ : ByteArray), .string (⟨#[]⟩ : ByteArray), .string (⟨#[]⟩ : ByteArray), .slice none 0 0, .string (⟨#[]⟩ : ByteArray), .slice none 0 0]) ?_ 6 _ rfl; (with_reducible repeat (first | refine blk_drewN ?_ _ | refine blk_drew ?_ | refine blk_alloc ?_ _)); refine blk_put (cs := #[.string (⟨#[]⟩ : ByteArray), .string (⟨#[]⟩ : ByteArray), .string (⟨#[]⟩ : ByteArray), .string (⟨#[]⟩ : ByteArray), .slice none 0 0, .string x128005_1, .slice none 0 0]) ?_ 5 _ rfl; (with_reducible repeat (first | refine blk_drewN ?_ _ | refine blk_drew ?_ | refine blk_alloc ?_ _)); refine blk_put (cs := #[.string (⟨#[]⟩ : ByteArray), .string (⟨#[]⟩ : ByteArray), .string (⟨#[]⟩ : ByteArray), .string (⟨#[]⟩ : ByteArray), .slice none 0 0, .string x128005_1, .slice none 0 0]) ?_ 4 _ rfl; (with_reducible repeat (first | refine blk_drewN ?_ _ | refine blk_drew ?_ | refine blk_alloc ?_ _)); refine blk_put (cs := #[.string (⟨#[]⟩ : ByteArray), .string (⟨#[]⟩ : ByteArray), .string (⟨#[]⟩ : ByteArray), .string x128003_1, .slice none 0 0, .string x128005_1, .slice none 0 0]) ?_ 3 _ rfl; (with_reducible repeat (first | refine blk_drewN ?_ _ | refine blk_drew ?_ | refine blk_alloc ?_ _)); refine blk_put (cs := #[.string (⟨#[]⟩ : ByteArray), .string (⟨#[]⟩ : ByteArray), .string x128002_1, .string x128003_1, .slice none 0 0, .string x128005_1, .slice none 0 0]) ?_ 2 _ rfl; (with_reducible repeat (first | refine blk_drewN ?_ _ | refine blk_drew ?_ | refine blk_alloc ?_ _)); refine blk_put (cs := #[.string (⟨#[]⟩ : ByteArray), .string x128001_1, .string x128002_1, .string x128003_1, .slice none 0 0, .string x128005_1, .slice none 0 0]) ?_ 1 _ rfl; (with_reducible repeat (first | refine blk_drewN ?_ _ | refine blk_drew ?_ | refine blk_alloc ?_ _)); refine blk_put (cs := #[.string x128000_1, .string x128001_1, .string x128002_1, .string x128003_1, .slice none 0 0, .string x128005_1, .slice none 0 0]) ?_ 0 _ rfl; (with_reducible repeat (first | refine blk_drewN ?_ _ | refine blk_drew ?_ | refine blk_alloc ?_ _)); exact BK127.out) Tryd.underlying24 rfl (by kernel_rfl)) rfl ?_
            exact ⟨_, _, by first | rfl | (simp [errW_none, errW_some] <;> rfl) | (simp [*, errW_none, errW_some] <;> rfl), by first | exact Kd.R_nil _ _ _ _ _ | exact Kd.N_nil _ _ _ _ _ | exact Kd.V_nil _ _ _ _ _ | exact Kd.Q_nil _ _ _ _ _ | exact Kd.S_nil _ _ _ _ _, by first | exact Kd.R_nil _ _ _ _ _ | exact Kd.N_nil _ _ _ _ _ | exact Kd.V_nil _ _ _ _ _ | exact Kd.Q_nil _ _ _ _ _ | exact Kd.S_nil _ _ _ _ _, by repeat (first | (with_reducible first | exact HB.out | apply below_alloc | apply pw_below_drewN | apply below_drew1 | refine below_set ?_ GE127.out | refine below_set ?_ GE128.out) | exact HB.out)⟩
          ·
           replace c128 := Bool.eq_false_iff.mpr c128
           subst c128
           have H1 : ((msg_Length.f kj119 x129004_1).bind fun bt157 => (if bt157.2.2 = 0 then (some (t144, t145, t152, t146, x129004_1, (⟨#[]⟩ : ByteArray), ([] : List (S30)), 0)) else (some ((⟨#[]⟩ : ByteArray), (⟨#[]⟩ : ByteArray), (⟨#[]⟩ : ByteArray), (⟨#[]⟩ : ByteArray), ([] : List (S30)), (⟨#[]⟩ : ByteArray), ([] : List (S30)), bt157.2.2)))) = some (r1, r2, r3, r4, r5, r6, r7, r8) := by rw [if_neg (show ¬ (false = true) by decide)] at H; exact H
           clear H
           have H := H1
           clear H1
           replace H := Option.bind_eq_some_iff.mp H
           obtain ⟨⟨t157, t158, t159⟩, A1420, H⟩ := H
           replace H : (if t159 = 0 then (some (t144, t145, t152, t146, x129004_1, (⟨#[]⟩ : ByteArray), ([] : List (S30)), 0)) else (some ((⟨#[]⟩ : ByteArray), (⟨#[]⟩ : ByteArray), (⟨#[]⟩ : ByteArray), (⟨#[]⟩ : ByteArray), ([] : List (S30)), (⟨#[]⟩ : ByteArray), ([] : List (S30)), t159))) = some (r1, r2, r3, r4, r5, r6, r7, r8) := H
           have A142 := Aside0.mk A1420
           clear A1420
           by_cases c143 : t159 = 0
           ·
            rw [if_pos c143] at H
            have c143b0 : (t159 == 0) = true := beq_iff_eq.mpr c143
            have c143b1 : (t159 != 0) = false := bne_eq_false_iff_eq.mpr c143
            clear c143
            simp only [Option.some.injEq, Prod.mk.injEq] at H
            obtain ⟨rfl, rfl, rfl, rfl, rfl, rfl, rfl, rfl⟩ := H
            have hnb144 := NB128_127.out
            have hnc144 := NB127_128.out
            have hcz145_0 : wc.cell? ⟨gb128, 0, none⟩ = some (.string t144) := (blk_cell BK128.out 0).trans rfl
            have hcz145_1 : wc.cell? ⟨gb128, 1, none⟩ = some (.string t145) := (blk_cell BK128.out 1).trans rfl
            have hcz145_2 : wc.cell? ⟨gb128, 2, none⟩ = some (.string (⟨#[]⟩ : ByteArray)) := (blk_cell BK128.out 2).trans rfl
            have hcz145_3 : wc.cell? ⟨gb128, 3, none⟩ = some (.string t146) := (blk_cell BK128.out 3).trans rfl
            have hcz145_4 : wc.cell? ⟨gb128, 4, none⟩ = some (u129004) := (blk_cell BK128.out 4).trans rfl
            have hcz145_5 : wc.cell? ⟨gb128, 5, none⟩ = some (.string (⟨#[]⟩ : ByteArray)) := (blk_cell BK128.out 5).trans rfl
            have hcz145_6 : wc.cell? ⟨gb128, 6, none⟩ = some (.slice none 0 0) := (blk_cell BK128.out 6).trans rfl
            have hfz145_0 := blk_frozen BK128.out 0
            have hfz145_1 := blk_frozen BK128.out 1
            have hfz145_2 := blk_frozen BK128.out 2
            have hfz145_3 := blk_frozen BK128.out 3
            have hfz145_4 := blk_frozen BK128.out 4
            have hfz145_5 := blk_frozen BK128.out 5
            have hfz145_6 := blk_frozen BK128.out 6
            obtain ⟨Ao146, co146, eo146⟩ := Kd.R_slice HO_129004.out
            subst eo146
            go_wp2_with (first | ((with_reducible refine gate_callee (f := 19) rfl ?_); refine goesL_ (some 153) rfl rfl Tryd.func19 (by kernel_rfl) rfl #[.slice Ao146 x129004_1.length co146] rfl (by (try simp only [List.map_toArray, List.map_cons, List.map_nil]); first | done | rfl | (simp only [List.length_drop, List.length_take]; rfl)) ?_; (with_reducible refine (msg_Length.calls kj119 _ _ x129004_1 t157 t158 t159 _ ?side1 ?side2 ?side3 A142.out).mono ?_); (case side1 => exact GI.below HG.out (by repeat (first | (with_reducible first | exact HB.out | apply below_alloc | apply pw_below_drewN | apply below_drew1 | refine below_set ?_ GE127.out | refine below_set ?_ GE128.out) | exact HB.out))); (case side2 => refine (Kd.R_reads' (e := 30) (base := w.heap.size) (ok := fun k_ => True) (n := x129004_1.length) (c := co146) ?_).2.2; exact (by (with_reducible repeat (first | apply Kd.R_alloc | apply Kd.R_drewN | apply Kd.R_drew)); exact (Kd.R_mono (Kd.R_far (p := ⟨gb128, 2, none⟩) (Kd.R_far (p := ⟨gb128, 2, none⟩) (Kd.R_types HO_129004.out BK128.out (by decide)) (fun _ hk => hk.2) (.string t150)) (fun _ hk => hk.2) (.string t152)) (fun _ h_ => h_.1)))); (case side3 => exact (Kd.R_reads' HO_129004.out).2.1); rintro e w147 ⟨rfl, hb⟩; refine ⟨_, rfl, ?_⟩; have n0_ := Aside0.mk (Kd.R_below (by (with_reducible repeat (first | apply Kd.R_alloc | apply Kd.R_drewN | apply Kd.R_drew)); exact (Kd.R_mono (Kd.R_far (p := ⟨gb128, 2, none⟩) (Kd.R_far (p := ⟨gb128, 2, none⟩) (Kd.R_types HO_129004.out BK128.out (by decide)) (fun _ hk => hk.2) (.string t150)) (fun _ hk => hk.2) (.string t152)) (fun _ h_ => h_.1))) hb); have n1_ := Aside0.mk (blk_below (g := gb127) (o := .cells #[.string x128000_1, .string x128001_1, .string x128002_1, .string x128003_1, .slice none 0 0, .string x128005_1, .slice none 0 0] 24 (0, 0)) (by (with_reducible repeat (first | refine blk_drewN ?_ _ | refine blk_drew ?_ | refine blk_alloc ?_ _)); refine blk_far ?_ NB127_128.out _; (with_reducible repeat (first | refine blk_drewN ?_ _ | refine blk_drew ?_ | refine blk_alloc ?_ _)); refine blk_far ?_ NB127_128.out _; (with_reducible repeat (first | refine blk_drewN ?_ _ | refine blk_drew ?_ | refine blk_alloc ?_ _)); exact BK127.out) hb); have n2_ := Aside0.mk (blk_below (g := gb128) (o := .cells #[.string t144, .string t145, .string t152, .string t146, .slice Ao146 x129004_1.length co146, .string (⟨#[]⟩ : ByteArray), .slice none 0 0] 24 (0, 0)) (by (with_reducible repeat (first | refine blk_drewN ?_ _ | refine blk_drew ?_ | refine blk_alloc ?_ _)); refine blk_put (cs := #[.string t144, .string t145, .string t150, .string t146, .slice Ao146 x129004_1.length co146, .string (⟨#[]⟩ : ByteArray), .slice none 0 0]) ?_ 2 _ rfl; (with_reducible repeat (first | refine blk_drewN ?_ _ | refine blk_drew ?_ | refine blk_alloc ?_ _)); refine blk_put (cs := #[.string t144, .string t145, .string (⟨#[]⟩ : ByteArray), .string t146, .slice Ao146 x129004_1.length co146, .string (⟨#[]⟩ : ByteArray), .slice none 0 0]) ?_ 2 _ rfl; (with_reducible repeat (first | refine blk_drewN ?_ _ | refine blk_drew ?_ | refine blk_alloc ?_ _)); exact BK128.out) hb); have n3_ := Aside0.mk (below_step (by repeat (first | (with_reducible first | exact HB.out | apply below_alloc | apply pw_below_drewN | apply below_drew1 | refine below_set ?_ GE127.out | refine below_set ?_ GE128.out) | exact HB.out)) hb); clear HO_129004; clear BK127; clear BK128; clear HB; have HO_129004 := n0_; have BK127 := n1_; have BK128 := n2_; have HB := n3_; clear n0_ n1_ n2_ n3_; (try clear hb); (try clear hb2); (try clear hk); (try clear hi); have hcz148_0 : w147.cell? ⟨gb128, 0, none⟩ = some (.string t144) := (blk_cell BK128.out 0).trans rfl; have hcz148_1 : w147.cell? ⟨gb128, 1, none⟩ = some (.string t145) := (blk_cell BK128.out 1).trans rfl; have hcz148_2 : w147.cell? ⟨gb128, 2, none⟩ = some (.string t152) := (blk_cell BK128.out 2).trans rfl; have hcz148_3 : w147.cell? ⟨gb128, 3, none⟩ = some (.string t146) := (blk_cell BK128.out 3).trans rfl; have hcz148_4 : w147.cell? ⟨gb128, 4, none⟩ = some (.slice Ao146 x129004_1.length co146) := (blk_cell BK128.out 4).trans rfl; have hcz148_5 : w147.cell? ⟨gb128, 5, none⟩ = some (.string (⟨#[]⟩ : ByteArray)) := (blk_cell BK128.out 5).trans rfl; have hcz148_6 : w147.cell? ⟨gb128, 6, none⟩ = some (.slice none 0 0) := (blk_cell BK128.out 6).trans rfl; have hfz148_0 := blk_frozen BK128.out 0; have hfz148_1 := blk_frozen BK128.out 1; have hfz148_2 := blk_frozen BK128.out 2; have hfz148_3 := blk_frozen BK128.out 3; have hfz148_4 := blk_frozen BK128.out 4; have hfz148_5 := blk_frozen BK128.out 5; have hfz148_6 := blk_frozen BK128.out 6; have hcz149_0 : w147.cell? ⟨gb127, 0, none⟩ = some (.string x128000_1) := (blk_cell BK127.out 0).trans rfl; have hcz149_1 : w147.cell? ⟨gb127, 1, none⟩ = some (.string x128001_1) := (blk_cell BK127.out 1).trans rfl; have hcz149_2 : w147.cell? ⟨gb127, 2, none⟩ = some (.string x128002_1) := (blk_cell BK127.out 2).trans rfl; have hcz149_3 : w147.cell? ⟨gb127, 3, none⟩ = some (.string x128003_1) := (blk_cell BK127.out 3).trans rfl; have hcz149_4 : w147.cell? ⟨gb127, 4, none⟩ = some (.slice none 0 0) := (blk_cell BK127.out 4).trans rfl; have hcz149_5 : w147.cell? ⟨gb127, 5, none⟩ = some (.string x128005_1) := (blk_cell BK127.out 5).trans rfl; have hcz149_6 : w147.cell? ⟨gb127, 6, none⟩ = some (.slice none 0 0) := (blk_cell BK127.out 6).trans rfl; have hfz149_0 := blk_frozen BK127.out 0; have hfz149_1 := blk_frozen BK127.out 1; have hfz149_2 := blk_frozen BK127.out 2; have hfz149_3 := blk_frozen BK127.out 3; have hfz149_4 := blk_frozen BK127.out 4; have hfz149_5 := blk_frozen BK127.out 5; have hfz149_6 := blk_frozen BK127.out 6))
            refine bodyPost_ret (results_ct rfl _ _ gb127 24 #[.string t144, .string t145, .string t152, .string t146, .slice Ao146 x129004_1.length co146, .string (⟨#[]⟩ : ByteArray), .slice none 0 0] (0, 0) _ rfl (by (with_reducible repeat (first | refine blk_drewN ?_ _ | refine blk_drew ?_ | refine blk_alloc ?_ _)); refine blk_put (cs := #[.string t144, .string t145, .string t152, .string t146, .slice Ao146 x129004_1.length co146, .string (⟨#[]⟩ : ByteArray), .slice none 0 0]) ?_ 6 _ rfl; (with_reducible repeat (first | refine blk_drewN ?_ _ | refine blk_drew ?_ | refine blk_alloc ?_ _)); refine blk_put (cs := #[.string t144, .string t145, .string t152, .string t146, .slice Ao146 x129004_1.length co146, .string x128005_1, .slice none 0 0]) ?_ 5 _ rfl; (with_reducible repeat (first | refine blk_drewN ?_ _ | refine blk_drew ?_ | refine blk_alloc ?_ _)); refine blk_put (cs := #[.string t144, .string t145, .string t152, .string t146, .slice none 0 0, .string x128005_1, .slice none 0 0]) ?_ 4 _ rfl; (with_reducible repeat (first | refine blk_drewN ?_ _ | refine blk_drew ?_ | refine blk_alloc ?_ _)); refine blk_put (cs := #[.string t144, .string t145, .string t152, .string x128003_1, .slice none 0 0, .string x128005_1, .slice none 0 0]) ?_ 3 _ rfl; (with_reducible repeat (first | refine blk_drewN ?_ _ | refine blk_drew ?_ | refine blk_alloc ?_ _)); refine blk_put (cs := #[.string t144, .string t145, .string x128002_1, .string x128003_1, .slice none 0 0, .string x128005_1, .slice none 0 0]) ?_ 2 _ rfl; (with_reducible repeat (first | refine blk_drewN ?_ _ | refine blk_drew ?_ | refine blk_alloc ?_ _)); refine blk_put (cs := #[.string t144, .string x128001_1, .string x128002_1, .string x128003_1, .slice none 0 0, .string x128005_1, .slice none 0 0]) ?_ 1 _ rfl; (with_reducible repeat (first | refine blk_drewN ?_ _ | refine blk_drew ?_ | refine blk_alloc ?_ _)); refine blk_put (cs := #[.string x128000_1, .string x128001_1, .string x128002_1, .string x128003_1, .slice none 0 0, .string x128005_1, .slice none 0 0]) ?_ 0 _ rfl; (with_reducible repeat (first | refine blk_drewN ?_ _ | refine blk_drew ?_ | refine blk_alloc ?_ _)); exact BK127.out) Tryd.underlying24 rfl (by kernel_rfl)) rfl ?_
            exact ⟨_, _, by first | rfl | (simp [errW_none, errW_some] <;> rfl) | (simp [*, errW_none, errW_some] <;> rfl), by (with_reducible repeat (first | apply Kd.R_alloc | apply Kd.R_drewN | apply Kd.R_drew)); exact Kd.R_mono (Kd.R_far (p := ⟨gb127, 6, none⟩) (Kd.R_far (p := ⟨gb127, 5, none⟩) (Kd.R_far (p := ⟨gb127, 4, none⟩) (Kd.R_far (p := ⟨gb127, 3, none⟩) (Kd.R_far (p := ⟨gb127, 2, none⟩) (Kd.R_far (p := ⟨gb127, 1, none⟩) (Kd.R_far (p := ⟨gb127, 0, none⟩) (Kd.R_types HO_129004.out BK127.out (by decide)) (fun _ hk => hk.2) (.string t144)) (fun _ hk => hk.2) (.string t145)) (fun _ hk => hk.2) (.string t152)) (fun _ hk => hk.2) (.string t146)) (fun _ hk => hk.2) (.slice Ao146 x129004_1.length co146)) (fun _ hk => hk.2) (.string (⟨#[]⟩ : ByteArray))) (fun _ hk => hk.2) (.slice none 0 0)) (fun _ hk => (by simp [Value.ownBlock])), by first | exact Kd.R_nil _ _ _ _ _ | exact Kd.N_nil _ _ _ _ _ | exact Kd.V_nil _ _ _ _ _ | exact Kd.Q_nil _ _ _ _ _ | exact Kd.S_nil _ _ _ _ _, by repeat (first | (with_reducible first | exact HB.out | apply below_alloc | apply pw_below_drewN | apply below_drew1 | refine below_set ?_ GE127.out | refine below_set ?_ GE128.out) | exact HB.out)⟩
           ·
            rw [if_neg c143] at H
            have c143b0 : (t159 == 0) = false := beq_eq_false_iff_ne.mpr c143
            have c143b1 : (t159 != 0) = true := bne_iff_ne.mpr c143
            simp only [Option.some.injEq, Prod.mk.injEq] at H
            obtain ⟨rfl, rfl, rfl, rfl, rfl, rfl, rfl, rfl⟩ := H
            have hnb150 := NB128_127.out
            have hnc150 := NB127_128.out
            have hcz151_0 : wc.cell? ⟨gb128, 0, none⟩ = some (.string t144) := (blk_cell BK128.out 0).trans rfl
            have hcz151_1 : wc.cell? ⟨gb128, 1, none⟩ = some (.string t145) := (blk_cell BK128.out 1).trans rfl
            have hcz151_2 : wc.cell? ⟨gb128, 2, none⟩ = some (.string (⟨#[]⟩ : ByteArray)) := (blk_cell BK128.out 2).trans rfl
            have hcz151_3 : wc.cell? ⟨gb128, 3, none⟩ = some (.string t146) := (blk_cell BK128.out 3).trans rfl
            have hcz151_4 : wc.cell? ⟨gb128, 4, none⟩ = some (u129004) := (blk_cell BK128.out 4).trans rfl
            have hcz151_5 : wc.cell? ⟨gb128, 5, none⟩ = some (.string (⟨#[]⟩ : ByteArray)) := (blk_cell BK128.out 5).trans rfl
            have hcz151_6 : wc.cell? ⟨gb128, 6, none⟩ = some (.slice none 0 0) := (blk_cell BK128.out 6).trans rfl
            have hfz151_0 := blk_frozen BK128.out 0
            have hfz151_1 := blk_frozen BK128.out 1
            have hfz151_2 := blk_frozen BK128.out 2
            have hfz151_3 := blk_frozen BK128.out 3
            have hfz151_4 := blk_frozen BK128.out 4
            have hfz151_5 := blk_frozen BK128.out 5
            have hfz151_6 := blk_frozen BK128.out 6
            obtain ⟨Ao152, co152, eo152⟩ := Kd.R_slice HO_129004.out
            subst eo152
            go_wp2_with (first | ((with_reducible refine gate_callee (f := 19) rfl ?_); refine goesL_ (some 153) rfl rfl Tryd.func19 (by kernel_rfl) rfl #[.slice Ao152 x129004_1.length co152] rfl (by (try simp only [List.map_toArray, List.map_cons, List.map_nil]); first | done | rfl | (simp only [List.length_drop, List.length_take]; rfl)) ?_; (with_reducible refine (msg_Length.calls kj119 _ _ x129004_1 t157 t158 t159 _ ?side1 ?side2 ?side3 A142.out).mono ?_); (case side1 => exact GI.below HG.out (by repeat (first | (with_reducible first | exact HB.out | apply below_alloc | apply pw_below_drewN | apply below_drew1 | refine below_set ?_ GE127.out | refine below_set ?_ GE128.out) | exact HB.out))); (case side2 => refine (Kd.R_reads' (e := 30) (base := w.heap.size) (ok := fun k_ => True) (n := x129004_1.length) (c := co152) ?_).2.2; exact (by (with_reducible repeat (first | apply Kd.R_alloc | apply Kd.R_drewN | apply Kd.R_drew)); exact (Kd.R_mono (Kd.R_far (p := ⟨gb128, 2, none⟩) (Kd.R_far (p := ⟨gb128, 2, none⟩) (Kd.R_types HO_129004.out BK128.out (by decide)) (fun _ hk => hk.2) (.string t150)) (fun _ hk => hk.2) (.string t152)) (fun _ h_ => h_.1)))); (case side3 => exact (Kd.R_reads' HO_129004.out).2.1); rintro e w153 ⟨rfl, hb⟩; refine ⟨_, rfl, ?_⟩; have n0_ := Aside0.mk (Kd.R_below (by (with_reducible repeat (first | apply Kd.R_alloc | apply Kd.R_drewN | apply Kd.R_drew)); exact (Kd.R_mono (Kd.R_far (p := ⟨gb128, 2, none⟩) (Kd.R_far (p := ⟨gb128, 2, none⟩) (Kd.R_types HO_129004.out BK128.out (by decide)) (fun _ hk => hk.2) (.string t150)) (fun _ hk => hk.2) (.string t152)) (fun _ h_ => h_.1))) hb); have n1_ := Aside0.mk (blk_below (g := gb127) (o := .cells #[.string x128000_1, .string x128001_1, .string x128002_1, .string x128003_1, .slice none 0 0, .string x128005_1, .slice none 0 0] 24 (0, 0)) (by (with_reducible repeat (first | refine blk_drewN ?_ _ | refine blk_drew ?_ | refine blk_alloc ?_ _)); refine blk_far ?_ NB127_128.out _; (with_reducible repeat (first | refine blk_drewN ?_ _ | refine blk_drew ?_ | refine blk_alloc ?_ _)); refine blk_far ?_ NB127_128.out _; (with_reducible repeat (first | refine blk_drewN ?_ _ | refine blk_drew ?_ | refine blk_alloc ?_ _)); exact BK127.out) hb); have n2_ := Aside0.mk (blk_below (g := gb128) (o := .cells #[.string t144, .string t145, .string t152, .string t146, .slice Ao152 x129004_1.length co152, .string (⟨#[]⟩ : ByteArray), .slice none 0 0] 24 (0, 0)) (by (with_reducible repeat (first | refine blk_drewN ?_ _ | refine blk_drew ?_ | refine blk_alloc ?_ _)); refine blk_put (cs := #[.string t144, .string t145, .string t150, .string t146, .slice Ao152 x129004_1.length co152, .string (⟨#[]⟩ : ByteArray), .slice none 0 0]) ?_ 2 _ rfl; (with_reducible repeat (first | refine blk_drewN ?_ _ | refine blk_drew ?_ | refine blk_alloc ?_ _)); refine blk_put (cs := #[.string t144, .string t145, .string (⟨#[]⟩ : ByteArray), .string t146, .slice Ao152 x129004_1.length co152, .string (⟨#[]⟩ : ByteArray), .slice none 0 0]) ?_ 2 _ rfl; (with_reducible repeat (first | refine blk_drewN ?_ _ | refine blk_drew ?_ | refine blk_alloc ?_ _)); exact BK128.out) hb); have n3_ := Aside0.mk (below_step (by repeat (first | (with_reducible first | exact HB.out | apply below_alloc | apply pw_below_drewN | apply below_drew1 | refine below_set ?_ GE127.out | refine below_set ?_ GE128.out) | exact HB.out)) hb); clear HO_129004; clear BK127; clear BK128; clear HB; have HO_129004 := n0_; have BK127 := n1_; have BK128 := n2_; have HB := n3_; clear n0_ n1_ n2_ n3_; (try clear hb); (try clear hb2); (try clear hk); (try clear hi); have hcz154_0 : w153.cell? ⟨gb127, 0, none⟩ = some (.string x128000_1) := (blk_cell BK127.out 0).trans rfl; have hcz154_1 : w153.cell? ⟨gb127, 1, none⟩ = some (.string x128001_1) := (blk_cell BK127.out 1).trans rfl; have hcz154_2 : w153.cell? ⟨gb127, 2, none⟩ = some (.string x128002_1) := (blk_cell BK127.out 2).trans rfl; have hcz154_3 : w153.cell? ⟨gb127, 3, none⟩ = some (.string x128003_1) := (blk_cell BK127.out 3).trans rfl; have hcz154_4 : w153.cell? ⟨gb127, 4, none⟩ = some (.slice none 0 0) := (blk_cell BK127.out 4).trans rfl; have hcz154_5 : w153.cell? ⟨gb127, 5, none⟩ = some (.string x128005_1) := (blk_cell BK127.out 5).trans rfl; have hcz154_6 : w153.cell? ⟨gb127, 6, none⟩ = some (.slice none 0 0) := (blk_cell BK127.out 6).trans rfl; have hfz154_0 := blk_frozen BK127.out 0; have hfz154_1 := blk_frozen BK127.out 1; have hfz154_2 := blk_frozen BK127.out 2; have hfz154_3 := blk_frozen BK127.out 3; have hfz154_4 := blk_frozen BK127.out 4; have hfz154_5 := blk_frozen BK127.out 5; have hfz154_6 := blk_frozen BK127.out 6))
            refine bodyPost_ret (results_ct rfl _ _ gb127 24 #[.string (⟨#[]⟩ : ByteArray), .string (⟨#[]⟩ : ByteArray), .string (⟨#[]⟩ : ByteArray), .string (⟨#[]⟩ : ByteArray), .slice none 0 0, .string (⟨#[]⟩ : ByteArray), .slice none 0 0] (0, 0) _ rfl (by (with_reducible repeat (first | refine blk_drewN ?_ _ | refine blk_drew ?_ | refine blk_alloc ?_ _)); refine blk_put (cs := #[.string (⟨#[]⟩ : ByteArray), .string (⟨#[]⟩ : ByteArray), .string (⟨#[]⟩ : ByteArray), .string (⟨#[]⟩ : ByteArray), .slice none 0 0, .string (⟨#[]⟩ : ByteArray), .slice none 0 0]) ?_ 6 _ rfl; (with_reducible repeat (first | refine blk_drewN ?_ _ | refine blk_drew ?_ | refine blk_alloc ?_ _)); refine blk_put (cs := #[.string (⟨#[]⟩ : ByteArray), .string (⟨#[]⟩ : ByteArray), .string (⟨#[]⟩ : ByteArray), .string (⟨#[]⟩ : ByteArray), .slice none 0 0, .string x128005_1, .slice none 0 0]) ?_ 5 _ rfl; (with_reducible repeat (first | refine blk_drewN ?_ _ | refine blk_drew ?_ | refine blk_alloc ?_ _)); refine blk_put (cs := #[.string (⟨#[]⟩ : ByteArray), .string (⟨#[]⟩ : ByteArray), .string (⟨#[]⟩ : ByteArray), .string (⟨#[]⟩ : ByteArray), .slice none 0 0, .string x128005_1, .slice none 0 0]) ?_ 4 _ rfl; (with_reducible repeat (first | refine blk_drewN ?_ _ | refine blk_drew ?_ | refine blk_alloc ?_ _)); refine blk_put (cs := #[.string (⟨#[]⟩ : ByteArray), .string (⟨#[]⟩ : ByteArray), .string (⟨#[]⟩ : ByteArray), .string x128003_1, .slice none 0 0, .string x128005_1, .slice none 0 0]) ?_ 3 _ rfl; (with_reducible repeat (first | refine blk_drewN ?_ _ | refine blk_drew ?_ | refine blk_alloc ?_ _)); refine blk_put (cs := #[.string (⟨#[]⟩ : ByteArray), .string (⟨#[]⟩ : ByteArray), .string x128002_1, .string x128003_1, .slice none 0 0, .string x128005_1, .slice none 0 0]) ?_ 2 _ rfl; (with_reducible repeat (first | refine blk_drewN ?_ _ | refine blk_drew ?_ | refine blk_alloc ?_ _)); refine blk_put (cs := #[.string (⟨#[]⟩ : ByteArray), .string x128001_1, .string x128002_1, .string x128003_1, .slice none 0 0, .string x128005_1, .slice none 0 0]) ?_ 1 _ rfl; (with_reducible repeat (first | refine blk_drewN ?_ _ | refine blk_drew ?_ | refine blk_alloc ?_ _)); refine blk_put (cs := #[.string x128000_1, .string x128001_1, .string x128002_1, .string x128003_1, .slice none 0 0, .string x128005_1, .slice none 0 0]) ?_ 0 _ rfl; (with_reducible repeat (first | refine blk_drewN ?_ _ | refine blk_drew ?_ | refine blk_alloc ?_ _)); exact BK127.out) Tryd.underlying24 rfl (by kernel_rfl)) rfl ?_
            exact ⟨_, _, by first | rfl | (simp [errW_none, errW_some] <;> rfl) | (simp [*, errW_none, errW_some] <;> rfl), by first | exact Kd.R_nil _ _ _ _ _ | exact Kd.N_nil _ _ _ _ _ | exact Kd.V_nil _ _ _ _ _ | exact Kd.Q_nil _ _ _ _ _ | exact Kd.S_nil _ _ _ _ _, by first | exact Kd.R_nil _ _ _ _ _ | exact Kd.N_nil _ _ _ _ _ | exact Kd.V_nil _ _ _ _ _ | exact Kd.Q_nil _ _ _ _ _ | exact Kd.S_nil _ _ _ _ _, by repeat (first | (with_reducible first | exact HB.out | apply below_alloc | apply pw_below_drewN | apply below_drew1 | refine below_set ?_ GE127.out | refine below_set ?_ GE128.out) | exact HB.out)⟩


end Go.Proofs.YtgeekchnolahhaaDoor.PP
