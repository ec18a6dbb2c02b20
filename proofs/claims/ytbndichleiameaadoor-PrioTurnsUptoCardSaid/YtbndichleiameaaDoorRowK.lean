/- Parameters of whatever readable kind: from what the row's form tells to what the walks ask. -/
import Derived.Test.YtbndichleiameaaDoorRowG
import Derived.Deep.Slices
import Derived.Deep.Fields
import Derived.ChangeSame
namespace Go.Proofs.YtbndichleiameaaDoor.PR
set_option linter.unusedVariables false
set_option linter.unusedSimpArgs false
open Go.ChangeShapes Go.WideShapes Go.ChangeAt Go.RowKit Go.Deep Go.Proofs.YtbndichleiameaaDoorW.PrintWords

theorem laidOut : laidOutB Tryd.prog = true := by kernel_rfl
theorem list_of {α : Type} {P : Nat → α → Prop} : ∀ n : Nat, (∀ i, i < n → ∃ a, P i a) → ∃ l : List α, l.length = n ∧ ∀ i a, l[i]? = some a → P i a
  | 0, _ => ⟨[], rfl, fun i a h => by simp at h⟩
  | n + 1, h => by
    obtain ⟨l, h1, h2⟩ := list_of n (fun i hi => h i (by omega))
    obtain ⟨a, ha⟩ := h n (by omega)
    refine ⟨l ++ [a], by simp [h1], fun i b hb => ?_⟩
    by_cases hi : i < l.length
    · rw [List.getElem?_append_left hi] at hb; exact h2 i b hb
    · rw [List.getElem?_append_right (by omega)] at hb
      have : i - l.length = 0 := by
        rcases Nat.eq_zero_or_pos (i - l.length) with h | h
        · exact h
        · rw [List.getElem?_eq_none (by simp; omega)] at hb; cases hb
      rw [this] at hb
      simp at hb
      have : i = n := by omega
      rw [this, ← hb]; exact ha
theorem bulk_sum {H α : Type} {bulk : α → Nat} : ∀ (l : List α) (D : Nat → DataW H) (o : Nat), (∀ i a, l[i]? = some a → bulk a ≤ Rows.uptoBulk (D (o + i))) → (l.map bulk).sum ≤ Rows.uptoBulkAll ((List.range' o l.length).map D)
  | [], _, _, _ => by simp [Rows.uptoBulkAll]
  | a :: l, D, o, h => by
    have h0 := h 0 a rfl
    have ih := bulk_sum l D (o + 1) (fun i b hb => by have := h (i + 1) b (by simpa using hb); rw [show o + 1 + i = o + (i + 1) by omega]; exact this)
    rw [List.length_cons, List.range'_succ, List.map_cons, List.map_cons, List.sum_cons, Rows.uptoBulkAll]
    rw [Nat.add_zero] at h0
    omega
/-- Whatever the row's form reads of type T is a value of the kind k; 'good': its numbers fit; 'bulk': how many values and letters it holds. -/
structure Opens (T : TypeId) {α : Type} (k : Kd α) (good : α → Prop) (bulk : α → Nat) : Prop where
  sz : Tryd.prog.cellsOf T = k.sz
  op : ∀ {H : Type} (enc : TypeId × Value → H) (W : World) (fuel : Nat) (cs : List Value) (y : DataW H × List MemPlace), DataW.trod enc Tryd.prog W 0 (fun _ => true) true fuel T cs = some y → ∃ x, k.K W x cs ∧ good x ∧ bulk x ≤ Rows.uptoBulk y.1
theorem opens_int {T : TypeId} {q : IntKind} (hu : Tryd.prog.underlying T = some (.int q)) (hs : Tryd.prog.cellsOf T = 1) : Opens T (Kd.int q) (fun n => (Lit.int q n).wf = true) (fun _ => 1) :=
  ⟨hs, fun enc W fuel cs y h => by
    obtain ⟨n, rfl, rfl, hw⟩ := DataW.trod_int hu h
    exact ⟨n, rfl, hw, by simp [Rows.uptoBulk]⟩⟩
theorem opens_bool {T : TypeId} (hu : Tryd.prog.underlying T = some .bool) (hs : Tryd.prog.cellsOf T = 1) : Opens T Kd.bool (fun _ => True) (fun _ => 1) :=
  ⟨hs, fun enc W fuel cs y h => by
    obtain ⟨n, rfl, rfl⟩ := DataW.trod_bool hu h
    exact ⟨n, rfl, trivial, by simp [Rows.uptoBulk]⟩⟩
theorem opens_string {T : TypeId} (hu : Tryd.prog.underlying T = some .string) (hs : Tryd.prog.cellsOf T = 1) : Opens T Kd.string (fun _ => True) (fun s => s.size + 1) :=
  ⟨hs, fun enc W fuel cs y h => by
    obtain ⟨s, rfl, rfl, _⟩ := DataW.trod_string hu h
    exact ⟨s, rfl, trivial, by simp [Rows.uptoBulk]⟩⟩
theorem opens_slice {T e : TypeId} {α : Type} {k : Kd α} {good : α → Prop} {bulk : α → Nat} (hu : Tryd.prog.underlying T = some (.slice e)) (hs : Tryd.prog.cellsOf T = 1) (o : Opens e k good bulk) :
    Opens T (Kd.slice e k) (fun l => ∀ x ∈ l, good x) (fun l => (l.map bulk).sum + 1) :=
  ⟨hs, fun enc W fuel cs y h => by
    rcases open_slice hu h with ⟨rfl, rfl⟩ | ⟨a, len, cap, m, n, D, Pl, rfl, _, hl, hcm, hmm, rfl, hx⟩
    · exact ⟨[], ⟨none, 0, rfl, Nat.le_refl _, rfl, by simp, fun h => absurd h (by simp)⟩, by simp, by simp [Rows.uptoBulk]⟩
    · have hm : len ≤ m := by rw [hmm]; split <;> omega
      have key : ∀ i, i < len → ∃ x : α, (∃ c, W.cells? 0 (a.add (i * Tryd.prog.cellsOf e)) (Tryd.prog.cellsOf e) = some c ∧ k.K W x c) ∧ good x ∧ bulk x ≤ Rows.uptoBulk (D i) := by
        intro i hi
        obtain ⟨c, h1, h2⟩ := hx i (by omega)
        obtain ⟨x, h3, h4, h5⟩ := o.op enc W n c _ h2
        exact ⟨x, ⟨c, h1, h3⟩, h4, h5⟩
      obtain ⟨l, hlen, hP⟩ := list_of len key
      subst hlen
      refine ⟨l, ⟨some a, cap, rfl, hl, rfl, by unfold maxLen at hcm; omega, fun _ => ⟨a, rfl, fun j x hj => ?_⟩⟩, fun x hxm => ?_, ?_⟩
      · obtain ⟨⟨c, h1, h2⟩, _, _⟩ := hP j x hj
        rw [o.sz] at h1
        obtain ⟨_, hcl, hat⟩ := World.cells?_some h1
        refine ⟨c, hcl, h2, fun i u hu => ?_⟩
        have hi : i < k.sz := by
          rcases Nat.lt_or_ge i k.sz with h | h
          · exact h
          · rw [List.getElem?_eq_none (by omega)] at hu; cases hu
        have := hat i hi
        rw [← Go.Deep.add_add, this, hu]
      · obtain ⟨j, hj⟩ := List.getElem?_of_mem hxm
        exact (hP j x hj).2.1
      · have := bulk_sum (bulk := bulk) l D 0 (fun i x hi => by rw [Nat.zero_add]; exact (hP i x hi).2.2)
        rw [← List.range_eq_range'] at this
        simp only [Rows.uptoBulk]; omega⟩
theorem opens_iso {T : TypeId} {α β : Type} {k : Kd α} {good : α → Prop} {bulk : α → Nat} (o : Opens T k good bulk) (f : β → α) (g : α → β) (hfg : ∀ x, f (g x) = x) : Opens T (Kd.iso k f) (fun x => good (f x)) (fun x => bulk (f x)) :=
  ⟨o.sz, fun enc W fuel cs y h => by
    obtain ⟨x, h1, h2, h3⟩ := o.op enc W fuel cs y h
    exact ⟨g x, by show k.K W (f (g x)) cs; rw [hfg]; exact h1, by rw [hfg]; exact h2, by rw [hfg]; exact h3⟩⟩
/-- The fields of a struct from a place on. -/
structure OpensF (fs : List Field) (off : Nat) {α : Type} (k : Kd α) (good : α → Prop) (bulk : α → Nat) : Prop where
  op : ∀ {H : Type} (enc : TypeId × Value → H) (W : World) (n : Nat) (cs : List Value) (ys : List (DataW H × List MemPlace)), cs.length = off + k.sz → ys.length = fs.length →
    (∀ (i : Nat) (f : Field), fs[i]? = some f → DataW.trod enc Tryd.prog W 0 (fun _ => true) true n f.type ((cs.drop f.offset).take (Tryd.prog.cellsOf f.type)) = ys[i]?) → ∃ x, k.K W x (cs.drop off) ∧ good x ∧ bulk x ≤ Rows.uptoBulkAll (ys.map (·.1))
theorem opensF_one {f : Field} {off : Nat} {α : Type} {k : Kd α} {good : α → Prop} {bulk : α → Nat} (ho : f.offset = off) (o : Opens f.type k good bulk) : OpensF [f] off k good bulk :=
  ⟨fun enc W n cs ys hc hy h => by
    have h0 := h 0 f rfl
    match ys, hy with
    | [y], _ =>
      rw [ho, o.sz, List.take_of_length_le (by simp; omega)] at h0
      obtain ⟨x, h1, h2, h3⟩ := o.op enc W n _ y h0
      exact ⟨x, h1, h2, by simp [Rows.uptoBulkAll]; exact h3⟩⟩
theorem opensF_cons {f : Field} {fs : List Field} {off : Nat} {α β : Type} {k : Kd α} {k' : Kd β} {good : α → Prop} {bulk : α → Nat} {good' : β → Prop} {bulk' : β → Nat} (ho : f.offset = off) (o : Opens f.type k good bulk) (o' : OpensF fs (off + k.sz) k' good' bulk') :
    OpensF (f :: fs) off (Kd.pair k k') (fun x => good x.1 ∧ good' x.2) (fun x => bulk x.1 + bulk' x.2) :=
  ⟨fun enc W n cs ys hc hy h => by
    have h0 := h 0 f rfl
    match ys, hy with
    | y :: ys, hy =>
      rw [ho, o.sz] at h0
      obtain ⟨x, h1, h2, h3⟩ := o.op enc W n _ y h0
      have hc' : cs.length = off + k.sz + k'.sz := by rw [hc]; show off + (k.sz + k'.sz) = _; omega
      obtain ⟨x', h4, h5, h6⟩ := o'.op enc W n cs ys hc' (by simpa using hy) (fun i f' hf => by have := h (i + 1) f' (by simpa using hf); simpa using this)
      refine ⟨(x, x'), ⟨_, _, ?_, h1, h4⟩, ⟨h2, h5⟩, ?_⟩
      · rw [show (cs.drop (off + k.sz)) = (cs.drop off).drop k.sz by rw [List.drop_drop], List.take_append_drop]
      · simp only [List.map_cons, Rows.uptoBulkAll]; omega⟩
theorem opens_struct {T : TypeId} {fs : List Field} {α : Type} {k : Kd α} {good : α → Prop} {bulk : α → Nat} (hu : Tryd.prog.underlying T = some (.struct fs.toArray)) (hs : Tryd.prog.cellsOf T = k.sz) (o : OpensF fs 0 k good bulk) : Opens T k good (fun x => bulk x + 1) :=
  ⟨hs, fun enc W fuel cs y h => by
    obtain ⟨xs, n, _, rfl, hlen, hxl, hf⟩ := DataW.trod_struct hu h
    obtain ⟨x, h1, h2, h3⟩ := o.op enc W n cs xs (by rw [hlen, hs, Nat.zero_add]) (by simpa using hxl) (fun i f hi => hf i f (by simpa using hi))
    exact ⟨x, by simpa using h1, h2, by simp only [Rows.uptoBulk]; omega⟩⟩
theorem slice_open {P : Program} {H : Type} {enc : TypeId × Value → H} {T e : TypeId} {α : Type} {k : Kd α} {good : List α → Prop} {bulk : List α → Nat} {W : World} {base : Nat} {v : Value} {d : DataW H} {p : List MemPlace} (ht : P.underlying T = some (.slice e))
    (hop : ∀ (fuel : Nat) (cs : List Value) (y : DataW H × List MemPlace), DataW.trod enc P W 0 (fun _ => true) true fuel T cs = some y → ∃ x, (Kd.slice e k).K W x cs ∧ good x ∧ bulk x ≤ Rows.uptoBulk y.1)
    (hval : Value.okWide P W .any base T v) (h : DataW.Trod enc P W 0 (fun _ => true) true T v d p) :
    ∃ (A : Option Addr) (cap : Nat) (l : List α), v = .slice A l.length cap ∧ l.length ≤ cap ∧ Kd.C k W A l.length l ∧ good l ∧ bulk l ≤ Rows.uptoBulk d := by
  obtain ⟨A, len, cap, rfl⟩ := okWide_slice ht hval
  obtain ⟨fuel, hf⟩ := h
  obtain ⟨l, ⟨A', c', e1, h1, h2⟩, h3, h4⟩ := hop fuel _ _ hf
  simp [Value.cells] at e1
  obtain ⟨rfl, rfl, rfl⟩ := e1
  exact ⟨_, _, l, rfl, h1, h2, h3, h4⟩
set_option maxRecDepth 100000 in
/-- A parameter that is a slice. -/
theorem open_list {H : Type} {enc : TypeId × Value → H} {T e : TypeId} {α : Type} {k : Kd α} {good : List α → Prop} {bulk : List α → Nat} {W : World} {base : Nat} {v : Value} {d : DataW H} {p : List MemPlace} (ht : Tryd.prog.underlying T = some (.slice e)) (o : Opens T (Kd.slice e k) good bulk)
    (hval : Value.okWide Tryd.prog W .any base T v) (h : DataW.Trod enc Tryd.prog W 0 (fun _ => true) true T v d p) :
    ∃ (A : Option Addr) (cap : Nat) (l : List α), v = .slice A l.length cap ∧ l.length ≤ cap ∧ Kd.C k W A l.length l ∧ good l ∧ bulk l ≤ Rows.uptoBulk d :=
  slice_open (P := Tryd.prog) (enc := enc) (T := T) (e := e) (k := k) (good := good) (bulk := bulk) (W := W) (base := base) (v := v) (d := d) (p := p) ht (fun fuel cs y hf => o.op enc W fuel cs y hf) hval h
set_option maxRecDepth 100000 in
/-- A parameter that is a struct. -/
theorem open_agg {H : Type} {enc : TypeId × Value → H} {T : TypeId} {fs : Array Field} {α : Type} {k : Kd α} {good : α → Prop} {bulk : α → Nat} {W : World} {base : Nat} {v : Value} {d : DataW H} {p : List MemPlace} (ht : Tryd.prog.underlying T = some (.struct fs)) (o : Opens T k good bulk)
    (hval : Value.okWide Tryd.prog W .any base T v) (h : DataW.Trod enc Tryd.prog W 0 (fun _ => true) true T v d p) :
    ∃ (cs : Array Value) (x : α), v = .agg cs ∧ k.K W x cs.toList ∧ good x ∧ bulk x ≤ Rows.uptoBulk d := by
  obtain ⟨cs, rfl, _⟩ := okWide_struct ht hval
  obtain ⟨fuel, hf⟩ := h
  obtain ⟨x, h1, h2, h3⟩ := o.op enc W fuel _ _ hf
  exact ⟨cs, x, rfl, by simpa [Value.cells] using h1, h2, h3⟩
end Go.Proofs.YtbndichleiameaaDoor.PR
