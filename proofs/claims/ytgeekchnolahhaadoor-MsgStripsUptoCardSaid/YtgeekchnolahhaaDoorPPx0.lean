-- Written by a program of this session (a changed copy of the kit's print) out of the translation. Not trusted: Lean checks it.
import Derived.Test.YtgeekchnolahhaaDoorProg
import Derived.Below
import Derived.Deep.Draws
import Derived.Deep.AppendLies
import Derived.Maps.AppendAt
import Derived.OwnWalk
import Derived.Laws.BytesArg
import Derived.Laws.MakeOwn
import Derived.Laws.OwnMore
import Derived.Deep.OwnRows
import Derived.Tactics
import Derived.Lib.ConvBytes
import Derived.Laws.Slices
import Derived.WalkKit
import Derived.KernelRfl
import Derived.RowKit3
import Derived.Deep.LoopGhost
import Derived.Deep.QuietTactic
import Derived.BigQuiet
import Derived.WideLaws
import Derived.Deep.DeepCutAuto
import Derived.Deep.CutBlock
import Derived.Deep.RegionHeld3
import Derived.Laws.Rows
import Derived.Lib.AppendStr
import Derived.ArgAppend
import Derived.Laws.IdiomCopy
import Derived.OrdersHeld
import Derived.Laws.BitsLemmas
import Derived.RowKit
import Derived.WalkSpells
import Derived.Test.YtgeekchnolahhaaDoorWWords
import Derived.Test.YtgeekchnolahhaaDoorWLast
import Derived.Test.YtgeekchnolahhaaDoorWTab
import Derived.Test.YtgeekchnolahhaaDoorWQPut
import Derived.Test.YtgeekchnolahhaaDoorWApart
import Derived.Test.YtgeekchnolahhaaDoorWArr
import Derived.Test.YtgeekchnolahhaaDoorWZeros
import Derived.Test.YtgeekchnolahhaaDoorWFoot
import Derived.Test.YtgeekchnolahhaaDoorWKept
import Derived.Test.YtgeekchnolahhaaDoorWShare
import Derived.Test.YtgeekchnolahhaaDoorWN
import Derived.Test.YtgeekchnolahhaaDoorWEqStruct
import Derived.Test.YtgeekchnolahhaaDoorWRepsOne
import Derived.Test.YtgeekchnolahhaaDoorWGuard
import Derived.Test.YtgeekchnolahhaaDoorWNEv
import Derived.Test.YtgeekchnolahhaaDoorWMore
import Derived.Lib.Hide
import Derived.Outline
namespace Go.Proofs.YtgeekchnolahhaaDoor.PP
open Go.RowKit Go.Proofs.YtgeekchnolahhaaDoorW.PrintWords Go.Proofs.YtgeekchnolahhaaDoorW.PrintLast Go.Proofs.YtgeekchnolahhaaDoorW.PrintMore
attribute [local go_sem] max2_int min2_int max_two min_two max_three min_three max_four min_four   -- for this text's walks alone
set_option linter.unusedVariables false
set_option linter.unusedSimpArgs false



def errW : Option Int → Value
  | none => .nilIface
  | some c => .iface 0 (.int .i64 c)
theorem errW_none : errW none = .nilIface := rfl
theorem errW_some (c : Int) : errW (some c) = .iface 0 (.int .i64 c) := rfl

theorem info9 : (Tryd.prog.info? 9).map (fun i => (i.zero, i.size, i.bytes)) = some (some (.string ⟨#[]⟩), 1, 16) := by kernel_rfl
theorem info30 : (Tryd.prog.info? 30).map (fun i => (i.zero, i.size, i.bytes)) = some (some (.agg #[(.string ⟨#[]⟩), (.string ⟨#[]⟩)]), 2, 32) := by kernel_rfl
-- the values' own types
/-! #### struct type 30 -/
structure S30 where
  f0 : ByteArray
  f1 : ByteArray
def z30 : S30 := ⟨(⟨#[]⟩ : ByteArray), (⟨#[]⟩ : ByteArray)⟩
def k30 : Kd S30 := Kd.iso (Kd.pair Kd.string Kd.string) (fun x : S30 => (x.f0, x.f1))
theorem k30_open {w : World} {x : S30} {cs : List Value} (h : k30.K w x cs) : cs = [.string x.f0, .string x.f1] := by
  obtain ⟨_, _, rfl, rfl, rfl⟩ := h
  exact rfl
theorem k30_openM {w : World} {base : Nat} {ok : Nat → Prop} {x : S30} {cs : List Value} (h : k30.M w base ok x cs) : cs = [.string x.f0, .string x.f1] := by
  obtain ⟨_, _, rfl, rfl, rfl⟩ := h
  exact rfl
theorem k30_mk (w : World) (x : S30)  : k30.K w x [.string x.f0, .string x.f1] := ⟨[.string x.f0], [.string x.f1], rfl, rfl, rfl⟩
theorem k30_mkM (w : World) (base : Nat) (ok : Nat → Prop) (x : S30)  : k30.M w base ok x [.string x.f0, .string x.f1] := ⟨[.string x.f0], [.string x.f1], rfl, rfl, rfl⟩
def rd_T30 (xs : List S30) (i : Int) : S30 := xs.getD i.toNat z30
theorem at_T30 {w : World} {A : Option Addr} {n : Nat} {xs : List S30} (h : Kd.C k30 w A n xs) (i : Int) (h0 : 0 ≤ i) (h1 : i < n) : ∃ ad , A = some ad ∧ w.cell? (ad.add (i.toNat * 2)) = some (.string (rd_T30 xs i).f0) ∧ w.cell? ⟨(ad.add (i.toNat * 2)).block, (ad.add (i.toNat * 2)).off + 1, none⟩ = some (.string (rd_T30 xs i).f1) := by
  obtain ⟨ad, c, e, _, hK, hc0⟩ := Kd.C_get h z30 i h0 h1
  have hc : ∀ j u, c[j]? = some u → w.cell? (ad.add (i.toNat * 2 + j)) = some u := hc0
  obtain rfl := k30_open hK
  exact ⟨ad, e, hc 0 _ rfl, by rw [← add_field _ _ 1 (by omega)]; exact hc 1 _ rfl⟩

/-! ### what the library's variables hold: handed through all contracts -/
theorem bne_nil_ (l : List UInt8) : l.isEmpty = !(l != []) := by cases l <;> rfl
theorem var_stays {P : Program} {W W' : World} {n : String} {cs : Array Value} (h : Below W.heap.size W W') (hv : W.var? P n = some cs) : W'.var? P n = some cs := by
  unfold World.var? at hv ⊢
  cases hg : P.globalNamed n with
  | none => simp [hg] at hv
  | some g =>
    simp only [hg, Option.bind_some] at hv ⊢
    by_cases hlt : g < W.heap.size
    · rw [h.block g hlt]; exact hv
    · have e : W.heap[g]? = none := by simp; omega
      rw [e] at hv
      simp at hv
theorem cell_stays {W W' : World} {g j : Nat} {v : Value} (h : Below W.heap.size W W') (hv : W.cell? ⟨g, j, none⟩ = some v) : W'.cell? ⟨g, j, none⟩ = some v := by
  by_cases hlt : g < W.heap.size
  · rw [h.cell (p := ⟨g, j, none⟩) hlt]; exact hv
  · have e : W.heap[g]? = none := by simp; omega
    simp [World.cell?, e] at hv
structure GI (w : World) : Prop where
  tab : w.var? Tryd.prog "internal/strconv.uint64pow10" = some (((List.range 20).map fun i => ((10 ^ i : Nat) : Int)).map fun z => Value.int .u64 z).toArray
  syn : ∃ te pe, w.var? Tryd.prog "strconv.ErrSyntax" = some #[.iface te pe]
  rng : ∃ te pe, w.var? Tryd.prog "strconv.ErrRange" = some #[.iface te pe]
  maxlen : ∃ m, w.cell? ⟨0, 0, none⟩ = some (.int .i64 m)
theorem GI.below {w w' : World} (h : GI w) (hb : Below w.heap.size w w') : GI w' := {
  tab := var_stays hb h.tab
  syn := h.syn.imp fun _ k => k.imp fun _ k => var_stays hb k
  rng := h.rng.imp fun _ k => k.imp fun _ k => var_stays hb k
  maxlen := h.maxlen.imp fun _ k => cell_stays hb k
  }

/-! ### small letters -/
def lowB (c : UInt8) : UInt8 := if 65 ≤ c.toNat ∧ c.toNat ≤ 90 then c + 32 else c
def lowerS (s : ByteArray) : ByteArray := ⟨(s.data.toList.map lowB).toArray⟩
/-- Cell j of the row of bytes, the first k having been turned. -/
def lowAt (s : ByteArray) (k j : Nat) : Int := if j < k then ((lowB (s.data.toList.getD j 0)).toNat : Int) else ((s.data.toList.getD j 0).toNat : Int)
theorem lowAt_succ (s : ByteArray) (k j : Nat) : lowAt s (k + 1) j = if j = k then ((lowB (s.data.toList.getD j 0)).toNat : Int) else lowAt s k j := by
  unfold lowAt
  by_cases h1 : j < k
  · rw [if_pos (by omega), if_neg (by omega), if_pos h1]
  · by_cases h2 : j = k
    · rw [if_pos (by omega), if_pos h2]
    · rw [if_neg (by omega), if_neg h2, if_neg h1]
theorem lowB_or (c : UInt8) (h0 : 65 ≤ c.toNat) (h1 : c.toNat ≤ 90) : Go.bits .or .u8 (c.toNat : Int) 32 = ((lowB c).toNat : Int) := by
  have key : ∀ n : Fin 256, 65 ≤ n.val → n.val ≤ 90 → Go.bits .or .u8 (n.val : Int) 32 = ((lowB (UInt8.ofNat n.val)).toNat : Int) := by decide +kernel
  have := key ⟨c.toNat, c.toNat_lt⟩ h0 h1
  simpa using this
theorem lowB_add (c : UInt8) (h0 : 65 ≤ c.toNat) (h1 : c.toNat ≤ 90) : (c.toNat : Int) + 32 = ((lowB c).toNat : Int) := by
  unfold lowB
  rw [if_pos ⟨h0, h1⟩, UInt8.toNat_add]
  have : (32 : UInt8).toNat = 32 := rfl
  omega
theorem lowB_keep (c : UInt8) (h : ¬ (65 ≤ c.toNat ∧ c.toNat ≤ 90)) : lowB c = c := by unfold lowB; rw [if_neg h]
theorem lower_reads (s : ByteArray) (W : World) (B : Nat) (hm : s.size ≤ 9223372036854775807) (hc : ∀ j, j < s.size → W.cell? ⟨B, j, none⟩ = some (.int .u8 (lowAt s s.size j))) : ReadsInt W .u8 (some ⟨B, 0, none⟩) s.size (bytesOf (lowerS s)) := by
  have hl : (bytesOf (lowerS s)).length = s.size := by
    rw [bytesOf_length]
    show ((s.data.toList.map lowB).toArray).size = s.size
    rw [List.size_toArray, List.length_map, data_length]
  refine ⟨hl, hm, fun _ => ⟨_, rfl, fun j hj => ?_⟩⟩
  have e : (bytesOf (lowerS s)).getD j 0 = lowAt s s.size j := by
    have hj2 : j < s.data.toList.length := by rw [data_length]; exact hj
    unfold lowAt
    rw [if_pos hj]
    simp only [bytesOf, lowerS, List.getD]
    rw [List.getElem?_map, List.getElem?_map, List.getElem?_eq_getElem hj2]
    rfl
  rw [e]
  have ea : (⟨B, 0, none⟩ : Addr).add j = ⟨B, j, none⟩ := by cases j <;> simp [Addr.add]
  rw [ea]
  exact hc j hj
theorem strOfNums_bytesOf (s : ByteArray) : strOfNums (bytesOf s) = s := by
  unfold strOfNums bytesOf
  apply ByteArray.ext
  simp [Function.comp_def]

/-! short names of words -/
abbrev zA := @blk_drewN
abbrev zB := @blk_drew
abbrev zC := @blk_alloc
abbrev zD := @Kd.R_alloc
abbrev zE := @Kd.R_drewN
abbrev zF := @Kd.R_drew
abbrev zG := @below_alloc
abbrev zH := @pw_below_drewN
abbrev zI := @below_drew1
abbrev zM := @Aside0.mk
abbrev zS := @below_step
abbrev zU := @List.setIfInBounds_toArray
abbrev zV := @List.set_cons_zero
abbrev zW := @List.set_cons_succ
end Go.Proofs.YtgeekchnolahhaaDoor.PP
