/- The row and the tied card of 'ostler/ostlerlaw16.RangesCarry': out of the plain law and the walk. -/
import Derived.Test.YtciibddoejhmlaaDoorRowT
import Derived.Test.YtciibddoejhmlaaDoorPPx19
import Derived.Test.YtciibddoejhmlaaDoorQRangesCarry
namespace Go.Proofs.YtciibddoejhmlaaDoor.PR
open Go.ChangeShapes Go.WideShapes Go.ChangeAt Go.RowKit
open Go.ChangeMaps (open_string shut_string)
set_option linter.unusedSimpArgs false
set_option linter.unusedVariables false

theorem reads_rangesCarry (os : Os) {H : Type} (enc : TypeId × Value → H) : ∃ places, DataW.whole enc Tryd.prog ((World.laidAll Tryd.prog os laidL).forCall (fun _ _ => 0) ⟨#[], #[.string ⟨#[]⟩, .slice none 0 0], []⟩).memory Tryd.f6.params.toList Rows.rangesCarrySpec.vars false (#[.string ⟨#[]⟩, .slice none 0 0] : Array Value).toList 8 = some ([.lit (.string []), .nil], [], places) :=
  ⟨[], by kernel_rfl⟩
set_option maxRecDepth 100000 in
theorem lifted_rangesCarry (os : Os) (started : os.Started) (H : Type) (enc : TypeId × Value → H) (F : Stop.Interp) :
    ReturnsInHanded {} Tryd.checked os 6 .any ((Rows.OpenSpec.upto Rows.rangesCarrySpec).preRow enc Tryd.prog Tryd.f6 Rows.rangesCarryUptoRow.domain false Rows.rangesCarryUptoRow.laid) (((Rows.OpenSpec.upto Rows.rangesCarrySpec).at F).post enc Tryd.prog Tryd.f6 false true false false) := by
  obtain ⟨places, hx⟩ := reads_rangesCarry os enc
  refine returnsInHanded_of_row (C := Tryd.checked) (s := (Rows.OpenSpec.upto Rows.rangesCarrySpec)) own started (by kernel_rfl) Tryd.func6
    (wit os #[.string ⟨#[]⟩, .slice none 0 0] (by kernel_rfl) (OpenSpec.preRow_of_cond 8 hx (by kernel_rfl) (fun k hk => by cases hk; kernel_rfl) (by kernel_rfl) (laid_met os _))) ?_
  intro W base args ds gs before hval0 hW _ hcond hsz0 hL hS _
  have hsz : (DataW.weightsEach Tryd.prog (Tryd.f6.params.toList ++ (Rows.OpenSpec.upto Rows.rangesCarrySpec).bare.plain.varTypes Tryd.prog) (ds ++ gs)).all (· ≤ reachBytes) = true := hsz0
  have hG := gi hL hS
  have hval : ∀ (j : Nat) t v, Tryd.f6.params[j]? = some t → args[j]? = some v → Value.okWide Tryd.prog W .any base t v := hval0
  have hW' := hW
  obtain ⟨p, q, hA0, hV, rfl, hfz, hnd⟩ := hW
  have hA : DataW.TrodAll enc Tryd.prog W 0 (fun _ => true) true Tryd.f6.params.toList args.toList ds p := hA0
  rw [Tryd.params6] at hA hval hsz
  obtain ⟨v0, vs0, d0, ds0, p0, q0, hargs, rfl, rfl, h0, r0⟩ := trodAll_cons hA
  obtain ⟨v1, vs1, d1, ds1, p1, q1, rfl, rfl, rfl, h1, r1⟩ := trodAll_cons r0
  obtain ⟨rfl, rfl, rfl⟩ := trodAll_nil r1
  obtain rfl : args = #[v0, v1] := by cases args; simp_all
  obtain ⟨rfl, rfl⟩ := trodVars_none hV
  obtain ⟨a0, rfl, rfl, rfl, y0⟩ := open_string Tryd.underlying9 (hval 0 9 v0 rfl rfl) h0
  have w0 : a0.size ≤ 140737488351232 := by
    have z := sized_string hsz (j := 0) (t := 9) rfl rfl
    rw [Array.length_toList] at z
    exact z
  have k1 := h1
  have lt1 : ∀ x ∈ p1, x.block < W.heap.size := by obtain ⟨m, hm⟩ := k1; exact DataW.trod_lt m _ _ _ hm
  obtain ⟨A1, c1, l1, rfl, g1, C1, G1, D1⟩ := open_list Tryd.underlying22 (opens_slice Tryd.underlying22 (by kernel_rfl) (opens_k25)) (hval 1 22 v1 rfl rfl) h1
  have B1 : (l1.map bulk25).sum + 1 ≤ Rows.uptoBulk d1 := D1
  have G1' : ∀ x ∈ l1, good25 x := G1
  have hb : Rows.uptoSmall H ([_, _] ++ []) = true := hcond _ rfl
  have hb := upto_bound hb
  simp only [List.append_nil, Rows.uptoBulkAll, upto_string, Array.length_toList] at hb
  clear hA0 hval0 hsz0 hsz
  obtain ⟨k, hk⟩ := Q.RangesCarry a0 l1 G1' (by have : a0.data.size + (l1.map bulk25).sum = _ := rfl; omega)
  refine (PP.ostlerlaw16_RangesCarry.calls k a0 A1 c1 l1 true W hG C1 g1 hk).mono fun e W' ⟨he, bel⟩ => ?_
  subst he
  exact ⟨_, rfl, _, _, _, [], _, [], hW', trodAll_mk1 (shut_bool Tryd.underlying4 _), (trodAll_cons_mk (shut_string Tryd.underlying9 y0) (trodAll_cons_mk (Below.trod laidOut (by kernel_rfl) (of_decide_eq_true (by kernel_rfl)) k1 bel lt1) trodAll_mk0)), rfl, bel.frame _, fun h => by cases h⟩
theorem said_rangesCarry : Rows.RangesCarryUptoSaid :=
  OpenClaim.holds_of_cond 6 Tryd.f6 rfl rfl rfl rfl rfl rfl rfl ⟨rfl, rfl, rfl, rfl, rfl⟩ rfl rfl rfl rfl rfl (by kernel_rfl) Tryd.func6 (by kernel_rfl)
    (of_decide_eq_true (by kernel_rfl)) (by unfold Func.isWrapper; first | (rw [if_pos (by decide +kernel)]; kernel_rfl) | (rw [if_neg (by decide +kernel)]; exact ⟨rfl, rfl⟩))
    (fun os started H enc _ F => by rw [OpenClaim.pre_eq_preRow]; exact lifted_rangesCarry os started H enc F)
theorem plain_rangesCarry (f : FuncId) (fn : Func) (hf : Tryd.pinned.checked.prog.funcNamed "ostler/ostlerlaw16.RangesCarry" = some f) (hfn : Tryd.pinned.checked.prog.funcs[f]? = some fn) :
    true = Tryd.pinned.checked.prog.looks [] ∧ ∀ (j : Nat) t, fn.params[j]? = some t → Tryd.pinned.checked.prog.wantsStandIn t = false := by
  obtain rfl : f = 6 := Option.some.inj ((show Tryd.prog.funcNamed "ostler/ostlerlaw16.RangesCarry" = some 6 by kernel_rfl).symm.trans hf) |>.symm
  obtain rfl : fn = Tryd.f6 := (Option.some.inj (Tryd.func6.symm.trans hfn)).symm
  refine ⟨by kernel_rfl, fun j t ht => ?_⟩
  rw [Tryd.params6] at ht
  have hm : t ∈ [9, 22] := by simpa using Array.mem_of_getElem? ht
  have hall : ([9, 22].all fun u => !Tryd.prog.wantsStandIn u) = true := by kernel_rfl
  exact (show Tryd.prog.wantsStandIn t = false by simpa using List.all_eq_true.1 hall t hm)
theorem rangesCarry_card : Rows.RangesCarryUptoCardSaid :=
  Claim7.holds_tied_plain_at .later [] _ _ _ _ said_rangesCarry (fun _ h => by cases h) (by kernel_rfl) (fun _ h => by cases h) rangesCarryUpto_row_tie rfl ⟨rfl, rfl⟩ (by kernel_rfl) rfl plain_rangesCarry (by kernel_rfl)
end Go.Proofs.YtciibddoejhmlaaDoor.PR
namespace Go.Proofs.YtciibddoejhmlaaDoor
/-- The card, under a short name, for the claim. -/
theorem rangesCarry_card : Rows.RangesCarryUptoCardSaid := PR.rangesCarry_card
end Go.Proofs.YtciibddoejhmlaaDoor
