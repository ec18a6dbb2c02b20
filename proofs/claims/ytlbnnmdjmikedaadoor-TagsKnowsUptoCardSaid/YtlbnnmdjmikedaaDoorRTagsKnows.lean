/- The row and the tied card of 'ostler/ostlerlaw15.TagsKnows': out of the plain law and the walk. -/
import Derived.Test.YtlbnnmdjmikedaaDoorRowT
import Derived.Test.YtlbnnmdjmikedaaDoorPPx22
import Derived.Test.YtlbnnmdjmikedaaDoorQTagsKnows
namespace Go.Proofs.YtlbnnmdjmikedaaDoor.PR
open Go.ChangeShapes Go.WideShapes Go.ChangeAt Go.RowKit
open Go.ChangeMaps (open_string shut_string)
set_option linter.unusedSimpArgs false
set_option linter.unusedVariables false

theorem reads_tagsKnows (os : Os) {H : Type} (enc : TypeId × Value → H) : ∃ places, DataW.whole enc Tryd.prog ((World.laidAll Tryd.prog os laidL).forCall (fun _ _ => 0) ⟨#[], #[.agg #[.string ⟨#[]⟩, .int .i64 0, .int .i64 0], .agg #[.string ⟨#[]⟩, .int .i64 0, .int .i64 0]], []⟩).memory Tryd.f3.params.toList Rows.tagsKnowsSpec.vars false (#[.agg #[.string ⟨#[]⟩, .int .i64 0, .int .i64 0], .agg #[.string ⟨#[]⟩, .int .i64 0, .int .i64 0]] : Array Value).toList 8 = some ([.agg [.lit (.string []), .lit (.int .i64 0), .lit (.int .i64 0)], .agg [.lit (.string []), .lit (.int .i64 0), .lit (.int .i64 0)]], [], places) :=
  ⟨[], by kernel_rfl⟩
set_option maxRecDepth 100000 in
theorem lifted_tagsKnows (os : Os) (started : os.Started) (H : Type) (enc : TypeId × Value → H) (F : Stop.Interp) :
    ReturnsInHanded {} Tryd.checked os 3 .any ((Rows.OpenSpec.upto Rows.tagsKnowsSpec).preRow enc Tryd.prog Tryd.f3 Rows.tagsKnowsUptoRow.domain false Rows.tagsKnowsUptoRow.laid) (((Rows.OpenSpec.upto Rows.tagsKnowsSpec).at F).post enc Tryd.prog Tryd.f3 false true false false) := by
  obtain ⟨places, hx⟩ := reads_tagsKnows os enc
  refine returnsInHanded_of_row (C := Tryd.checked) (s := (Rows.OpenSpec.upto Rows.tagsKnowsSpec)) own started (by kernel_rfl) Tryd.func3
    (wit os #[.agg #[.string ⟨#[]⟩, .int .i64 0, .int .i64 0], .agg #[.string ⟨#[]⟩, .int .i64 0, .int .i64 0]] (by kernel_rfl) (OpenSpec.preRow_of_cond 8 hx (by kernel_rfl) (fun k hk => by cases hk; kernel_rfl) (by kernel_rfl) (laid_met os _))) ?_
  intro W base args ds gs before hval0 hW _ hcond hsz0 hL hS _
  have hsz : (DataW.weightsEach Tryd.prog (Tryd.f3.params.toList ++ (Rows.OpenSpec.upto Rows.tagsKnowsSpec).bare.plain.varTypes Tryd.prog) (ds ++ gs)).all (· ≤ reachBytes) = true := hsz0
  have hG := gi hL hS
  have hval : ∀ (j : Nat) t v, Tryd.f3.params[j]? = some t → args[j]? = some v → Value.okWide Tryd.prog W .any base t v := hval0
  have hW' := hW
  obtain ⟨p, q, hA0, hV, rfl, hfz, hnd⟩ := hW
  have hA : DataW.TrodAll enc Tryd.prog W 0 (fun _ => true) true Tryd.f3.params.toList args.toList ds p := hA0
  rw [Tryd.params3] at hA hval hsz
  obtain ⟨v0, vs0, d0, ds0, p0, q0, hargs, rfl, rfl, h0, r0⟩ := trodAll_cons hA
  obtain ⟨v1, vs1, d1, ds1, p1, q1, rfl, rfl, rfl, h1, r1⟩ := trodAll_cons r0
  obtain ⟨rfl, rfl, rfl⟩ := trodAll_nil r1
  obtain rfl : args = #[v0, v1] := by cases args; simp_all
  obtain ⟨rfl, rfl⟩ := trodVars_none hV
  have k0 := h0
  have lt0 : ∀ x ∈ p0, x.block < W.heap.size := by obtain ⟨m, hm⟩ := k0; exact DataW.trod_lt m _ _ _ hm
  obtain ⟨cs0, a0, rfl, K0, G0, B0⟩ := open_agg Tryd.underlying23 opens_k23 (hval 0 23 v0 rfl rfl) h0
  have G0' : good23 a0 := G0
  obtain rfl : cs0 = #[.string a0.f0, .int .i64 a0.f1, .int .i64 a0.f2] := by have := PP.k23_open K0; cases cs0; simpa using this
  have k1 := h1
  have lt1 : ∀ x ∈ p1, x.block < W.heap.size := by obtain ⟨m, hm⟩ := k1; exact DataW.trod_lt m _ _ _ hm
  obtain ⟨cs1, a1, rfl, K1, G1, B1⟩ := open_agg Tryd.underlying23 opens_k23 (hval 1 23 v1 rfl rfl) h1
  have G1' : good23 a1 := G1
  obtain rfl : cs1 = #[.string a1.f0, .int .i64 a1.f1, .int .i64 a1.f2] := by have := PP.k23_open K1; cases cs1; simpa using this
  have hb : Rows.uptoSmall H ([_, _] ++ []) = true := hcond _ rfl
  have hb := upto_bound hb
  simp only [List.append_nil, Rows.uptoBulkAll, upto_string, Array.length_toList] at hb
  clear hA0 hval0 hsz0 hsz
  obtain ⟨k, hk⟩ := Q.TagsKnows a0 a1 G0' G1' (by have : bulk23 a0 + bulk23 a1 = _ := rfl; omega)
  refine (PP.ostlerlaw15_TagsKnows.calls k a0.f0 a0.f1 a0.f2 a1.f0 a1.f1 a1.f2 true W hG hk).mono fun e W' ⟨he, bel⟩ => ?_
  subst he
  exact ⟨_, rfl, _, _, _, [], _, [], hW', trodAll_mk1 (shut_bool Tryd.underlying4 _), (trodAll_cons_mk (Below.trod laidOut (by kernel_rfl) (of_decide_eq_true (by kernel_rfl)) k0 bel lt0) (trodAll_cons_mk (Below.trod laidOut (by kernel_rfl) (of_decide_eq_true (by kernel_rfl)) k1 bel lt1) trodAll_mk0)), rfl, bel.frame _, fun h => by cases h⟩
theorem said_tagsKnows : Rows.TagsKnowsUptoSaid :=
  OpenClaim.holds_of_cond 3 Tryd.f3 rfl rfl rfl rfl rfl rfl rfl ⟨rfl, rfl, rfl, rfl, rfl⟩ rfl rfl rfl rfl rfl (by kernel_rfl) Tryd.func3 (by kernel_rfl)
    (of_decide_eq_true (by kernel_rfl)) (by unfold Func.isWrapper; first | (rw [if_pos (by decide +kernel)]; kernel_rfl) | (rw [if_neg (by decide +kernel)]; exact ⟨rfl, rfl⟩))
    (fun os started H enc _ F => by rw [OpenClaim.pre_eq_preRow]; exact lifted_tagsKnows os started H enc F)
theorem plain_tagsKnows (f : FuncId) (fn : Func) (hf : Tryd.pinned.checked.prog.funcNamed "ostler/ostlerlaw15.TagsKnows" = some f) (hfn : Tryd.pinned.checked.prog.funcs[f]? = some fn) :
    true = Tryd.pinned.checked.prog.looks [] ∧ ∀ (j : Nat) t, fn.params[j]? = some t → Tryd.pinned.checked.prog.wantsStandIn t = false := by
  obtain rfl : f = 3 := Option.some.inj ((show Tryd.prog.funcNamed "ostler/ostlerlaw15.TagsKnows" = some 3 by kernel_rfl).symm.trans hf) |>.symm
  obtain rfl : fn = Tryd.f3 := (Option.some.inj (Tryd.func3.symm.trans hfn)).symm
  refine ⟨by kernel_rfl, fun j t ht => ?_⟩
  rw [Tryd.params3] at ht
  have hm : t ∈ [23, 23] := by simpa using Array.mem_of_getElem? ht
  have hall : ([23, 23].all fun u => !Tryd.prog.wantsStandIn u) = true := by kernel_rfl
  exact (show Tryd.prog.wantsStandIn t = false by simpa using List.all_eq_true.1 hall t hm)
theorem tagsKnows_card : Rows.TagsKnowsUptoCardSaid :=
  Claim7.holds_tied_plain_at .later [] _ _ _ _ said_tagsKnows (fun _ h => by cases h) (by kernel_rfl) (fun _ h => by cases h) tagsKnowsUpto_row_tie rfl ⟨rfl, rfl⟩ (by kernel_rfl) rfl plain_tagsKnows (by kernel_rfl)
end Go.Proofs.YtlbnnmdjmikedaaDoor.PR
namespace Go.Proofs.YtlbnnmdjmikedaaDoor
/-- The card, under a short name, for the claim. -/
theorem tagsKnows_card : Rows.TagsKnowsUptoCardSaid := PR.tagsKnows_card
end Go.Proofs.YtlbnnmdjmikedaaDoor
