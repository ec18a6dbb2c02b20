/- The row and the tied card of 'ostler/ostlerlaw15.TagsCompares': out of the plain law and the walk. -/
import Derived.Test.YtlbnnmdjmikedaaGreatDoorRowT
import Derived.Test.YtlbnnmdjmikedaaGreatDoorPPx28
import Derived.Test.YtlbnnmdjmikedaaGreatDoorQTagsCompares
namespace Go.Proofs.YtlbnnmdjmikedaaGreatDoor.PR
open Go.ChangeShapes Go.WideShapes Go.ChangeAt Go.RowKit
open Go.ChangeMaps (open_string shut_string)
set_option linter.unusedSimpArgs false
set_option linter.unusedVariables false

theorem reads_tagsCompares (os : Os) {H : Type} (enc : TypeId × Value → H) : ∃ places, DataW.whole enc Tryz.prog ((World.laidAll Tryz.prog os laidL).forCall (fun _ _ => 0) ⟨#[], #[.agg #[.bool false, .string ⟨#[]⟩], .agg #[.bool false, .string ⟨#[]⟩], .agg #[.string ⟨#[]⟩, .int .i64 0, .int .i64 0]], []⟩).memory Tryz.f4.params.toList Rows.tagsComparesSpec.vars false (#[.agg #[.bool false, .string ⟨#[]⟩], .agg #[.bool false, .string ⟨#[]⟩], .agg #[.string ⟨#[]⟩, .int .i64 0, .int .i64 0]] : Array Value).toList 8 = some ([.agg [.lit (.bool false), .lit (.string [])], .agg [.lit (.bool false), .lit (.string [])], .agg [.lit (.string []), .lit (.int .i64 0), .lit (.int .i64 0)]], [], places) :=
  ⟨[], by kernel_rfl⟩
set_option maxRecDepth 100000 in
theorem lifted_tagsCompares (os : Os) (started : os.Started) (H : Type) (enc : TypeId × Value → H) (F : Stop.Interp) :
    ReturnsInHanded {} Tryz.checked os 4 .any ((Rows.OpenSpec.upto Rows.tagsComparesSpec).preRow enc Tryz.prog Tryz.f4 Rows.tagsComparesUptoRow.domain false Rows.tagsComparesUptoRow.laid) (((Rows.OpenSpec.upto Rows.tagsComparesSpec).at F).post enc Tryz.prog Tryz.f4 false true false false) := by
  obtain ⟨places, hx⟩ := reads_tagsCompares os enc
  refine returnsInHanded_of_row (C := Tryz.checked) (s := (Rows.OpenSpec.upto Rows.tagsComparesSpec)) own started (by kernel_rfl) Tryz.func4
    (wit os #[.agg #[.bool false, .string ⟨#[]⟩], .agg #[.bool false, .string ⟨#[]⟩], .agg #[.string ⟨#[]⟩, .int .i64 0, .int .i64 0]] (by kernel_rfl) (OpenSpec.preRow_of_cond 8 hx (by kernel_rfl) (fun k hk => by cases hk; kernel_rfl) (by kernel_rfl) (laid_met os _))) ?_
  intro W base args ds gs before hval0 hW _ hcond hsz0 hL hS _
  have hsz : (DataW.weightsEach Tryz.prog (Tryz.f4.params.toList ++ (Rows.OpenSpec.upto Rows.tagsComparesSpec).bare.plain.varTypes Tryz.prog) (ds ++ gs)).all (· ≤ reachBytes) = true := hsz0
  have hG := gi hL hS
  have hval : ∀ (j : Nat) t v, Tryz.f4.params[j]? = some t → args[j]? = some v → Value.okWide Tryz.prog W .any base t v := hval0
  have hW' := hW
  obtain ⟨p, q, hA0, hV, rfl, hfz, hnd⟩ := hW
  have hA : DataW.TrodAll enc Tryz.prog W 0 (fun _ => true) true Tryz.f4.params.toList args.toList ds p := hA0
  rw [Tryz.params4] at hA hval hsz
  obtain ⟨v0, vs0, d0, ds0, p0, q0, hargs, rfl, rfl, h0, r0⟩ := trodAll_cons hA
  obtain ⟨v1, vs1, d1, ds1, p1, q1, rfl, rfl, rfl, h1, r1⟩ := trodAll_cons r0
  obtain ⟨v2, vs2, d2, ds2, p2, q2, rfl, rfl, rfl, h2, r2⟩ := trodAll_cons r1
  obtain ⟨rfl, rfl, rfl⟩ := trodAll_nil r2
  obtain rfl : args = #[v0, v1, v2] := by cases args; simp_all
  obtain ⟨rfl, rfl⟩ := trodVars_none hV
  have k0 := h0
  have lt0 : ∀ x ∈ p0, x.block < W.heap.size := by obtain ⟨m, hm⟩ := k0; exact DataW.trod_lt m _ _ _ hm
  obtain ⟨cs0, a0, rfl, K0, G0, B0⟩ := open_agg Tryz.underlying31 opens_k31 (hval 0 31 v0 rfl rfl) h0
  have G0' : good31 a0 := G0
  obtain rfl : cs0 = #[.bool a0.f0, .string a0.f1] := by have := PP.k31_open K0; cases cs0; simpa using this
  have k1 := h1
  have lt1 : ∀ x ∈ p1, x.block < W.heap.size := by obtain ⟨m, hm⟩ := k1; exact DataW.trod_lt m _ _ _ hm
  obtain ⟨cs1, a1, rfl, K1, G1, B1⟩ := open_agg Tryz.underlying31 opens_k31 (hval 1 31 v1 rfl rfl) h1
  have G1' : good31 a1 := G1
  obtain rfl : cs1 = #[.bool a1.f0, .string a1.f1] := by have := PP.k31_open K1; cases cs1; simpa using this
  have k2 := h2
  have lt2 : ∀ x ∈ p2, x.block < W.heap.size := by obtain ⟨m, hm⟩ := k2; exact DataW.trod_lt m _ _ _ hm
  obtain ⟨cs2, a2, rfl, K2, G2, B2⟩ := open_agg Tryz.underlying35 opens_k35 (hval 2 35 v2 rfl rfl) h2
  have G2' : good35 a2 := G2
  obtain rfl : cs2 = #[.string a2.f0, .int .i64 a2.f1, .int .i64 a2.f2] := by have := PP.k35_open K2; cases cs2; simpa using this
  have hb : Rows.uptoSmall H ([_, _, _] ++ []) = true := hcond _ rfl
  have hb := upto_bound hb
  simp only [List.append_nil, Rows.uptoBulkAll, upto_string, Array.length_toList] at hb
  clear hA0 hval0 hsz0 hsz
  obtain ⟨k, hk⟩ := Q.TagsCompares a0 a1 a2 G0' G1' G2' (by have : bulk31 a0 + bulk31 a1 + bulk35 a2 = _ := rfl; omega)
  refine (PP.ostlerlaw15_TagsCompares.calls k a0.f0 a0.f1 a1.f0 a1.f1 a2.f0 a2.f1 a2.f2 true W hG hk).mono fun e W' ⟨he, bel⟩ => ?_
  subst he
  exact ⟨_, rfl, _, _, _, [], _, [], hW', trodAll_mk1 (shut_bool Tryz.underlying4 _), (trodAll_cons_mk (Below.trod laidOut (by kernel_rfl) (of_decide_eq_true (by kernel_rfl)) k0 bel lt0) (trodAll_cons_mk (Below.trod laidOut (by kernel_rfl) (of_decide_eq_true (by kernel_rfl)) k1 bel lt1) (trodAll_cons_mk (Below.trod laidOut (by kernel_rfl) (of_decide_eq_true (by kernel_rfl)) k2 bel lt2) trodAll_mk0))), rfl, bel.frame _, fun h => by cases h⟩
theorem said_tagsCompares : Rows.TagsComparesUptoSaid :=
  OpenClaim.holds_of_cond 4 Tryz.f4 rfl rfl rfl rfl rfl rfl rfl ⟨rfl, rfl, rfl, rfl, rfl⟩ rfl rfl rfl rfl rfl (by kernel_rfl) Tryz.func4 (by kernel_rfl)
    (of_decide_eq_true (by kernel_rfl)) (by unfold Func.isWrapper; first | (rw [if_pos (by decide +kernel)]; kernel_rfl) | (rw [if_neg (by decide +kernel)]; exact ⟨rfl, rfl⟩))
    (fun os started H enc _ F => by rw [OpenClaim.pre_eq_preRow]; exact lifted_tagsCompares os started H enc F)
theorem plain_tagsCompares (f : FuncId) (fn : Func) (hf : Tryz.pinned.checked.prog.funcNamed "ostler/ostlerlaw15.TagsCompares" = some f) (hfn : Tryz.pinned.checked.prog.funcs[f]? = some fn) :
    true = Tryz.pinned.checked.prog.looks [] ∧ ∀ (j : Nat) t, fn.params[j]? = some t → Tryz.pinned.checked.prog.wantsStandIn t = false := by
  obtain rfl : f = 4 := Option.some.inj ((show Tryz.prog.funcNamed "ostler/ostlerlaw15.TagsCompares" = some 4 by kernel_rfl).symm.trans hf) |>.symm
  obtain rfl : fn = Tryz.f4 := (Option.some.inj (Tryz.func4.symm.trans hfn)).symm
  refine ⟨by kernel_rfl, fun j t ht => ?_⟩
  rw [Tryz.params4] at ht
  have hm : t ∈ [31, 31, 35] := by simpa using Array.mem_of_getElem? ht
  have hall : ([31, 31, 35].all fun u => !Tryz.prog.wantsStandIn u) = true := by kernel_rfl
  exact (show Tryz.prog.wantsStandIn t = false by simpa using List.all_eq_true.1 hall t hm)
theorem tagsCompares_card : Rows.TagsComparesUptoCardSaid :=
  Claim7.holds_tied_plain_at .later [] _ _ _ _ said_tagsCompares (fun _ h => by cases h) (by kernel_rfl) (fun _ h => by cases h) tagsComparesUpto_row_tie rfl ⟨rfl, rfl⟩ (by kernel_rfl) rfl plain_tagsCompares (by kernel_rfl)
end Go.Proofs.YtlbnnmdjmikedaaGreatDoor.PR
namespace Go.Proofs.YtlbnnmdjmikedaaGreatDoor
/-- The card, under a short name, for the claim. -/
theorem tagsCompares_card : Rows.TagsComparesUptoCardSaid := PR.tagsCompares_card
end Go.Proofs.YtlbnnmdjmikedaaGreatDoor
