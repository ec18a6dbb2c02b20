/- The row and the tied card of 'ostler/ostlerlaw10.PrioUrgent': out of the plain law and the walk. -/
import Derived.Test.YtbndichleiameaaDoorRowT
import Derived.Test.YtbndichleiameaaDoorPPxEostlerlaw10PrioUrgent
import Derived.Test.YtbndichleiameaaDoorQPrioUrgent
namespace Go.Proofs.YtbndichleiameaaDoor.PR
open Go.ChangeShapes Go.WideShapes Go.ChangeAt Go.RowKit
open Go.ChangeMaps (open_string shut_string)
set_option linter.unusedSimpArgs false
set_option linter.unusedVariables false

theorem reads_prioUrgent (os : Os) {H : Type} (enc : TypeId × Value → H) : ∃ places, DataW.whole enc Tryd.prog ((World.laidAll Tryd.prog os laidL).forCall (fun _ _ => 0) ⟨#[], #[.slice none 0 0, .slice none 0 0], []⟩).memory Tryd.f6.params.toList Rows.prioUrgentSpec.vars false (#[.slice none 0 0, .slice none 0 0] : Array Value).toList 8 = some ([.nil, .nil], [], places) :=
  ⟨[], by kernel_rfl⟩
set_option maxRecDepth 100000 in
theorem lifted_prioUrgent (os : Os) (started : os.Started) (H : Type) (enc : TypeId × Value → H) (F : Stop.Interp) :
    ReturnsInHanded {} Tryd.checked os 6 .any ((Rows.OpenSpec.upto Rows.prioUrgentSpec).preRow enc Tryd.prog Tryd.f6 Rows.prioUrgentUptoRow.domain false Rows.prioUrgentUptoRow.laid) (((Rows.OpenSpec.upto Rows.prioUrgentSpec).at F).post enc Tryd.prog Tryd.f6 false true false false) := by
  obtain ⟨places, hx⟩ := reads_prioUrgent os enc
  refine returnsInHanded_of_row (C := Tryd.checked) (s := (Rows.OpenSpec.upto Rows.prioUrgentSpec)) own started (by kernel_rfl) Tryd.func6
    (wit os #[.slice none 0 0, .slice none 0 0] (by kernel_rfl) (OpenSpec.preRow_of_cond 8 hx (by kernel_rfl) (fun k hk => by cases hk; kernel_rfl) (by kernel_rfl) (laid_met os _))) ?_
  intro W base args ds gs before hval0 hW _ hcond hsz0 hL hS _
  have hsz : (DataW.weightsEach Tryd.prog (Tryd.f6.params.toList ++ (Rows.OpenSpec.upto Rows.prioUrgentSpec).bare.plain.varTypes Tryd.prog) (ds ++ gs)).all (· ≤ reachBytes) = true := hsz0
  have hG := gi hL hS
  have hval : ∀ (j : Nat) t v, Tryd.f6.params[j]? = some t → args[j]? = some v → Value.okWide Tryd.prog W .any base t v := hval0
  have hW' := hW
  obtain ⟨p, q, hA0, hV, rfl, hfz, hnd⟩ := hW
  have hA : DataW.TrodAll enc Tryd.prog W 0 (fun _ => true) true Tryd.f6.params.toList args.toList ds p := hA0
  rw [Tryd.params6] at hA hval hsz
  obtain ⟨v0, vs0, d0, ds0, p0, q0, hargs, rfl, rfl, h0, r0⟩ := trodAll_cons hA
  obtain ⟨v1, vs1, d1, ds1, p1, q1, rfl, rfl, rfl, h1, r1⟩ := trodAll_cons r0
  obtain ⟨rfl, rfl, rfl⟩ := trodAll_nil r1
  obtain rfl : args = #[v0, v1] := by cases args; simp_all
  obtain ⟨rfl, rfl⟩ := trodVars_none hV
  have k0 := h0
  have lt0 : ∀ x ∈ p0, x.block < W.heap.size := by obtain ⟨m, hm⟩ := k0; exact DataW.trod_lt m _ _ _ hm
  obtain ⟨A0, c0, l0, rfl, g0, C0, G0, D0⟩ := open_list Tryd.underlying36 (opens_slice Tryd.underlying36 (by kernel_rfl) (opens_k38)) (hval 0 36 v0 rfl rfl) h0
  have B0 : (l0.map bulk38).sum + 1 ≤ Rows.uptoBulk d0 := D0
  have G0' : ∀ x ∈ l0, good38 x := G0
  have k1 := h1
  have lt1 : ∀ x ∈ p1, x.block < W.heap.size := by obtain ⟨m, hm⟩ := k1; exact DataW.trod_lt m _ _ _ hm
  obtain ⟨A1, c1, l1, rfl, g1, C1, G1, D1⟩ := open_list Tryd.underlying29 (opens_slice Tryd.underlying29 (by kernel_rfl) (opens_k3)) (hval 1 29 v1 rfl rfl) h1
  have B1 : (l1.map bulk3).sum + 1 ≤ Rows.uptoBulk d1 := D1
  have G1' : ∀ x ∈ l1, good3 x := G1
  have hb : Rows.uptoSmall H ([_, _] ++ []) = true := hcond _ rfl
  have hb := upto_bound hb
  simp only [List.append_nil, Rows.uptoBulkAll, upto_string, Array.length_toList] at hb
  clear hA0 hval0 hsz0 hsz
  obtain ⟨k, hk⟩ := Q.PrioUrgent l0 l1 G0' G1' (by have : (l0.map bulk38).sum + (l1.map bulk3).sum = _ := rfl; omega)
  refine (PP.ostlerlaw10_PrioUrgent.calls k A0 c0 l0 A1 c1 l1 true W hG C0 g0 C1 g1 hk).mono fun e W' ⟨he, bel⟩ => ?_
  subst he
  exact ⟨_, rfl, _, _, _, [], _, [], hW', trodAll_mk1 (shut_bool Tryd.underlying4 _), (trodAll_cons_mk (Below.trod laidOut (by kernel_rfl) (of_decide_eq_true (by kernel_rfl)) k0 bel lt0) (trodAll_cons_mk (Below.trod laidOut (by kernel_rfl) (of_decide_eq_true (by kernel_rfl)) k1 bel lt1) trodAll_mk0)), rfl, bel.frame _, fun h => by cases h⟩
theorem said_prioUrgent : Rows.PrioUrgentUptoSaid :=
  OpenClaim.holds_of_cond 6 Tryd.f6 rfl rfl rfl rfl rfl rfl rfl ⟨rfl, rfl, rfl, rfl, rfl⟩ rfl rfl rfl rfl rfl (by kernel_rfl) Tryd.func6 (by kernel_rfl)
    (of_decide_eq_true (by kernel_rfl)) (by unfold Func.isWrapper; first | (rw [if_pos (by decide +kernel)]; kernel_rfl) | (rw [if_neg (by decide +kernel)]; exact ⟨rfl, rfl⟩))
    (fun os started H enc _ F => by rw [OpenClaim.pre_eq_preRow]; exact lifted_prioUrgent os started H enc F)
theorem plain_prioUrgent (f : FuncId) (fn : Func) (hf : Tryd.pinned.checked.prog.funcNamed "ostler/ostlerlaw10.PrioUrgent" = some f) (hfn : Tryd.pinned.checked.prog.funcs[f]? = some fn) :
    false = Tryd.pinned.checked.prog.looks [] ∧ ∀ (j : Nat) t, fn.params[j]? = some t → Tryd.pinned.checked.prog.wantsStandIn t = false := by
  obtain rfl : f = 6 := Option.some.inj ((show Tryd.prog.funcNamed "ostler/ostlerlaw10.PrioUrgent" = some 6 by kernel_rfl).symm.trans hf) |>.symm
  obtain rfl : fn = Tryd.f6 := (Option.some.inj (Tryd.func6.symm.trans hfn)).symm
  refine ⟨by kernel_rfl, fun j t ht => ?_⟩
  rw [Tryd.params6] at ht
  have hm : t ∈ [36, 29] := by simpa using Array.mem_of_getElem? ht
  have hall : ([36, 29].all fun u => !Tryd.prog.wantsStandIn u) = true := by kernel_rfl
  exact (show Tryd.prog.wantsStandIn t = false by simpa using List.all_eq_true.1 hall t hm)
theorem prioUrgent_card : Rows.PrioUrgentUptoCardSaid :=
  Claim7.holds_tied_plain_at .later [] _ _ _ _ said_prioUrgent (fun _ h => by cases h) (by kernel_rfl) (fun _ h => by cases h) prioUrgentUpto_row_tie rfl ⟨rfl, rfl⟩ (by kernel_rfl) rfl plain_prioUrgent (by kernel_rfl)
end Go.Proofs.YtbndichleiameaaDoor.PR
namespace Go.Proofs.YtbndichleiameaaDoor
/-- The card, under a short name, for the claim. -/
theorem prioUrgent_card : Rows.PrioUrgentUptoCardSaid := PR.prioUrgent_card
end Go.Proofs.YtbndichleiameaaDoor
