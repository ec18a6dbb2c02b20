/- The plain law of TagsKnows: a file's tag stops a copy from being sent again, and a file that changed has another one. -/
import Derived.Test.YtlbnnmdjmikedaaDoorQTagsB
import Derived.Test.YtlbnnmdjmikedaaDoorRowT
import Derived.Test.YtlbnnmdjmikedaaDoorPPx22
namespace Go.Proofs.YtlbnnmdjmikedaaDoor.Q
set_option linter.unusedVariables false
set_option linter.unusedSimpArgs false
open Go.RowKit Go.Proofs.YtlbnnmdjmikedaaDoorW.PrintWords Go.Proofs.YtlbnnmdjmikedaaDoorW.PrintLast Go.Proofs.YtlbnnmdjmikedaaDoorW.PrintMore
open PP
theorem TagsKnows (f g : S23) (hf : PR.good23 f) (hg : PR.good23 g) (hb : PR.bulk23 f + PR.bulk23 g ≤ 1048576) : ∃ k, ostlerlaw15_TagsKnows.f k f.f0 f.f1 f.f2 g.f0 g.f1 g.f2 = some true := by
  obtain ⟨fb, ft, fs⟩ := f
  obtain ⟨gb, gt, gs⟩ := g
  obtain ⟨-, hf1, hf2⟩ := hf
  obtain ⟨-, hg1, hg2⟩ := hg
  have bf : fb.size ≤ 1048576 := by unfold PR.bulk23 at hb; dsimp only at hb; omega
  have bg : gb.size ≤ 1048576 := by unfold PR.bulk23 at hb; dsimp only at hb; omega
  have rf := wf64 hf2; have rg := wf64 hg2
  dsimp only at rf rg
  refine ⟨500, ?_⟩
  have Mf := Make_is fb ft fs (by omega) rf.2
  have Mg := Make_is gb gt gs (by omega) rg.2
  have lf := tagL_len fs.toNat fb.size (by omega) (by omega)
  have Nf := next_tag fs.toNat fb.size
  have Pf : ∀ j, 100 ≤ j → tags_Parse.f j (B (tagL fs.toNat fb.size)) = some ([(⟨false, B (tagL fs.toNat fb.size)⟩ : Tg)], false, 0) := fun j hj => by
    rw [Parse_is _ (by omega) (by omega), parse_tag]
  have inj : tagL fs.toNat fb.size = tagL gs.toNat gb.size → fs.toNat = gs.toNat := tagL_inj
  generalize tagL fs.toNat fb.size = a at Mf lf Nf Pf inj
  generalize tagL gs.toNat gb.size = b at Mg inj
  have DA := decide_inm (k := 498) [71, 69, 84] true (get_j0 fb ft fs 498) (Pf 497 (by decide)) Mf (by decide)
  have DM := decide_im (k := 498) [71, 69, 84] true (get_j0 fb ft fs 498) (Pf 499 (by decide)) Mf (by decide)
  have S1 := same_ir (k := 499) Nf (by omega) Mf (by omega)
  rw [if_pos rfl] at DA DM
  rw [if_pos rfl] at DA
  rw [decide_eq_true rfl] at S1
  have DA2 := decide_inm (k := 497) [71, 69, 84] true (get_j0 gb gt gs 497) (Pf 496 (by decide)) Mg (by decide)
  have DM2 := decide_im (k := 497) [71, 69, 84] true (get_j0 gb gt gs 497) (Pf 498 (by decide)) Mg (by decide)
  have S2 := same_ir (k := 498) Nf (by omega) Mg (by omega)
  have DN := decide_nil (k := 497) [71, 69, 84] true (get_j0 fb ft fs 497) (by decide)
  have AW := awake15 (k := 498) (by decide)
  unfold ostlerlaw15_TagsKnows.f
  have er : rd_T30 [(⟨false, B a⟩ : Tg)] 0 = ⟨false, B a⟩ := rfl
  rw [Mf, Option.bind_some, Pf 500 (by decide), Option.bind_some, if_pos rfl, if_neg (show ¬ (false = true) by decide), if_pos (by simp), if_pos (by simp), er, if_neg (show ¬ (false = true) by decide), bne_self_eq_false]
  rw [ostlerlaw15_TagsKnows.j0, if_neg (by decide), Option.bind_some, Option.bind_some, Option.bind_some]
  rw [show (⟨#[105, 102, 45, 110, 111, 110, 101, 45, 109, 97, 116, 99, 104]⟩ : ByteArray) = B INM from rfl, show (⟨#[105, 102, 45, 109, 97, 116, 99, 104]⟩ : ByteArray) = B IM from rfl, show (⟨#[105, 102, 45, 114, 97, 110, 103, 101]⟩ : ByteArray) = B IR from rfl, show (⟨#[71, 69, 84]⟩ : ByteArray) = B [71, 69, 84] from rfl]
  rw [DA, Option.bind_some, if_pos rfl, DM, Option.bind_some, if_pos rfl, S1, Option.bind_some, ostlerlaw15_TagsKnows.j1, mx0, mx0]
  by_cases h : ((fs.toNat : Nat) : Int) = ((gs.toNat : Nat) : Int)
  · rw [if_pos h, if_pos rfl, AW]; rfl
  · have hab : ¬ a = b := fun e => h (by rw [inj e])
    have hba : ¬ (B b).toList = (B a).toList := ne_of (fun e => hab e.symm)
    rw [if_neg hab] at DA2 DM2
    rw [decide_eq_false hab] at S2
    rw [if_neg h, Mg, Option.bind_some, if_neg hba, show (⟨#[71, 69, 84]⟩ : ByteArray) = B [71, 69, 84] from rfl, DA2, Option.bind_some, if_pos rfl, DM2, Option.bind_some, if_pos rfl, S2, Option.bind_some, if_pos rfl, if_neg (by decide), DN, Option.bind_some, if_pos rfl, AW]; rfl
end Go.Proofs.YtlbnnmdjmikedaaDoor.Q
