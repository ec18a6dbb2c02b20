/- The chapter's examples of dates hold. -/
import Derived.Test.YtbbcnmdifiblfaaDoorQDate4
import Derived.Test.YtbbcnmdifiblfaaDoorPPx12
namespace Go.Proofs.YtbbcnmdifiblfaaDoor.Q
set_option linter.unusedVariables false
set_option linter.unusedSimpArgs false
open Go.RowKit Go.Proofs.YtbbcnmdifiblfaaDoorW.PrintWords Go.Proofs.YtbbcnmdifiblfaaDoorW.PrintLast Go.Proofs.YtbbcnmdifiblfaaDoorW.PrintMore
open PP

theorem pt_1994 : Pt 784111777 1994 10 5 31777 := by
  refine ⟨by decide, by decide, by decide, by decide, by decide +kernel, by decide, by decide, by decide +kernel⟩
theorem pt_1 : Pt 1 1970 0 0 1 := by
  refine ⟨by decide, by decide, by decide, by decide, by decide +kernel, by decide, by decide, by decide +kernel⟩
theorem fmt_inj {n y m d r n' y' m' d' r' : Nat} (h : Pt n y m d r) (h' : Pt n' y' m' d' r') (e : ((fmt (wkOf (n / 86400)) y m d r).drop 5).take 11 = ((fmt (wkOf (n' / 86400)) y' m' d' r').drop 5).take 11) : y = y' ∧ m = m' ∧ d = d' := by
  obtain ⟨b0, b1, b2, b3, b4, b5⟩ := pt_bd h
  obtain ⟨c0, c1, c2, c3, c4, c5⟩ := pt_bd h'
  obtain ⟨f0, f1, f2, f3, f4, f5, f6, f7, f8, f9⟩ := fmt_shape (wkOf (n / 86400)) (wkOf_len _) y m d r b2
  obtain ⟨g0, g1, g2, g3, g4, g5, g6, g7, g8, g9⟩ := fmt_shape (wkOf (n' / 86400)) (wkOf_len _) y' m' d' r' c2
  rw [f9, g9] at e
  have two_inj : ∀ a b : Nat, a < 100 → b < 100 → two a = two b → a = b := by
    have key : ∀ a b : Fin 10, dg a.val = dg b.val → a.val = b.val := by decide +kernel
    intro a b ha hb hh
    unfold two at hh
    simp only [List.cons.injEq, and_true] at hh
    have k1 := key ⟨a / 10, by omega⟩ ⟨b / 10, by omega⟩ hh.1
    have k2 := key ⟨a % 10, by omega⟩ ⟨b % 10, by omega⟩ hh.2
    dsimp only at k1 k2
    omega
  have four_inj : ∀ a b : Nat, a < 10000 → b < 10000 → four a = four b → a = b := by
    intro a b ha hb hh
    rw [← four_two a ha, ← four_two b hb] at hh
    obtain ⟨h1, h2⟩ := List.append_inj hh rfl
    have k1 := two_inj _ _ (by omega) (by omega) h1
    have k2 := two_inj _ _ (by omega) (by omega) h2
    omega
  simp only [List.append_assoc] at e
  obtain ⟨e1, e⟩ := List.append_inj e rfl
  obtain ⟨_, e⟩ := List.append_inj e rfl
  obtain ⟨e2, e⟩ := List.append_inj e (by rw [moOf_len b2, moOf_len c2])
  obtain ⟨_, e3⟩ := List.append_inj e rfl
  refine ⟨four_inj _ _ (by omega) (by omega) e3, moOf_inj b2 c2 e2, ?_⟩
  have := two_inj _ _ (by omega) (by omega) e1
  omega
theorem awake02 {k : Nat} (hk : 9000 ≤ k) : ostlerlaw02_awake.f k = some true := by
  have f1 := Format_is pt_1994 hk
  have p1 := Parse_fmt pt_1 hk
  have e1 : B (fmt (wkOf (1 / 86400)) 1970 0 0 1) = (⟨#[84, 104, 117, 44, 32, 48, 49, 32, 74, 97, 110, 32, 49, 57, 55, 48, 32, 48, 48, 58, 48, 48, 58, 48, 49, 32, 71, 77, 84]⟩ : ByteArray) := by kernel_rfl
  have e2 : fmt (wkOf (784111777 / 86400)) 1994 10 5 31777 = [83, 117, 110, 44, 32, 48, 54, 32, 78, 111, 118, 32, 49, 57, 57, 52, 32, 48, 56, 58, 52, 57, 58, 51, 55, 32, 71, 77, 84] := by kernel_rfl
  have p2 : date_Parse.f k (⟨#[70, 114, 105, 44, 32, 48, 49, 32, 74, 97, 110, 32, 49, 57, 55, 48, 32, 48, 48, 58, 48, 48, 58, 48, 49, 32, 71, 77, 84]⟩ : ByteArray) = some (0, 20) := by
    obtain ⟨x, hx, rfl | ⟨N, y, m, d, r, rfl, hp, hs⟩⟩ := Parse_any (⟨#[70, 114, 105, 44, 32, 48, 49, 32, 74, 97, 110, 32, 49, 57, 55, 48, 32, 48, 48, 58, 48, 48, 58, 48, 49, 32, 71, 77, 84]⟩ : ByteArray) hk
    · exact hx
    · exfalso
      have hl : [70, 114, 105, 44, 32, 48, 49, 32, 74, 97, 110, 32, 49, 57, 55, 48, 32, 48, 48, 58, 48, 48, 58, 48, 49, 32, 71, 77, 84] = fmt (wkOf (N / 86400)) y m d r := B_inj hs
      obtain ⟨b0, b1, b2, b3, b4, b5⟩ := pt_bd hp
      have hi := fmt_inj hp pt_1 (by rw [← hl]; kernel_rfl)
      obtain ⟨rfl, rfl, rfl⟩ := hi
      have hd := hp.day
      have hd0 : N / 86400 = 0 := by
        have : Cal.U ((1970 : Nat) : Int) + Cal.ah 0 (Cal.lp ((1970 : Nat) : Int)) + ((0 : Nat) : Int) = 0 := by decide +kernel
        omega
      obtain ⟨f0, f1, f2, f3, f4, f5, f6, f7, f8, f9⟩ := fmt_shape (wkOf (N / 86400)) (wkOf_len _) 1970 0 0 r b2
      rw [← hl, hd0] at f7
      exact absurd f7 (by decide +kernel)
  unfold ostlerlaw02_awake.f
  rw [← e1, p1]
  rw [show (784111777 : Int) = ((784111777 : Nat) : Int) from rfl, f1, Option.bind_some, Option.bind_some, p2, Option.bind_some, B_toL, if_pos e2]
  rfl
end Go.Proofs.YtbbcnmdifiblfaaDoor.Q
