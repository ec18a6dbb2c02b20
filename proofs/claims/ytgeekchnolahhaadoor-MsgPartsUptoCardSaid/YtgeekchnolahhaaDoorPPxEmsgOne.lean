-- Written by a program of this session (a changed copy of the kit's print) out of the translation. Not trusted: Lean checks it.
import Derived.Test.YtgeekchnolahhaaDoorPPx0
import Derived.Test.YtgeekchnolahhaaDoorPPxEtextLower
import Derived.Test.YtgeekchnolahhaaDoorPPx4
import Derived.Test.YtgeekchnolahhaaDoorPPx6
import Derived.Test.YtgeekchnolahhaaDoorPPx8
import Derived.Test.YtgeekchnolahhaaDoorPPx10
import Derived.Test.YtgeekchnolahhaaDoorPPx15
import Derived.Test.YtgeekchnolahhaaDoorPPxEmsgTwo
import Derived.Test.YtgeekchnolahhaaDoorPPxEstringsSplit
import Derived.Test.YtgeekchnolahhaaDoorPPxEmsgaim
import Derived.Test.YtgeekchnolahhaaDoorPPxEmsgTwo
namespace Go.Proofs.YtgeekchnolahhaaDoor.PP
open Go.RowKit Go.Proofs.YtgeekchnolahhaaDoorW.PrintWords Go.Proofs.YtgeekchnolahhaaDoorW.PrintLast Go.Proofs.YtgeekchnolahhaaDoorW.PrintMore
attribute [local go_sem] max2_int min2_int max_two min_two max_three min_three max_four min_four   -- for this text's walks alone
set_option linter.unusedVariables false
set_option linter.unusedSimpArgs false

/-! ### msg_One: function 21 (an extern) -/
mutual
def msg_One.l0 : Nat → ByteArray → ByteArray → List (S30) → List ByteArray → List (S30) → List (S30) → Int → Int → Option (ByteArray × ByteArray × ByteArray × ByteArray × (List (S30)) × ByteArray × (List (S30)) × Int)
  | 0, _, _, _, _, _, _, _, _ => none
  | k + 1, x0, x1, x2, x8, x9, x25, x26, x27 => if x27 < x26 then (if 0 ≤ x27 then (if x27 < (x25.length : Int) then ((text_Token.f k ((rd_T30 x25 x27).f0)).bind fun t169 => (if t169 = true then ((text_Value.f k ((rd_T30 x25 x27).f1)).bind fun t170 => (msg_One.j1 k x0 x1 x2 x8 x9 x25 x26 x27 (!t170) ((rd_T30 x25 x27).f0) ((rd_T30 x25 x27).f1))) else (msg_One.j1 k x0 x1 x2 x8 x9 x25 x26 x27 true ((rd_T30 x25 x27).f0) ((rd_T30 x25 x27).f1)))) else (none)) else (none)) else (if (x8.length : Int) = 1 then ((msg_aim.f x1).bind fun bt185 => (if bt185.1.toList = ([] : List UInt8) then ((msg_goes.f k x0 bt185.2.2).bind fun t188 => (if t188 = true then (msg_One.j3 k x2 x8 x9 false x0 bt185.1 bt185.2.1 bt185.2.2 (⟨#[]⟩ : ByteArray)) else (msg_One.j3 k x2 x8 x9 true x0 bt185.1 bt185.2.1 bt185.2.2 (⟨#[]⟩ : ByteArray)))) else (if bt185.2.1.toList = ([] : List UInt8) then (msg_One.j3 k x2 x8 x9 true x0 bt185.1 bt185.2.1 bt185.2.2 (⟨#[]⟩ : ByteArray)) else ((msg_goes.f k x0 bt185.2.2).bind fun t189 => (if t189 = true then (msg_One.j3 k x2 x8 x9 (bt185.2.2.toList == ([42] : List UInt8)) x0 bt185.1 bt185.2.1 bt185.2.2 (⟨#[]⟩ : ByteArray)) else (msg_One.j3 k x2 x8 x9 true x0 bt185.1 bt185.2.1 bt185.2.2 (⟨#[]⟩ : ByteArray))))))) else (some ((⟨#[]⟩ : ByteArray), (⟨#[]⟩ : ByteArray), (⟨#[]⟩ : ByteArray), (⟨#[]⟩ : ByteArray), ([] : List (S30)), (⟨#[]⟩ : ByteArray), ([] : List (S30)), 141)))
def msg_One.j1 : Nat → ByteArray → ByteArray → List (S30) → List ByteArray → List (S30) → List (S30) → Int → Int → Bool → ByteArray → ByteArray → Option (ByteArray × ByteArray × ByteArray × ByteArray × (List (S30)) × ByteArray × (List (S30)) × Int)
  | 0, _, _, _, _, _, _, _, _, _, _, _ => none
  | k + 1, x0, x1, x2, x8, x9, x25, x26, x27, x40, x169000, x169001 => if x40 = true then (some ((⟨#[]⟩ : ByteArray), (⟨#[]⟩ : ByteArray), (⟨#[]⟩ : ByteArray), (⟨#[]⟩ : ByteArray), ([] : List (S30)), (⟨#[]⟩ : ByteArray), ([] : List (S30)), 141)) else ((text_Lower.f x169000).bind fun t171 => (if t171.toList = ([104, 111, 115, 116] : List UInt8) then (if x8.length < 8796093022208 then (msg_One.l0 k x0 x1 x2 (x8 ++ [x169001]) x9 x25 x26 (wrap64 (x27 + 1))) else (none)) else (if t171.toList = ([99, 111, 110, 110, 101, 99, 116, 105, 111, 110] : List UInt8) then ((strings_Split.f x169001 (⟨#[44]⟩ : ByteArray)).bind fun t175 => (msg_One.l1 k x0 x1 x2 x8 x9 x25 x26 x27 t175 (t175.length : Int) 0)) else (msg_One.l0 k x0 x1 x2 x8 x9 x25 x26 (wrap64 (x27 + 1))))))
def msg_One.l1 : Nat → ByteArray → ByteArray → List (S30) → List ByteArray → List (S30) → List (S30) → Int → Int → List ByteArray → Int → Int → Option (ByteArray × ByteArray × ByteArray × ByteArray × (List (S30)) × ByteArray × (List (S30)) × Int)
  | 0, _, _, _, _, _, _, _, _, _, _, _ => none
  | k + 1, x0, x1, x2, x8, x9, x25, x26, x27, x56, x57, x58 => if x58 < x57 then (if 0 ≤ x58 then (if x58 < (x56.length : Int) then ((text_Trim.f (rdOf ByteArray.empty x56 x58)).bind fun t179 => ((text_Lower.f t179).bind fun t180 => ((mputI.f x9 t180 1).bind fun t181 => (msg_One.l1 k x0 x1 x2 x8 t181 x25 x26 x27 x56 x57 (wrap64 (x58 + 1)))))) else (none)) else (none)) else (msg_One.l0 k x0 x1 x2 x8 x9 x25 x26 (wrap64 (x27 + 1)))
def msg_One.j3 : Nat → List (S30) → List ByteArray → List (S30) → Bool → ByteArray → ByteArray → ByteArray → ByteArray → ByteArray → Option (ByteArray × ByteArray × ByteArray × ByteArray × (List (S30)) × ByteArray × (List (S30)) × Int)
  | 0, _, _, _, _, _, _, _, _, _ => none
  | k + 1, x2, x8, x9, x107, x185000, x185001, x185002, x185003, x185005 => if x107 = true then (some ((⟨#[]⟩ : ByteArray), (⟨#[]⟩ : ByteArray), (⟨#[]⟩ : ByteArray), (⟨#[]⟩ : ByteArray), ([] : List (S30)), (⟨#[]⟩ : ByteArray), ([] : List (S30)), 140)) else ((msg_Length.f k x2).bind fun bt190 => (if bt190.2.2 = 0 then (if x185001.toList = ([] : List UInt8) then (if 0 < (x8.length : Int) then (msg_One.j4 k x2 x9 x185000 (⟨#[104, 116, 116, 112]⟩ : ByteArray) (rdOf ByteArray.empty x8 0) x185003 x185005) else (none)) else (msg_One.j4 k x2 x9 x185000 x185001 x185002 x185003 x185005)) else (some ((⟨#[]⟩ : ByteArray), (⟨#[]⟩ : ByteArray), (⟨#[]⟩ : ByteArray), (⟨#[]⟩ : ByteArray), ([] : List (S30)), (⟨#[]⟩ : ByteArray), ([] : List (S30)), bt190.2.2))))
def msg_One.j4 : Nat → List (S30) → List (S30) → ByteArray → ByteArray → ByteArray → ByteArray → ByteArray → Option (ByteArray × ByteArray × ByteArray × ByteArray × (List (S30)) × ByteArray × (List (S30)) × Int)
  | 0, _, _, _, _, _, _, _ => none
  | k + 1, x2, x9, x185000, x185001, x185002, x185003, x185005 => (mputI.f x9 (⟨#[99, 111, 110, 116, 101, 110, 116, 45, 108, 101, 110, 103, 116, 104]⟩ : ByteArray) 0).bind fun t194 => (msg_One.l2 k t194 x2 (x2.length : Int) 0 x185000 x185001 x185002 x185003 ([] : List (S30)) x185005)
def msg_One.l2 : Nat → List (S30) → List (S30) → Int → Int → ByteArray → ByteArray → ByteArray → ByteArray → List (S30) → ByteArray → Option (ByteArray × ByteArray × ByteArray × ByteArray × (List (S30)) × ByteArray × (List (S30)) × Int)
  | 0, _, _, _, _, _, _, _, _, _, _ => none
  | k + 1, x9, x128, x129, x130, x185000, x185001, x185002, x185003, x185004, x185005 => if x130 < x129 then (if 0 ≤ x130 then (if x130 < (x128.length : Int) then ((text_Lower.f ((rd_T30 x128 x130).f0)).bind fun t199 => (if t199.toList = ([104, 111, 115, 116] : List UInt8) then (msg_One.l2 k x9 x128 x129 (wrap64 (x130 + 1)) x185000 x185001 x185002 x185003 x185004 x185005) else (if t199.toList = ([116, 101] : List UInt8) then (msg_One.l2 k x9 x128 x129 (wrap64 (x130 + 1)) x185000 x185001 x185002 x185003 x185004 x185005) else ((msg_Bound.f t199).bind fun t200 => (if t200 = true then (msg_One.l2 k x9 x128 x129 (wrap64 (x130 + 1)) x185000 x185001 x185002 x185003 x185004 x185005) else ((matI.f x9 t199).bind fun t201 => (if t201 = 0 then (if x185004.length < 4398046511104 then (msg_One.l2 k x9 x128 x129 (wrap64 (x130 + 1)) x185000 x185001 x185002 x185003 (x185004 ++ [(⟨t199, (rd_T30 x128 x130).f1⟩ : S30)]) x185005) else (none)) else (msg_One.l2 k x9 x128 x129 (wrap64 (x130 + 1)) x185000 x185001 x185002 x185003 x185004 x185005)))))))) else (none)) else (none)) else (some (x185000, x185001, x185002, x185003, x185004, x185005, ([] : List (S30)), 0))
end
def msg_One.f (k : Nat) (a0 : ByteArray) (a1 : ByteArray) (l2 : List (S30)) : Option (ByteArray × ByteArray × ByteArray × ByteArray × (List (S30)) × ByteArray × (List (S30)) × Int) := (text_Token.f k a0).bind fun t166 => (if t166 = true then (msg_One.l0 k a0 a1 l2 ([] : List ByteArray) ([] : List (S30)) l2 (l2.length : Int) 0) else (some ((⟨#[]⟩ : ByteArray), (⟨#[]⟩ : ByteArray), (⟨#[]⟩ : ByteArray), (⟨#[]⟩ : ByteArray), ([] : List (S30)), (⟨#[]⟩ : ByteArray), ([] : List (S30)), 140)))
theorem msg_One.mono_l : ∀ k, (∀ y0 y1 y2 y3 y4 y5 y6 y7, LeO (msg_One.l0 k y0 y1 y2 y3 y4 y5 y6 y7) (msg_One.l0 (k + 1) y0 y1 y2 y3 y4 y5 y6 y7)) ∧ (∀ y0 y1 y2 y3 y4 y5 y6 y7 y8 y9 y10, LeO (msg_One.j1 k y0 y1 y2 y3 y4 y5 y6 y7 y8 y9 y10) (msg_One.j1 (k + 1) y0 y1 y2 y3 y4 y5 y6 y7 y8 y9 y10)) ∧ (∀ y0 y1 y2 y3 y4 y5 y6 y7 y8 y9 y10, LeO (msg_One.l1 k y0 y1 y2 y3 y4 y5 y6 y7 y8 y9 y10) (msg_One.l1 (k + 1) y0 y1 y2 y3 y4 y5 y6 y7 y8 y9 y10)) ∧ (∀ y0 y1 y2 y3 y4 y5 y6 y7 y8, LeO (msg_One.j3 k y0 y1 y2 y3 y4 y5 y6 y7 y8) (msg_One.j3 (k + 1) y0 y1 y2 y3 y4 y5 y6 y7 y8)) ∧ (∀ y0 y1 y2 y3 y4 y5 y6, LeO (msg_One.j4 k y0 y1 y2 y3 y4 y5 y6) (msg_One.j4 (k + 1) y0 y1 y2 y3 y4 y5 y6)) ∧ (∀ y0 y1 y2 y3 y4 y5 y6 y7 y8 y9, LeO (msg_One.l2 k y0 y1 y2 y3 y4 y5 y6 y7 y8 y9) (msg_One.l2 (k + 1) y0 y1 y2 y3 y4 y5 y6 y7 y8 y9))
 | 0 => ⟨fun _ _ _ _ _ _ _ _ r h => by simp [msg_One.l0] at h, fun _ _ _ _ _ _ _ _ _ _ _ r h => by simp [msg_One.j1] at h, fun _ _ _ _ _ _ _ _ _ _ _ r h => by simp [msg_One.l1] at h, fun _ _ _ _ _ _ _ _ _ r h => by simp [msg_One.j3] at h, fun _ _ _ _ _ _ _ r h => by simp [msg_One.j4] at h, fun _ _ _ _ _ _ _ _ _ _ r h => by simp [msg_One.l2] at h⟩
 | k + 1 => by
  obtain ⟨ih0, ih1, ih2, ih3, ih4, ih5⟩ := msg_One.mono_l k
  refine ⟨?_, ?_, ?_, ?_, ?_, ?_⟩
  ·
   intro y0 y1 y2 y3 y4 y5 y6 y7
   unfold msg_One.l0
   repeat' first
   | (with_reducible exact ih0 _ _ _ _ _ _ _ _)
   | (with_reducible exact ih1 _ _ _ _ _ _ _ _ _ _ _)
   | (with_reducible exact ih2 _ _ _ _ _ _ _ _ _ _ _)
   | (with_reducible exact ih3 _ _ _ _ _ _ _ _ _)
   | (with_reducible exact ih4 _ _ _ _ _ _ _)
   | (with_reducible exact ih5 _ _ _ _ _ _ _ _ _ _)
   | (with_reducible exact msg_Length.mono _ _)
   | (with_reducible exact msg_goes.mono _ _ _)
   | (with_reducible exact text_Token.mono _ _)
   | (with_reducible exact text_Value.mono _ _)
   | (with_reducible exact LeO.refl _)
   | (with_reducible exact LeO.none _)
   | (with_reducible refine LeO.ite ?_ ?_)
   | (with_reducible refine LeO.bind ?_ (fun _ => ?_))
   | exact ih0 _ _ _ _ _ _ _ _
   | exact ih1 _ _ _ _ _ _ _ _ _ _ _
   | exact ih2 _ _ _ _ _ _ _ _ _ _ _
   | exact ih3 _ _ _ _ _ _ _ _ _
   | exact ih4 _ _ _ _ _ _ _
   | exact ih5 _ _ _ _ _ _ _ _ _ _
   | exact msg_Length.mono _ _
   | exact msg_goes.mono _ _ _
   | exact text_Token.mono _ _
   | exact text_Value.mono _ _
   | exact LeO.none _
   | refine LeO.ite ?_ ?_
   | refine LeO.bind ?_ (fun _ => ?_)
  ·
   intro y0 y1 y2 y3 y4 y5 y6 y7 y8 y9 y10
   unfold msg_One.j1
   repeat' first
   | (with_reducible exact ih0 _ _ _ _ _ _ _ _)
   | (with_reducible exact ih1 _ _ _ _ _ _ _ _ _ _ _)
   | (with_reducible exact ih2 _ _ _ _ _ _ _ _ _ _ _)
   | (with_reducible exact ih3 _ _ _ _ _ _ _ _ _)
   | (with_reducible exact ih4 _ _ _ _ _ _ _)
   | (with_reducible exact ih5 _ _ _ _ _ _ _ _ _ _)
   | (with_reducible exact msg_Length.mono _ _)
   | (with_reducible exact msg_goes.mono _ _ _)
   | (with_reducible exact text_Token.mono _ _)
   | (with_reducible exact text_Value.mono _ _)
   | (with_reducible exact LeO.refl _)
   | (with_reducible exact LeO.none _)
   | (with_reducible refine LeO.ite ?_ ?_)
   | (with_reducible refine LeO.bind ?_ (fun _ => ?_))
   | exact ih0 _ _ _ _ _ _ _ _
   | exact ih1 _ _ _ _ _ _ _ _ _ _ _
   | exact ih2 _ _ _ _ _ _ _ _ _ _ _
   | exact ih3 _ _ _ _ _ _ _ _ _
   | exact ih4 _ _ _ _ _ _ _
   | exact ih5 _ _ _ _ _ _ _ _ _ _
   | exact msg_Length.mono _ _
   | exact msg_goes.mono _ _ _
   | exact text_Token.mono _ _
   | exact text_Value.mono _ _
   | exact LeO.none _
   | refine LeO.ite ?_ ?_
   | refine LeO.bind ?_ (fun _ => ?_)
  ·
   intro y0 y1 y2 y3 y4 y5 y6 y7 y8 y9 y10
   unfold msg_One.l1
   repeat' first
   | (with_reducible exact ih0 _ _ _ _ _ _ _ _)
   | (with_reducible exact ih1 _ _ _ _ _ _ _ _ _ _ _)
   | (with_reducible exact ih2 _ _ _ _ _ _ _ _ _ _ _)
   | (with_reducible exact ih3 _ _ _ _ _ _ _ _ _)
   | (with_reducible exact ih4 _ _ _ _ _ _ _)
   | (with_reducible exact ih5 _ _ _ _ _ _ _ _ _ _)
   | (with_reducible exact msg_Length.mono _ _)
   | (with_reducible exact msg_goes.mono _ _ _)
   | (with_reducible exact text_Token.mono _ _)
   | (with_reducible exact text_Value.mono _ _)
   | (with_reducible exact LeO.refl _)
   | (with_reducible exact LeO.none _)
   | (with_reducible refine LeO.ite ?_ ?_)
   | (with_reducible refine LeO.bind ?_ (fun _ => ?_))
   | exact ih0 _ _ _ _ _ _ _ _
   | exact ih1 _ _ _ _ _ _ _ _ _ _ _
   | exact ih2 _ _ _ _ _ _ _ _ _ _ _
   | exact ih3 _ _ _ _ _ _ _ _ _
   | exact ih4 _ _ _ _ _ _ _
   | exact ih5 _ _ _ _ _ _ _ _ _ _
   | exact msg_Length.mono _ _
   | exact msg_goes.mono _ _ _
   | exact text_Token.mono _ _
   | exact text_Value.mono _ _
   | exact LeO.none _
   | refine LeO.ite ?_ ?_
   | refine LeO.bind ?_ (fun _ => ?_)
  ·
   intro y0 y1 y2 y3 y4 y5 y6 y7 y8
   unfold msg_One.j3
   repeat' first
   | (with_reducible exact ih0 _ _ _ _ _ _ _ _)
   | (with_reducible exact ih1 _ _ _ _ _ _ _ _ _ _ _)
   | (with_reducible exact ih2 _ _ _ _ _ _ _ _ _ _ _)
   | (with_reducible exact ih3 _ _ _ _ _ _ _ _ _)
   | (with_reducible exact ih4 _ _ _ _ _ _ _)
   | (with_reducible exact ih5 _ _ _ _ _ _ _ _ _ _)
   | (with_reducible exact msg_Length.mono _ _)
   | (with_reducible exact msg_goes.mono _ _ _)
   | (with_reducible exact text_Token.mono _ _)
   | (with_reducible exact text_Value.mono _ _)
   | (with_reducible exact LeO.refl _)
   | (with_reducible exact LeO.none _)
   | (with_reducible refine LeO.ite ?_ ?_)
   | (with_reducible refine LeO.bind ?_ (fun _ => ?_))
   | exact ih0 _ _ _ _ _ _ _ _
   | exact ih1 _ _ _ _ _ _ _ _ _ _ _
   | exact ih2 _ _ _ _ _ _ _ _ _ _ _
   | exact ih3 _ _ _ _ _ _ _ _ _
   | exact ih4 _ _ _ _ _ _ _
   | exact ih5 _ _ _ _ _ _ _ _ _ _
   | exact msg_Length.mono _ _
   | exact msg_goes.mono _ _ _
   | exact text_Token.mono _ _
   | exact text_Value.mono _ _
   | exact LeO.none _
   | refine LeO.ite ?_ ?_
   | refine LeO.bind ?_ (fun _ => ?_)
  ·
   intro y0 y1 y2 y3 y4 y5 y6
   unfold msg_One.j4
   repeat' first
   | (with_reducible exact ih0 _ _ _ _ _ _ _ _)
   | (with_reducible exact ih1 _ _ _ _ _ _ _ _ _ _ _)
   | (with_reducible exact ih2 _ _ _ _ _ _ _ _ _ _ _)
   | (with_reducible exact ih3 _ _ _ _ _ _ _ _ _)
   | (with_reducible exact ih4 _ _ _ _ _ _ _)
   | (with_reducible exact ih5 _ _ _ _ _ _ _ _ _ _)
   | (with_reducible exact msg_Length.mono _ _)
   | (with_reducible exact msg_goes.mono _ _ _)
   | (with_reducible exact text_Token.mono _ _)
   | (with_reducible exact text_Value.mono _ _)
   | (with_reducible exact LeO.refl _)
   | (with_reducible exact LeO.none _)
   | (with_reducible refine LeO.ite ?_ ?_)
   | (with_reducible refine LeO.bind ?_ (fun _ => ?_))
   | exact ih0 _ _ _ _ _ _ _ _
   | exact ih1 _ _ _ _ _ _ _ _ _ _ _
   | exact ih2 _ _ _ _ _ _ _ _ _ _ _
   | exact ih3 _ _ _ _ _ _ _ _ _
   | exact ih4 _ _ _ _ _ _ _
   | exact ih5 _ _ _ _ _ _ _ _ _ _
   | exact msg_Length.mono _ _
   | exact msg_goes.mono _ _ _
   | exact text_Token.mono _ _
   | exact text_Value.mono _ _
   | exact LeO.none _
   | refine LeO.ite ?_ ?_
   | refine LeO.bind ?_ (fun _ => ?_)
  ·
   intro y0 y1 y2 y3 y4 y5 y6 y7 y8 y9
   unfold msg_One.l2
   repeat' first
   | (with_reducible exact ih0 _ _ _ _ _ _ _ _)
   | (with_reducible exact ih1 _ _ _ _ _ _ _ _ _ _ _)
   | (with_reducible exact ih2 _ _ _ _ _ _ _ _ _ _ _)
   | (with_reducible exact ih3 _ _ _ _ _ _ _ _ _)
   | (with_reducible exact ih4 _ _ _ _ _ _ _)
   | (with_reducible exact ih5 _ _ _ _ _ _ _ _ _ _)
   | (with_reducible exact msg_Length.mono _ _)
   | (with_reducible exact msg_goes.mono _ _ _)
   | (with_reducible exact text_Token.mono _ _)
   | (with_reducible exact text_Value.mono _ _)
   | (with_reducible exact LeO.refl _)
   | (with_reducible exact LeO.none _)
   | (with_reducible refine LeO.ite ?_ ?_)
   | (with_reducible refine LeO.bind ?_ (fun _ => ?_))
   | exact ih0 _ _ _ _ _ _ _ _
   | exact ih1 _ _ _ _ _ _ _ _ _ _ _
   | exact ih2 _ _ _ _ _ _ _ _ _ _ _
   | exact ih3 _ _ _ _ _ _ _ _ _
   | exact ih4 _ _ _ _ _ _ _
   | exact ih5 _ _ _ _ _ _ _ _ _ _
   | exact msg_Length.mono _ _
   | exact msg_goes.mono _ _ _
   | exact text_Token.mono _ _
   | exact text_Value.mono _ _
   | exact LeO.none _
   | refine LeO.ite ?_ ?_
   | refine LeO.bind ?_ (fun _ => ?_)
theorem msg_One.mono : ∀ a0 a1 a2 k, LeO (msg_One.f k a0 a1 a2) (msg_One.f (k + 1) a0 a1 a2) := by
 intro a0 a1 a2 k
 obtain ⟨ih0, ih1, ih2, ih3, ih4, ih5⟩ := msg_One.mono_l k
 unfold msg_One.f
 repeat' first
   | (with_reducible exact ih0 _ _ _ _ _ _ _ _)
   | (with_reducible exact ih1 _ _ _ _ _ _ _ _ _ _ _)
   | (with_reducible exact ih2 _ _ _ _ _ _ _ _ _ _ _)
   | (with_reducible exact ih3 _ _ _ _ _ _ _ _ _)
   | (with_reducible exact ih4 _ _ _ _ _ _ _)
   | (with_reducible exact ih5 _ _ _ _ _ _ _ _ _ _)
   | (with_reducible exact msg_Length.mono _ _)
   | (with_reducible exact msg_goes.mono _ _ _)
   | (with_reducible exact text_Token.mono _ _)
   | (with_reducible exact text_Value.mono _ _)
   | (with_reducible exact LeO.refl _)
   | (with_reducible exact LeO.none _)
   | (with_reducible refine LeO.ite ?_ ?_)
   | (with_reducible refine LeO.bind ?_ (fun _ => ?_))
   | exact ih0 _ _ _ _ _ _ _ _
   | exact ih1 _ _ _ _ _ _ _ _ _ _ _
   | exact ih2 _ _ _ _ _ _ _ _ _ _ _
   | exact ih3 _ _ _ _ _ _ _ _ _
   | exact ih4 _ _ _ _ _ _ _
   | exact ih5 _ _ _ _ _ _ _ _ _ _
   | exact msg_Length.mono _ _
   | exact msg_goes.mono _ _ _
   | exact text_Token.mono _ _
   | exact text_Value.mono _ _
   | exact LeO.none _
   | refine LeO.ite ?_ ?_
   | refine LeO.bind ?_ (fun _ => ?_)
set_option maxHeartbeats 100000000 in
set_option maxRecDepth 100000 in
theorem msg_One.calls (k : Nat) (a0 : ByteArray) (a1 : ByteArray) (A2 : Option Addr) (c2 : Nat) (l2 : List (S30)) (r1 : ByteArray) (r2 : ByteArray) (r3 : ByteArray) (r4 : ByteArray) (r5 : List (S30)) (r6 : ByteArray) (r7 : List (S30)) (r8 : Int) (w : World) (hG : GI w) (hr2 : Kd.C k30 w A2 l2.length l2) (hc2 : l2.length ≤ c2) (h : msg_One.f k a0 a1 l2 = some (r1, r2, r3, r4, r5, r6, r7, r8)) :
  Calls Tryd.prog 21 #[.string a0, .string a1, .slice A2 l2.length c2] w fun e w' => ∃ v4_ v6_ : Value, e = .returned (.tuple #[.agg #[.string r1, .string r2, .string r3, .string r4, v4_, .string r6, v6_], .int .i64 r8]) ∧ Kd.R k30 30 w' w.heap.size (fun k_ => some k_ ≠ (v6_ : Value).ownBlock) v4_ r5 ∧ Kd.R k30 30 w' w.heap.size (fun k_ => some k_ ≠ (v4_ : Value).ownBlock) v6_ r7 ∧ Below w.heap.size w w' := by
 have hu24 := Tryd.underlying24
 have hu30 := Tryd.underlying30
 have HR2 := Aside0.mk hr2
 have HC2 := Aside0.mk hc2
 clear hr2 hc2
 have HB := Aside0.mk (Below.refl w.heap.size w)
 have HG := Aside0.mk hG
 clear hG
 have H : ((text_Token.f k a0).bind fun t166 => (if t166 = true then (msg_One.l0 k a0 a1 l2 ([] : List ByteArray) ([] : List (S30)) l2 (l2.length : Int) 0) else (some ((⟨#[]⟩ : ByteArray), (⟨#[]⟩ : ByteArray), (⟨#[]⟩ : ByteArray), (⟨#[]⟩ : ByteArray), ([] : List (S30)), (⟨#[]⟩ : ByteArray), ([] : List (S30)), 140)))) = some (r1, r2, r3, r4, r5, r6, r7, r8) := h
 clear h
 replace H := Option.bind_eq_some_iff.mp H
 obtain ⟨t166, A40, H⟩ := H
 replace H : (if t166 = true then (msg_One.l0 k a0 a1 l2 ([] : List ByteArray) ([] : List (S30)) l2 (l2.length : Int) 0) else (some ((⟨#[]⟩ : ByteArray), (⟨#[]⟩ : ByteArray), (⟨#[]⟩ : ByteArray), (⟨#[]⟩ : ByteArray), ([] : List (S30)), (⟨#[]⟩ : ByteArray), ([] : List (S30)), 140))) = some (r1, r2, r3, r4, r5, r6, r7, r8) := H
 have A4 := Aside0.mk A40
 clear A40
 by_cases c5 : t166 = true
 ·
  subst c5
  have H1 : (msg_One.l0 k a0 a1 l2 ([] : List ByteArray) ([] : List (S30)) l2 (l2.length : Int) 0) = some (r1, r2, r3, r4, r5, r6, r7, r8) := by rw [if_pos rfl] at H; exact H
  clear H
  have H := H1
  clear H1
  have H' := Aside0.mk H
  clear H
  go_enter Tryd.func21, Tryd.ntmps21
  go_wp2_with (first | ((with_reducible refine gate_dst (N := 6) rfl ?_); refine box_event ?hg (N := 6) ?hd (cs := #[.string (⟨#[]⟩ : ByteArray), .string (⟨#[]⟩ : ByteArray), .string (⟨#[]⟩ : ByteArray), .string (⟨#[]⟩ : ByteArray), .slice none 0 0, .string (⟨#[]⟩ : ByteArray), .slice none 0 0]) (t := 24) ?hr ?_; (case hd => rfl); (case hg => rfl); (case hr => first | (go_simp; done) | (go_simp; rfl)); intro gb165 hg w6 hbox hb; have n0_ := Aside0.mk (below_step (by repeat (first | (with_reducible first | exact HB.out | apply below_alloc | apply pw_below_drewN | apply below_drew1) | exact HB.out)) hb); have n1_ := Aside0.mk (hbox); have n2_ := Aside0.mk ((by rw [hg]; exact (below_size (by repeat (first | (with_reducible first | exact HB.out | apply below_alloc | apply pw_below_drewN | apply below_drew1) | exact HB.out))) : w.heap.size ≤ gb165)); have n3_ := Aside0.mk ((by rw [hg]; exact (below_size (by repeat (first | (with_reducible first | exact HB.out | apply below_alloc | apply pw_below_drewN | apply below_drew1) | exact HB.out))) : w.heap.size ≤ gb165)); clear HB; have HB := n0_; have BK165 := n1_; have GW165 := n2_; have GE165 := n3_; clear n0_ n1_ n2_ n3_; clear hb hbox hg) | ((with_reducible refine gate_callee (f := 17) rfl ?_); refine goesL_ (some 21) rfl rfl Tryd.func17 (by kernel_rfl) rfl #[.string a0] rfl (by (try simp only [List.map_toArray, List.map_cons, List.map_nil]); first | done | rfl | (simp only [List.length_drop, List.length_take]; rfl)) ?_; (with_reducible refine (text_Token.calls k a0 true _ A4.out).mono ?_); rintro e w' ⟨rfl, ⟨nd, rfl⟩⟩; refine ⟨_, rfl, ?_⟩) | ((with_reducible refine gate_dst (N := 24) rfl ?_); refine mmakeIL 24 rfl rfl rfl (by repeat (first | (with_reducible first | exact HB.out | apply below_alloc | apply pw_below_drewN | apply below_drew1 | refine below_set ?_ GE165.out) | exact HB.out)) ?_; intro b4_ w4_ hM4_ hb; have n0_ := Aside0.mk (blk_below (g := gb165) (o := .cells #[.string (⟨#[]⟩ : ByteArray), .string (⟨#[]⟩ : ByteArray), .string (⟨#[]⟩ : ByteArray), .string (⟨#[]⟩ : ByteArray), .slice none 0 0, .string (⟨#[]⟩ : ByteArray), .slice none 0 0] 24 (0, 0)) (by (with_reducible repeat (first | refine blk_drewN ?_ _ | refine blk_drew ?_ | refine blk_alloc ?_ _)); exact BK165.out) hb); have n1_ := Aside0.mk (below_step (by repeat (first | (with_reducible first | exact HB.out | apply below_alloc | apply pw_below_drewN | apply below_drew1 | refine below_set ?_ GE165.out) | exact HB.out)) hb); have n2_ := Aside0.mk hM4_; clear BK165; clear HB; have BK165 := n0_; have HB := n1_; have HO_9 := n2_; clear n0_ n1_ n2_; clear hb hM4_))
  go_loopg [8, 27] k (fun kq v8 v27 w' => ∃ (x8_1 : List ByteArray) (x9_1 : List (S30)) (x27_1 : Int) (x166000_1 : ByteArray) (x166001_1 : ByteArray) (x166002_1 : ByteArray) (x166003_1 : ByteArray) (x166005_1 : ByteArray), v27 = .int .i64 x27_1 ∧ Aside0 (msg_One.l0 kq a0 a1 l2 x8_1 x9_1 l2 (l2.length : Int) x27_1 = some (r1, r2, r3, r4, r5, r6, r7, r8)) ∧ Aside0 (kq ≤ k) ∧ Aside0 (Kd.R Kd.string 9 w' w.heap.size (fun _ => True) v8 x8_1) ∧ Aside0 (MRI w' w.heap.size (.map (some b4_)) x9_1) ∧ Aside0 (w'.heap[gb165]? = some (.cells #[.string x166000_1, .string x166001_1, .string x166002_1, .string x166003_1, (.slice none 0 0), .string x166005_1, (.slice none 0 0)] 24 (0, 0))) ∧ Aside0 (Below w.heap.size w w'))
  case atStart => exact ⟨(([] : List ByteArray)), (([] : List (S30))), (0), ((⟨#[]⟩ : ByteArray)), ((⟨#[]⟩ : ByteArray)), ((⟨#[]⟩ : ByteArray)), ((⟨#[]⟩ : ByteArray)), ((⟨#[]⟩ : ByteArray)), (by first | rfl | (simp; done) | (simp [*]; done) | (simp [bne_nil_]; done) | (simp only [ByteArray.size_append, Int.natCast_add]; rfl)), H', ⟨Nat.le_refl _⟩, ⟨by first | exact Kd.R_nil _ _ _ _ _ | exact Kd.N_nil _ _ _ _ _ | exact Kd.V_nil _ _ _ _ _ | exact Kd.Q_nil _ _ _ _ _ | exact Kd.S_nil _ _ _ _ _⟩, ⟨by with_reducible repeat (first | exact HO_9.out | apply MRI_alloc | apply MRI_drewN | apply MRI_drew | apply MRI_set)⟩, ⟨by (with_reducible repeat (first | refine blk_drewN ?_ _ | refine blk_drew ?_ | refine blk_alloc ?_ _)); exact BK165.out⟩, ⟨by repeat (first | (with_reducible first | exact HB.out | apply below_alloc | apply pw_below_drewN | apply below_drew1 | refine below_set ?_ GE165.out) | exact HB.out)⟩⟩
  case round =>
   clear H'
   try clear c1
   try clear c2
   try clear p2
   try clear c5
   obtain ⟨x8_1, x9_1, x27_1, x166000_1, x166001_1, x166002_1, x166003_1, x166005_1, rfl, HA, HK1, HO_8, HO_9, BK165, HB⟩ := hrel
   cases gk with
   | zero => exact absurd HA.out (by simp [msg_One.l0])
   | succ k1 =>
    have H := HA.out
    clear HA
    simp only [msg_One.l0] at H
    by_cases c7 : x27_1 < (l2.length : Int)
    ·
     rw [if_pos c7] at H
     have c7b0 : decide (x27_1 < (l2.length : Int)) = true := decide_eq_true c7
     clear c7
     by_cases c8 : 0 ≤ x27_1
     ·
      rw [if_pos c8] at H
      have c8b0 : decide (0 ≤ x27_1) = true := decide_eq_true c8
      clear c8
      by_cases c9 : x27_1 < (l2.length : Int)
      ·
       rw [if_pos c9] at H
       have c9b0 : decide (x27_1 < (l2.length : Int)) = true := decide_eq_true c9
       clear c9
       have HC10 := Aside0.mk H
       clear H
       have p167 : 0 ≤ (x27_1 : Int) := of_decide_eq_true (by first | (with_reducible assumption) | assumption)
       have q167 : x27_1 < (l2.length : Int) := of_decide_eq_true (by first | (with_reducible assumption) | assumption)
       obtain ⟨ad167, e167, hx167_0, hx167_1⟩ := at_T30 HR2.out x27_1 p167 q167
       cases e167
       replace hx167_0 := (HB.out.cell (World.block_lt_of_cell? w _ hx167_0)).trans hx167_0
       replace hx167_1 := (HB.out.cell (World.block_lt_of_cell? w _ hx167_1)).trans hx167_1
       replace p167 := eq_true p167
       replace q167 := eq_true q167
       go_upto_region 8 with (first | ((with_reducible refine gate_dst (N := 11) rfl ?_); refine box_event ?hg (N := 11) ?hd (cs := #[.string (⟨#[]⟩ : ByteArray), .string (⟨#[]⟩ : ByteArray)]) (t := 30) ?hr ?_; (case hd => rfl); (case hg => rfl); (case hr => first | (go_simp; done) | (go_simp; rfl)); intro gb168 hg w11 hbox hb; have n0_ := Aside0.mk (Kd.R_below (by (with_reducible repeat (first | apply Kd.R_alloc | apply Kd.R_drewN | apply Kd.R_drew)); exact HO_8.out) hb); have n1_ := Aside0.mk (MRI_below (by with_reducible repeat (first | exact HO_9.out | apply MRI_alloc | apply MRI_drewN | apply MRI_drew | apply MRI_set)) hb); have n2_ := Aside0.mk (blk_below (g := gb165) (o := .cells #[.string x166000_1, .string x166001_1, .string x166002_1, .string x166003_1, .slice none 0 0, .string x166005_1, .slice none 0 0] 24 (0, 0)) (by (with_reducible repeat (first | refine blk_drewN ?_ _ | refine blk_drew ?_ | refine blk_alloc ?_ _)); exact BK165.out) hb); have n3_ := Aside0.mk (below_step (by repeat (first | (with_reducible first | exact HB.out | apply below_alloc | apply pw_below_drewN | apply below_drew1 | refine below_set ?_ GE165.out) | exact HB.out)) hb); have n4_ := Aside0.mk (hbox); have n5_ := Aside0.mk ((by rw [hg]; exact (below_size (by repeat (first | (with_reducible first | exact HB.out | apply below_alloc | apply pw_below_drewN | apply below_drew1 | refine below_set ?_ GE165.out) | exact HB.out))) : w.heap.size ≤ gb168)); have n6_ := Aside0.mk ((by rw [hg]; exact (below_size (by repeat (first | (with_reducible first | exact HB.out | apply below_alloc | apply pw_below_drewN | apply below_drew1 | refine below_set ?_ GE165.out) | exact HB.out))) : w.heap.size ≤ gb168)); have n7_ := Aside0.mk ((by rw [hg]; exact Nat.ne_of_lt (blk_lt (g := gb165) (o := .cells #[.string x166000_1, .string x166001_1, .string x166002_1, .string x166003_1, .slice none 0 0, .string x166005_1, .slice none 0 0] 24 (0, 0)) (by (with_reducible repeat (first | refine blk_drewN ?_ _ | refine blk_drew ?_ | refine blk_alloc ?_ _)); exact BK165.out)) : gb165 ≠ gb168)); have n8_ := Aside0.mk ((by rw [hg]; exact Nat.ne_of_gt (blk_lt (g := gb165) (o := .cells #[.string x166000_1, .string x166001_1, .string x166002_1, .string x166003_1, .slice none 0 0, .string x166005_1, .slice none 0 0] 24 (0, 0)) (by (with_reducible repeat (first | refine blk_drewN ?_ _ | refine blk_drew ?_ | refine blk_alloc ?_ _)); exact BK165.out)) : gb168 ≠ gb165)); clear HO_8; clear HO_9; clear BK165; clear HB; have HO_8 := n0_; have HO_9 := n1_; have BK165 := n2_; have HB := n3_; have BK168 := n4_; have GW168 := n5_; have GE168 := n6_; have NB165_168 := n7_; have NB168_165 := n8_; clear n0_ n1_ n2_ n3_ n4_ n5_ n6_ n7_ n8_; clear hb hbox hg; have hnb12 := NB168_165.out; have hnc12 := NB165_168.out; have hcz13_0 : w11.cell? ⟨gb168, 0, none⟩ = some (.string (⟨#[]⟩ : ByteArray)) := (blk_cell BK168.out 0).trans rfl; have hcz13_1 : w11.cell? ⟨gb168, 1, none⟩ = some (.string (⟨#[]⟩ : ByteArray)) := (blk_cell BK168.out 1).trans rfl; have hfz13_0 := blk_frozen BK168.out 0; have hfz13_1 := blk_frozen BK168.out 1))
       (try simp only [Act.put, List.setIfInBounds_toArray, List.set_cons_zero, List.set_cons_succ])
       go_cut [40] (fun v40 wc => ∃ (kq : Nat) (x40_9 : Bool), v40 = .bool x40_9 ∧ Aside0 (msg_One.j1 kq a0 a1 l2 x8_1 x9_1 l2 (l2.length : Int) x27_1 x40_9 ((rd_T30 l2 x27_1).f0) ((rd_T30 l2 x27_1).f1) = some (r1, r2, r3, r4, r5, r6, r7, r8)) ∧ Aside0 (kq ≤ k1) ∧ Aside0 (Kd.R Kd.string 9 wc w.heap.size (fun _ => True) u8 x8_1) ∧ Aside0 (MRI wc w.heap.size (.map (some b4_)) x9_1) ∧ Aside0 (wc.heap[gb165]? = some (.cells #[.string x166000_1, .string x166001_1, .string x166002_1, .string x166003_1, (.slice none 0 0), .string x166005_1, (.slice none 0 0)] 24 (0, 0))) ∧ Aside0 (wc.heap[gb168]? = some (.cells #[.string ((rd_T30 l2 x27_1).f0), .string ((rd_T30 l2 x27_1).f1)] 30 (0, 0))) ∧ Aside0 (Below w.heap.size w wc))
       case first =>
        have H := HC10.out
        clear HC10
        replace H := Option.bind_eq_some_iff.mp H
        obtain ⟨t169, A140, H⟩ := H
        replace H : (if t169 = true then ((text_Value.f k1 ((rd_T30 l2 x27_1).f1)).bind fun t170 => (msg_One.j1 k1 a0 a1 l2 x8_1 x9_1 l2 (l2.length : Int) x27_1 (!t170) ((rd_T30 l2 x27_1).f0) ((rd_T30 l2 x27_1).f1))) else (msg_One.j1 k1 a0 a1 l2 x8_1 x9_1 l2 (l2.length : Int) x27_1 true ((rd_T30 l2 x27_1).f0) ((rd_T30 l2 x27_1).f1))) = some (r1, r2, r3, r4, r5, r6, r7, r8) := H
        have A14 := Aside0.mk A140
        clear A140
        by_cases c15 : t169 = true
        ·
         subst c15
         have H1 : ((text_Value.f k1 ((rd_T30 l2 x27_1).f1)).bind fun t170 => (msg_One.j1 k1 a0 a1 l2 x8_1 x9_1 l2 (l2.length : Int) x27_1 (!t170) ((rd_T30 l2 x27_1).f0) ((rd_T30 l2 x27_1).f1))) = some (r1, r2, r3, r4, r5, r6, r7, r8) := by rw [if_pos rfl] at H; exact H
         clear H
         have H := H1
         clear H1
         replace H := Option.bind_eq_some_iff.mp H
         obtain ⟨t170, A160, H⟩ := H
         replace H : (msg_One.j1 k1 a0 a1 l2 x8_1 x9_1 l2 (l2.length : Int) x27_1 (!t170) ((rd_T30 l2 x27_1).f0) ((rd_T30 l2 x27_1).f1)) = some (r1, r2, r3, r4, r5, r6, r7, r8) := H
         have A16 := Aside0.mk A160
         clear A160
         have H' := Aside0.mk H
         clear H
         have hnb17 := NB168_165.out
         have hnc17 := NB165_168.out
         have hcz18_0 : w11.cell? ⟨gb168, 0, none⟩ = some (.string (⟨#[]⟩ : ByteArray)) := (blk_cell BK168.out 0).trans rfl
         have hcz18_1 : w11.cell? ⟨gb168, 1, none⟩ = some (.string (⟨#[]⟩ : ByteArray)) := (blk_cell BK168.out 1).trans rfl
         have hfz18_0 := blk_frozen BK168.out 0
         have hfz18_1 := blk_frozen BK168.out 1
         go_wp2_with (first | ((with_reducible refine gate_callee (f := 17) rfl ?_); refine goesL_ (some 33) rfl rfl Tryd.func17 (by kernel_rfl) rfl #[.string ((rd_T30 l2 x27_1).f0)] rfl (by (try simp only [List.map_toArray, List.map_cons, List.map_nil]); first | done | rfl | (simp only [List.length_drop, List.length_take]; rfl)) ?_; (with_reducible refine (text_Token.calls k1 ((rd_T30 l2 x27_1).f0) true _ A14.out).mono ?_); rintro e w' ⟨rfl, ⟨nd, rfl⟩⟩; refine ⟨_, rfl, ?_⟩) | (go_at_call 26; (with_reducible refine (text_Value.calls k1 ((rd_T30 l2 x27_1).f1) t170 _ A16.out).mono ?_); rintro e w19 ⟨rfl, hb⟩; have n0_ := Aside0.mk (Kd.R_below (by (with_reducible repeat (first | apply Kd.R_alloc | apply Kd.R_drewN | apply Kd.R_drew)); exact (Kd.R_mono (Kd.R_far (p := ⟨gb168, 1, none⟩) (Kd.R_far (p := ⟨gb168, 0, none⟩) (Kd.R_types HO_8.out BK168.out (by decide)) (fun _ hk => hk.2) (.string ((rd_T30 l2 x27_1).f0))) (fun _ hk => hk.2) (.string ((rd_T30 l2 x27_1).f1))) (fun _ h_ => h_.1))) hb); have n1_ := Aside0.mk (MRI_below (by with_reducible repeat (first | exact HO_9.out | apply MRI_alloc | apply MRI_drewN | apply MRI_drew | apply MRI_set)) hb); have n2_ := Aside0.mk (blk_below (g := gb165) (o := .cells #[.string x166000_1, .string x166001_1, .string x166002_1, .string x166003_1, .slice none 0 0, .string x166005_1, .slice none 0 0] 24 (0, 0)) (by (with_reducible repeat (first | refine blk_drewN ?_ _ | refine blk_drew ?_ | refine blk_alloc ?_ _)); refine blk_far ?_ NB165_168.out _; (with_reducible repeat (first | refine blk_drewN ?_ _ | refine blk_drew ?_ | refine blk_alloc ?_ _)); refine blk_far ?_ NB165_168.out _; (with_reducible repeat (first | refine blk_drewN ?_ _ | refine blk_drew ?_ | refine blk_alloc ?_ _)); exact BK165.out) hb); have n3_ := Aside0.mk (blk_below (g := gb168) (o := .cells #[.string ((rd_T30 l2 x27_1).f0), .string ((rd_T30 l2 x27_1).f1)] 30 (0, 0)) (by (with_reducible repeat (first | refine blk_drewN ?_ _ | refine blk_drew ?_ | refine blk_alloc ?_ _)); refine blk_put (cs := #[.string ((rd_T30 l2 x27_1).f0), .string (⟨#[]⟩ : ByteArray)]) ?_ 1 _ rfl; (with_reducible repeat (first | refine blk_drewN ?_ _ | refine blk_drew ?_ | refine blk_alloc ?_ _)); refine blk_put (cs := #[.string (⟨#[]⟩ : ByteArray), .string (⟨#[]⟩ : ByteArray)]) ?_ 0 _ rfl; (with_reducible repeat (first | refine blk_drewN ?_ _ | refine blk_drew ?_ | refine blk_alloc ?_ _)); exact BK168.out) hb); have n4_ := Aside0.mk (below_step (by repeat (first | (with_reducible first | exact HB.out | apply below_alloc | apply pw_below_drewN | apply below_drew1 | refine below_set ?_ GE165.out | refine below_set ?_ GE168.out) | exact HB.out)) hb); clear HO_8; clear HO_9; clear BK165; clear BK168; clear HB; have HO_8 := n0_; have HO_9 := n1_; have BK165 := n2_; have BK168 := n3_; have HB := n4_; clear n0_ n1_ n2_ n3_ n4_; (try clear hb); (try clear hb2); (try clear hk); (try clear hi)))
         go_meet
         case rel => exact ⟨_, (!t170), (by first | rfl | (simp; done) | (simp [*]; done) | (simp [bne_nil_]; done) | (simp only [ByteArray.size_append, Int.natCast_add]; rfl)), H', ⟨by have := HK1.out; first | omega | exact Nat.le_refl _⟩, ⟨by (with_reducible repeat (first | apply Kd.R_alloc | apply Kd.R_drewN | apply Kd.R_drew)); exact HO_8.out⟩, ⟨by with_reducible repeat (first | exact HO_9.out | apply MRI_alloc | apply MRI_drewN | apply MRI_drew | apply MRI_set)⟩, ⟨by (with_reducible repeat (first | refine blk_drewN ?_ _ | refine blk_drew ?_ | refine blk_alloc ?_ _)); exact BK165.out⟩, ⟨by (with_reducible repeat (first | refine blk_drewN ?_ _ | refine blk_drew ?_ | refine blk_alloc ?_ _)); exact BK168.out⟩, ⟨by repeat (first | (with_reducible first | exact HB.out | apply below_alloc | apply pw_below_drewN | apply below_drew1 | refine below_set ?_ GE165.out | refine below_set ?_ GE168.out) | exact HB.out)⟩⟩
        ·
         replace c15 := Bool.eq_false_iff.mpr c15
         subst c15
         have H1 : (msg_One.j1 k1 a0 a1 l2 x8_1 x9_1 l2 (l2.length : Int) x27_1 true ((rd_T30 l2 x27_1).f0) ((rd_T30 l2 x27_1).f1)) = some (r1, r2, r3, r4, r5, r6, r7, r8) := by rw [if_neg (show ¬ (false = true) by decide)] at H; exact H
         clear H
         have H := H1
         clear H1
         have H' := Aside0.mk H
         clear H
         have hnb20 := NB168_165.out
         have hnc20 := NB165_168.out
         have hcz21_0 : w11.cell? ⟨gb168, 0, none⟩ = some (.string (⟨#[]⟩ : ByteArray)) := (blk_cell BK168.out 0).trans rfl
         have hcz21_1 : w11.cell? ⟨gb168, 1, none⟩ = some (.string (⟨#[]⟩ : ByteArray)) := (blk_cell BK168.out 1).trans rfl
         have hfz21_0 := blk_frozen BK168.out 0
         have hfz21_1 := blk_frozen BK168.out 1
         go_wp2_with (first | ((with_reducible refine gate_callee (f := 17) rfl ?_); refine goesL_ (some 33) rfl rfl Tryd.func17 (by kernel_rfl) rfl #[.string ((rd_T30 l2 x27_1).f0)] rfl (by (try simp only [List.map_toArray, List.map_cons, List.map_nil]); first | done | rfl | (simp only [List.length_drop, List.length_take]; rfl)) ?_; (with_reducible refine (text_Token.calls k1 ((rd_T30 l2 x27_1).f0) false _ A14.out).mono ?_); rintro e w' ⟨rfl, ⟨nd, rfl⟩⟩; refine ⟨_, rfl, ?_⟩))
         go_meet
         case rel => exact ⟨_, (true), (by first | rfl | (simp; done) | (simp [*]; done) | (simp [bne_nil_]; done) | (simp only [ByteArray.size_append, Int.natCast_add]; rfl)), H', ⟨by have := HK1.out; first | omega | exact Nat.le_refl _⟩, ⟨by (with_reducible repeat (first | apply Kd.R_alloc | apply Kd.R_drewN | apply Kd.R_drew)); exact Kd.R_mono (Kd.R_far (p := ⟨gb168, 1, none⟩) (Kd.R_far (p := ⟨gb168, 0, none⟩) (Kd.R_types HO_8.out BK168.out (by decide)) (fun _ hk => hk.2) (.string ((rd_T30 l2 x27_1).f0))) (fun _ hk => hk.2) (.string ((rd_T30 l2 x27_1).f1))) (fun _ hk => trivial)⟩, ⟨by with_reducible repeat (first | exact HO_9.out | apply MRI_alloc | apply MRI_drewN | apply MRI_drew | apply MRI_set)⟩, ⟨by (with_reducible repeat (first | refine blk_drewN ?_ _ | refine blk_drew ?_ | refine blk_alloc ?_ _)); refine blk_far ?_ NB165_168.out _; (with_reducible repeat (first | refine blk_drewN ?_ _ | refine blk_drew ?_ | refine blk_alloc ?_ _)); refine blk_far ?_ NB165_168.out _; (with_reducible repeat (first | refine blk_drewN ?_ _ | refine blk_drew ?_ | refine blk_alloc ?_ _)); exact BK165.out⟩, ⟨by (with_reducible repeat (first | refine blk_drewN ?_ _ | refine blk_drew ?_ | refine blk_alloc ?_ _)); refine blk_put (cs := #[.string ((rd_T30 l2 x27_1).f0), .string (⟨#[]⟩ : ByteArray)]) ?_ 1 _ rfl; (with_reducible repeat (first | refine blk_drewN ?_ _ | refine blk_drew ?_ | refine blk_alloc ?_ _)); refine blk_put (cs := #[.string (⟨#[]⟩ : ByteArray), .string (⟨#[]⟩ : ByteArray)]) ?_ 0 _ rfl; (with_reducible repeat (first | refine blk_drewN ?_ _ | refine blk_drew ?_ | refine blk_alloc ?_ _)); exact BK168.out⟩, ⟨by repeat (first | (with_reducible first | exact HB.out | apply below_alloc | apply pw_below_drewN | apply below_drew1 | refine below_set ?_ GE165.out | refine below_set ?_ GE168.out) | exact HB.out)⟩⟩
       case rest =>
        clear HC10
        try clear c1
        try clear p1
        try clear q1
        try clear hx1
        try clear c2
        try clear p2
        try clear c5
        try clear c7
        try clear c7b0
        try clear c8
        try clear c8b0
        try clear c9
        try clear c9b0
        try clear c12
        try clear c15
        try clear p16
        try clear q16
        try clear hx16
        try clear c17
        try clear c20
        try clear c21
        try clear hcz13_0
        try clear hcz13_1
        try clear hcz18_0
        try clear hcz18_1
        try clear hcz21_0
        try clear hcz21_1
        try clear hfz13_0
        try clear hfz13_1
        try clear hfz18_0
        try clear hfz18_1
        try clear hfz21_0
        try clear hfz21_1
        try clear hx167_0
        try clear hx167_1
        try clear p167
        try clear p2
        try clear q167
        obtain ⟨kq, x40_9, rfl, HA, HJ9, HO_8, HO_9, BK165, BK168, HB⟩ := hcut
        cases kq with
        | zero => exact absurd HA.out (by simp [msg_One.j1])
        | succ kj9 =>
         have H := HA.out
         clear HA
         simp only [msg_One.j1] at H
         by_cases c22 : x40_9 = true
         ·
          subst c22
          have H1 : (some ((⟨#[]⟩ : ByteArray), (⟨#[]⟩ : ByteArray), (⟨#[]⟩ : ByteArray), (⟨#[]⟩ : ByteArray), ([] : List (S30)), (⟨#[]⟩ : ByteArray), ([] : List (S30)), 141)) = some (r1, r2, r3, r4, r5, r6, r7, r8) := by rw [if_pos rfl] at H; exact H
          clear H
          have H := H1
          clear H1
          simp only [Option.some.injEq, Prod.mk.injEq] at H
          obtain ⟨rfl, rfl, rfl, rfl, rfl, rfl, rfl, rfl⟩ := H
          have hnb23 := NB165_168.out
          have hnc23 := NB168_165.out
          have hcz24_0 : wc.cell? ⟨gb165, 0, none⟩ = some (.string x166000_1) := (blk_cell BK165.out 0).trans rfl
          have hcz24_1 : wc.cell? ⟨gb165, 1, none⟩ = some (.string x166001_1) := (blk_cell BK165.out 1).trans rfl
          have hcz24_2 : wc.cell? ⟨gb165, 2, none⟩ = some (.string x166002_1) := (blk_cell BK165.out 2).trans rfl
          have hcz24_3 : wc.cell? ⟨gb165, 3, none⟩ = some (.string x166003_1) := (blk_cell BK165.out 3).trans rfl
          have hcz24_4 : wc.cell? ⟨gb165, 4, none⟩ = some (.slice none 0 0) := (blk_cell BK165.out 4).trans rfl
          have hcz24_5 : wc.cell? ⟨gb165, 5, none⟩ = some (.string x166005_1) := (blk_cell BK165.out 5).trans rfl
          have hcz24_6 : wc.cell? ⟨gb165, 6, none⟩ = some (.slice none 0 0) := (blk_cell BK165.out 6).trans rfl
          have hfz24_0 := blk_frozen BK165.out 0
          have hfz24_1 := blk_frozen BK165.out 1
          have hfz24_2 := blk_frozen BK165.out 2
          have hfz24_3 := blk_frozen BK165.out 3
          have hfz24_4 := blk_frozen BK165.out 4
          have hfz24_5 := blk_frozen BK165.out 5
          have hfz24_6 := blk_frozen BK165.out 6
          go_wp2
          refine bodyPost_ret (results_ct rfl _ _ gb165 24 #[.string (⟨#[]⟩ : ByteArray), .string (⟨#[]⟩ : ByteArray), .string (⟨#[]⟩ : ByteArray), .string (⟨#[]⟩ : ByteArray), .slice none 0 0, .string (⟨#[]⟩ : ByteArray), .slice none 0 0] (0, 0) _ rfl (by (with_reducible repeat (first | refine blk_drewN ?_ _ | refine blk_drew ?_ | refine blk_alloc ?_ _)); refine blk_put (cs := #[.string (⟨#[]⟩ : ByteArray), .string (⟨#[]⟩ : ByteArray), .string (⟨#[]⟩ : ByteArray), .string (⟨#[]⟩ : ByteArray), .slice none 0 0, .string (⟨#[]⟩ : ByteArray), .slice none 0 0]) ?_ 6 _ rfl; (with_reducible repeat (first | refine blk_drewN ?_ _ | refine blk_drew ?_ | refine blk_alloc ?_ _)); refine blk_put (cs := #[.string (⟨#[]⟩ : ByteArray), .string (⟨#[]⟩ : ByteArray), .string (⟨#[]⟩ : ByteArray), .string (⟨#[]⟩ : ByteArray), .slice none 0 0, .string x166005_1, .slice none 0 0]) ?_ 5 _ rfl; (with_reducible repeat (first | refine blk_drewN ?_ _ | refine blk_drew ?_ | refine blk_alloc ?_ _)); refine blk_put (cs := #[.string (⟨#[]⟩ : ByteArray), .string (⟨#[]⟩ : ByteArray), .string (⟨#[]⟩ : ByteArray), .string (⟨#[]⟩ : ByteArray), .slice none 0 0, .string x166005_1, .slice none 0 0]) ?_ 4 _ rfl; (with_reducible repeat (first | refine blk_drewN ?_ _ | refine blk_drew ?_ | refine blk_alloc ?_ _)); refine blk_put (cs := #[.string (⟨#[]⟩ : ByteArray), .string (⟨#[]⟩ : ByteArray), .string (⟨#[]⟩ : ByteArray), .string x166003_1, .slice none 0 0, .string x166005_1, .slice none 0 0]) ?_ 3 _ rfl; (with_reducible repeat (first | refine blk_drewN ?_ _ | refine blk_drew ?_ | refine blk_alloc ?_ _)); refine blk_put (cs := #[.string (⟨#[]⟩ : ByteArray), .string (⟨#[]⟩ : ByteArray), .string x166002_1, .string x166003_1, .slice none 0 0, .string x166005_1, .slice none 0 0]) ?_ 2 _ rfl; (with_reducible repeat (first | refine blk_drewN ?_ _ | refine blk_drew ?_ | refine blk_alloc ?_ _)); refine blk_put (cs := #[.string (⟨#[]⟩ : ByteArray), .string x166001_1, .string x166002_1, .string x166003_1, .slice none 0 0, .string x166005_1, .slice none 0 0]) ?_ 1 _ rfl; (with_reducible repeat (first | refine blk_drewN ?_ _ | refine blk_drew ?_ | refine blk_alloc ?_ _)); refine blk_put (cs := #[.string x166000_1, .string x166001_1, .string x166002_1, .string x166003_1, .slice none 0 0, .string x166005_1, .slice none 0 0]) ?_ 0 _ rfl; (with_reducible repeat (first | refine blk_drewN ?_ _ | refine blk_drew ?_ | refine blk_alloc ?_ _)); exact BK165.out) Tryd.underlying24 rfl (by kernel_rfl)) rfl ?_
          exact ⟨_, _, by first | rfl | (simp [errW_none, errW_some] <;> rfl) | (simp [*, errW_none, errW_some] <;> rfl), by first | exact Kd.R_nil _ _ _ _ _ | exact Kd.N_nil _ _ _ _ _ | exact Kd.V_nil _ _ _ _ _ | exact Kd.Q_nil _ _ _ _ _ | exact Kd.S_nil _ _ _ _ _, by first | exact Kd.R_nil _ _ _ _ _ | exact Kd.N_nil _ _ _ _ _ | exact Kd.V_nil _ _ _ _ _ | exact Kd.Q_nil _ _ _ _ _ | exact Kd.S_nil _ _ _ _ _, by repeat (first | (with_reducible first | exact HB.out | apply below_alloc | apply pw_below_drewN | apply below_drew1 | refine below_set ?_ GE165.out | refine below_set ?_ GE168.out) | exact HB.out)⟩
         ·
          replace c22 := Bool.eq_false_iff.mpr c22
          subst c22
          have H1 : ((text_Lower.f ((rd_T30 l2 x27_1).f0)).bind fun t171 => (if t171.toList = ([104, 111, 115, 116] : List UInt8) then (if x8_1.length < 8796093022208 then (msg_One.l0 kj9 a0 a1 l2 (x8_1 ++ [((rd_T30 l2 x27_1).f1)]) x9_1 l2 (l2.length : Int) (wrap64 (x27_1 + 1))) else (none)) else (if t171.toList = ([99, 111, 110, 110, 101, 99, 116, 105, 111, 110] : List UInt8) then ((strings_Split.f ((rd_T30 l2 x27_1).f1) (⟨#[44]⟩ : ByteArray)).bind fun t175 => (msg_One.l1 kj9 a0 a1 l2 x8_1 x9_1 l2 (l2.length : Int) x27_1 t175 (t175.length : Int) 0)) else (msg_One.l0 kj9 a0 a1 l2 x8_1 x9_1 l2 (l2.length : Int) (wrap64 (x27_1 + 1)))))) = some (r1, r2, r3, r4, r5, r6, r7, r8) := by rw [if_neg (show ¬ (false = true) by decide)] at H; exact H
          clear H
          have H := H1
          clear H1
          replace H := Option.bind_eq_some_iff.mp H
          obtain ⟨t171, A250, H⟩ := H
          replace H : (if t171.toList = ([104, 111, 115, 116] : List UInt8) then (if x8_1.length < 8796093022208 then (msg_One.l0 kj9 a0 a1 l2 (x8_1 ++ [((rd_T30 l2 x27_1).f1)]) x9_1 l2 (l2.length : Int) (wrap64 (x27_1 + 1))) else (none)) else (if t171.toList = ([99, 111, 110, 110, 101, 99, 116, 105, 111, 110] : List UInt8) then ((strings_Split.f ((rd_T30 l2 x27_1).f1) (⟨#[44]⟩ : ByteArray)).bind fun t175 => (msg_One.l1 kj9 a0 a1 l2 x8_1 x9_1 l2 (l2.length : Int) x27_1 t175 (t175.length : Int) 0)) else (msg_One.l0 kj9 a0 a1 l2 x8_1 x9_1 l2 (l2.length : Int) (wrap64 (x27_1 + 1))))) = some (r1, r2, r3, r4, r5, r6, r7, r8) := H
          have A25 := Aside0.mk A250
          clear A250
          by_cases c26 : t171.toList = ([104, 111, 115, 116] : List UInt8)
          ·
           rw [if_pos c26] at H
           have c26b0 : (t171.toList == ([104, 111, 115, 116] : List UInt8)) = true := beq_iff_eq.mpr c26
           have c26b1 : (t171.toList != ([104, 111, 115, 116] : List UInt8)) = false := bne_eq_false_iff_eq.mpr c26
           clear c26
           by_cases c27 : x8_1.length < 8796093022208
           ·
            rw [if_pos c27] at H
            have LMc27 := Aside0.mk c27
            clear c27
            obtain ⟨y172, hy172⟩ : ∃ y_ : List ByteArray, y_ = (x8_1 ++ [((rd_T30 l2 x27_1).f1)]) := ⟨_, rfl⟩
            replace H : (msg_One.l0 kj9 a0 a1 l2 y172 x9_1 l2 (l2.length : Int) (wrap64 (x27_1 + 1))) = some (r1, r2, r3, r4, r5, r6, r7, r8) := by first | (rw [hy172]; with_reducible exact H) | (have H2_ := (Option.bind_some _ _).symm.trans H; rw [hy172]; with_reducible exact H2_) | (have H2_ := (Option.bind_some _ _).symm.trans H; with_reducible exact H2_) | with_reducible exact H | (rw [hy172]; exact H) | exact H
            have Ny172 := Aside0.mk hy172
            clear hy172
            have H' := Aside0.mk H
            clear H
            have hnb28 := NB168_165.out
            have hnc28 := NB165_168.out
            have hcz29_0 : wc.cell? ⟨gb168, 0, none⟩ = some (.string ((rd_T30 l2 x27_1).f0)) := (blk_cell BK168.out 0).trans rfl
            have hcz29_1 : wc.cell? ⟨gb168, 1, none⟩ = some (.string ((rd_T30 l2 x27_1).f1)) := (blk_cell BK168.out 1).trans rfl
            have hfz29_0 := blk_frozen BK168.out 0
            have hfz29_1 := blk_frozen BK168.out 1
            go_wp2_with (first | ((with_reducible refine gate_callee (f := 23) rfl ?_); refine goesL_ (some 44) rfl rfl Tryd.func23 (by kernel_rfl) rfl #[.string ((rd_T30 l2 x27_1).f0)] rfl (by (try simp only [List.map_toArray, List.map_cons, List.map_nil]); first | done | rfl | (simp only [List.length_drop, List.length_take]; rfl)) ?_; (with_reducible refine (text_Lower.calls ((rd_T30 l2 x27_1).f0) t171 _ A25.out).mono ?_); rintro e w30 ⟨rfl, hb⟩; refine ⟨_, rfl, ?_⟩; have n0_ := Aside0.mk (Kd.R_below (by (with_reducible repeat (first | apply Kd.R_alloc | apply Kd.R_drewN | apply Kd.R_drew)); exact HO_8.out) hb); have n1_ := Aside0.mk (MRI_below (by with_reducible repeat (first | exact HO_9.out | apply MRI_alloc | apply MRI_drewN | apply MRI_drew | apply MRI_set)) hb); have n2_ := Aside0.mk (blk_below (g := gb165) (o := .cells #[.string x166000_1, .string x166001_1, .string x166002_1, .string x166003_1, .slice none 0 0, .string x166005_1, .slice none 0 0] 24 (0, 0)) (by (with_reducible repeat (first | refine blk_drewN ?_ _ | refine blk_drew ?_ | refine blk_alloc ?_ _)); exact BK165.out) hb); have n3_ := Aside0.mk (blk_below (g := gb168) (o := .cells #[.string ((rd_T30 l2 x27_1).f0), .string ((rd_T30 l2 x27_1).f1)] 30 (0, 0)) (by (with_reducible repeat (first | refine blk_drewN ?_ _ | refine blk_drew ?_ | refine blk_alloc ?_ _)); exact BK168.out) hb); have n4_ := Aside0.mk (below_step (by repeat (first | (with_reducible first | exact HB.out | apply below_alloc | apply pw_below_drewN | apply below_drew1 | refine below_set ?_ GE165.out | refine below_set ?_ GE168.out) | exact HB.out)) hb); clear HO_8; clear HO_9; clear BK165; clear BK168; clear HB; have HO_8 := n0_; have HO_9 := n1_; have BK165 := n2_; have BK168 := n3_; have HB := n4_; clear n0_ n1_ n2_ n3_ n4_; (try clear hb); (try clear hb2); (try clear hk); (try clear hi); have hcz31_0 : w30.cell? ⟨gb168, 0, none⟩ = some (.string ((rd_T30 l2 x27_1).f0)) := (blk_cell BK168.out 0).trans rfl; have hcz31_1 : w30.cell? ⟨gb168, 1, none⟩ = some (.string ((rd_T30 l2 x27_1).f1)) := (blk_cell BK168.out 1).trans rfl; have hfz31_0 := blk_frozen BK168.out 0; have hfz31_1 := blk_frozen BK168.out 1) | ((with_reducible refine gate_builtin (b := .append) (xs := #[.tmp 47, .tmp 50]) rfl ?_); at_builtin; refine Kd.R_append Kd.string (w0 := w) w.heap.size rfl (.tmp 47) (.tmp 50) 57 9 (.string ⟨#[]⟩) 16 rfl Tryd.underlying57 info9 rfl (by decide) (by omega) u8 x8_1 ((rd_T30 l2 x27_1).f1) [.string ((rd_T30 l2 x27_1).f1)] (fun _ => True) (fun _ => False) rfl rfl ?aP (fun _ hk => hk.elim) ?aF ?aO ?aB ?aS ?aL ?_; (case aP => exact rfl); (case aB => exact (by repeat (first | (with_reducible first | exact HB.out | apply below_alloc | apply pw_below_drewN | apply below_drew1 | refine below_set ?_ GE165.out | refine below_set ?_ GE168.out) | exact HB.out))); (case aF => exact (fun _ _ => trivial)); (case aO => exact (by (with_reducible repeat (first | apply Kd.R_alloc | apply Kd.R_drewN | apply Kd.R_drew)); exact HO_8.out)); (case aS => exact (below_size (by repeat (first | (with_reducible first | exact HB.out | apply below_alloc | apply pw_below_drewN | apply below_drew1 | refine below_set ?_ GE165.out | refine below_set ?_ GE168.out) | exact HB.out)))); (case aL => have := LMc27.out; omega); intro v173 w32 ho hb hg hat; rw [← Ny172.out] at ho; have n0_ := Aside0.mk (MRI_over (by with_reducible repeat (first | exact HO_9.out | apply MRI_alloc | apply MRI_drewN | apply MRI_drew | apply MRI_set)) (Kd.R_mono (by (with_reducible repeat (first | apply Kd.R_alloc | apply Kd.R_drewN | apply Kd.R_drew)); exact HO_8.out) (fun _ _ => trivial)) hg); have n1_ := Aside0.mk (blk_grown (g := gb165) (o := .cells #[.string x166000_1, .string x166001_1, .string x166002_1, .string x166003_1, .slice none 0 0, .string x166005_1, .slice none 0 0] 24 (0, 0)) (by (with_reducible repeat (first | refine blk_drewN ?_ _ | refine blk_drew ?_ | refine blk_alloc ?_ _)); exact BK165.out) hg (Kd.R_ne HO_8.out BK165.out (by decide))); have n2_ := Aside0.mk (blk_grown (g := gb168) (o := .cells #[.string ((rd_T30 l2 x27_1).f0), .string ((rd_T30 l2 x27_1).f1)] 30 (0, 0)) (by (with_reducible repeat (first | refine blk_drewN ?_ _ | refine blk_drew ?_ | refine blk_alloc ?_ _)); exact BK168.out) hg (Kd.R_ne HO_8.out BK168.out (by decide))); have n3_ := Aside0.mk (hb); have n4_ := Aside0.mk (ho); clear HO_9; clear BK165; clear BK168; clear HB; clear HO_8; have HO_9 := n0_; have BK165 := n1_; have BK168 := n2_; have HB := n3_; have HO174 := n4_; clear n0_ n1_ n2_ n3_ n4_; clear ho hb hg hat))
            go_roundg kj9
            case measure => have := HK1.out; have := HJ9.out; omega
            case rel => exact ⟨(y172), (x9_1), (wrap64 (x27_1 + 1)), (x166000_1), (x166001_1), (x166002_1), (x166003_1), (x166005_1), (by first | rfl | (simp; done) | (simp [*]; done) | (simp [bne_nil_]; done) | (simp only [ByteArray.size_append, Int.natCast_add]; rfl)), H', ⟨by have := HK1.out; have := HJ9.out; omega⟩, ⟨by (with_reducible repeat (first | apply Kd.R_alloc | apply Kd.R_drewN | apply Kd.R_drew)); exact HO174.out⟩, ⟨by with_reducible repeat (first | exact HO_9.out | apply MRI_alloc | apply MRI_drewN | apply MRI_drew | apply MRI_set)⟩, ⟨by (with_reducible repeat (first | refine blk_drewN ?_ _ | refine blk_drew ?_ | refine blk_alloc ?_ _)); exact BK165.out⟩, ⟨by repeat (first | (with_reducible first | exact HB.out | apply below_alloc | apply pw_below_drewN | apply below_drew1 | refine below_set ?_ GE165.out | refine below_set ?_ GE168.out) | exact HB.out)⟩⟩
           ·
            rw [if_neg c27] at H
            exact absurd H (by simp)
          ·
           rw [if_neg c26] at H
           have c26b0 : (t171.toList == ([104, 111, 115, 116] : List UInt8)) = false := beq_eq_false_iff_ne.mpr c26
           have c26b1 : (t171.toList != ([104, 111, 115, 116] : List UInt8)) = true := bne_iff_ne.mpr c26
           by_cases c33 : t171.toList = ([99, 111, 110, 110, 101, 99, 116, 105, 111, 110] : List UInt8)
           ·
            rw [if_pos c33] at H
            have c33b0 : (t171.toList == ([99, 111, 110, 110, 101, 99, 116, 105, 111, 110] : List UInt8)) = true := beq_iff_eq.mpr c33
            have c33b1 : (t171.toList != ([99, 111, 110, 110, 101, 99, 116, 105, 111, 110] : List UInt8)) = false := bne_eq_false_iff_eq.mpr c33
            clear c33
            replace H := Option.bind_eq_some_iff.mp H
            obtain ⟨t175, A340, H⟩ := H
            replace H : (msg_One.l1 kj9 a0 a1 l2 x8_1 x9_1 l2 (l2.length : Int) x27_1 t175 (t175.length : Int) 0) = some (r1, r2, r3, r4, r5, r6, r7, r8) := H
            have A34 := Aside0.mk A340
            clear A340
            have H' := Aside0.mk H
            clear H
            have hnb35 := NB168_165.out
            have hnc35 := NB165_168.out
            have hcz36_0 : wc.cell? ⟨gb168, 0, none⟩ = some (.string ((rd_T30 l2 x27_1).f0)) := (blk_cell BK168.out 0).trans rfl
            have hcz36_1 : wc.cell? ⟨gb168, 1, none⟩ = some (.string ((rd_T30 l2 x27_1).f1)) := (blk_cell BK168.out 1).trans rfl
            have hfz36_0 := blk_frozen BK168.out 0
            have hfz36_1 := blk_frozen BK168.out 1
            go_wp2_with (first | ((with_reducible refine gate_callee (f := 23) rfl ?_); refine goesL_ (some 44) rfl rfl Tryd.func23 (by kernel_rfl) rfl #[.string ((rd_T30 l2 x27_1).f0)] rfl (by (try simp only [List.map_toArray, List.map_cons, List.map_nil]); first | done | rfl | (simp only [List.length_drop, List.length_take]; rfl)) ?_; (with_reducible refine (text_Lower.calls ((rd_T30 l2 x27_1).f0) t171 _ A25.out).mono ?_); rintro e w37 ⟨rfl, hb⟩; refine ⟨_, rfl, ?_⟩; have n0_ := Aside0.mk (Kd.R_below (by (with_reducible repeat (first | apply Kd.R_alloc | apply Kd.R_drewN | apply Kd.R_drew)); exact HO_8.out) hb); have n1_ := Aside0.mk (MRI_below (by with_reducible repeat (first | exact HO_9.out | apply MRI_alloc | apply MRI_drewN | apply MRI_drew | apply MRI_set)) hb); have n2_ := Aside0.mk (blk_below (g := gb165) (o := .cells #[.string x166000_1, .string x166001_1, .string x166002_1, .string x166003_1, .slice none 0 0, .string x166005_1, .slice none 0 0] 24 (0, 0)) (by (with_reducible repeat (first | refine blk_drewN ?_ _ | refine blk_drew ?_ | refine blk_alloc ?_ _)); exact BK165.out) hb); have n3_ := Aside0.mk (blk_below (g := gb168) (o := .cells #[.string ((rd_T30 l2 x27_1).f0), .string ((rd_T30 l2 x27_1).f1)] 30 (0, 0)) (by (with_reducible repeat (first | refine blk_drewN ?_ _ | refine blk_drew ?_ | refine blk_alloc ?_ _)); exact BK168.out) hb); have n4_ := Aside0.mk (below_step (by repeat (first | (with_reducible first | exact HB.out | apply below_alloc | apply pw_below_drewN | apply below_drew1 | refine below_set ?_ GE165.out | refine below_set ?_ GE168.out) | exact HB.out)) hb); clear HO_8; clear HO_9; clear BK165; clear BK168; clear HB; have HO_8 := n0_; have HO_9 := n1_; have BK165 := n2_; have BK168 := n3_; have HB := n4_; clear n0_ n1_ n2_ n3_ n4_; (try clear hb); (try clear hb2); (try clear hk); (try clear hi); have hcz38_0 : w37.cell? ⟨gb168, 0, none⟩ = some (.string ((rd_T30 l2 x27_1).f0)) := (blk_cell BK168.out 0).trans rfl; have hcz38_1 : w37.cell? ⟨gb168, 1, none⟩ = some (.string ((rd_T30 l2 x27_1).f1)) := (blk_cell BK168.out 1).trans rfl; have hfz38_0 := blk_frozen BK168.out 0; have hfz38_1 := blk_frozen BK168.out 1) | ((with_reducible refine gate_callee (f := 31) rfl ?_); refine goesL_ (some 56) rfl rfl Tryd.func31 (by kernel_rfl) rfl #[.string ((rd_T30 l2 x27_1).f1), .string (⟨#[44]⟩ : ByteArray)] rfl (by (try simp only [List.map_toArray, List.map_cons, List.map_nil]); first | done | rfl | (simp only [List.length_drop, List.length_take]; rfl)) ?_; (with_reducible refine (strings_Split.calls ((rd_T30 l2 x27_1).f1) (⟨#[44]⟩ : ByteArray) t175 _ ?side1 A34.out).mono ?_); (case side1 => exact GI.below HG.out (by repeat (first | (with_reducible first | exact HB.out | apply below_alloc | apply pw_below_drewN | apply below_drew1 | refine below_set ?_ GE165.out | refine below_set ?_ GE168.out) | exact HB.out))); rintro e w39 ⟨v176, rfl, ho0, hb⟩; refine ⟨_, rfl, ?_⟩; have n0_ := Aside0.mk (Kd.R_elder' (by (with_reducible repeat (first | apply Kd.R_alloc | apply Kd.R_drewN | apply Kd.R_drew)); exact HO_8.out) (Kd.R_base ho0) hb); have n1_ := Aside0.mk (MRI_below (by with_reducible repeat (first | exact HO_9.out | apply MRI_alloc | apply MRI_drewN | apply MRI_drew | apply MRI_set)) hb); have n2_ := Aside0.mk (Kd.R_lower (Kd.R_new' ho0 (Kd.R_lt (by (with_reducible repeat (first | apply Kd.R_alloc | apply Kd.R_drewN | apply Kd.R_drew)); exact HO_8.out))) (below_size (by repeat (first | (with_reducible first | exact HB.out | apply below_alloc | apply pw_below_drewN | apply below_drew1 | refine below_set ?_ GE165.out | refine below_set ?_ GE168.out) | exact HB.out)))); have n3_ := Aside0.mk (blk_below (g := gb165) (o := .cells #[.string x166000_1, .string x166001_1, .string x166002_1, .string x166003_1, .slice none 0 0, .string x166005_1, .slice none 0 0] 24 (0, 0)) (by (with_reducible repeat (first | refine blk_drewN ?_ _ | refine blk_drew ?_ | refine blk_alloc ?_ _)); exact BK165.out) hb); have n4_ := Aside0.mk (blk_below (g := gb168) (o := .cells #[.string ((rd_T30 l2 x27_1).f0), .string ((rd_T30 l2 x27_1).f1)] 30 (0, 0)) (by (with_reducible repeat (first | refine blk_drewN ?_ _ | refine blk_drew ?_ | refine blk_alloc ?_ _)); exact BK168.out) hb); have n5_ := Aside0.mk (below_step (by repeat (first | (with_reducible first | exact HB.out | apply below_alloc | apply pw_below_drewN | apply below_drew1 | refine below_set ?_ GE165.out | refine below_set ?_ GE168.out) | exact HB.out)) hb); clear HO_8; clear HO_9; clear BK165; clear BK168; clear HB; have HO_8 := n0_; have HO_9 := n1_; have HO177 := n2_; have BK165 := n3_; have BK168 := n4_; have HB := n5_; clear n0_ n1_ n2_ n3_ n4_ n5_; (try clear hb); (try clear hb2); (try clear hk); (try clear hi); (try clear ho0); obtain ⟨Ao40, co40, eo40⟩ := Kd.R_slice HO177.out; subst eo40))
            go_loopg [58] kj9 (fun kq v58 w' => ∃ (x9_3 : List (S30)) (x58_3 : Int), v58 = .int .i64 x58_3 ∧ Aside0 (msg_One.l1 kq a0 a1 l2 x8_1 x9_3 l2 (l2.length : Int) x27_1 t175 (t175.length : Int) x58_3 = some (r1, r2, r3, r4, r5, r6, r7, r8)) ∧ Aside0 (kq ≤ kj9) ∧ Aside0 (Kd.R Kd.string 9 w' w.heap.size (fun k_ => some k_ ≠ ((.slice Ao40 t175.length co40) : Value).ownBlock) u8 x8_1) ∧ Aside0 (MRI w' w.heap.size (.map (some b4_)) x9_3) ∧ Aside0 (Kd.R Kd.string 9 w' w.heap.size (fun k_ => some k_ ≠ (u8 : Value).ownBlock) (.slice Ao40 t175.length co40) t175) ∧ Aside0 (w'.heap[gb165]? = some (.cells #[.string x166000_1, .string x166001_1, .string x166002_1, .string x166003_1, (.slice none 0 0), .string x166005_1, (.slice none 0 0)] 24 (0, 0))) ∧ Aside0 (w'.heap[gb168]? = some (.cells #[.string ((rd_T30 l2 x27_1).f0), .string ((rd_T30 l2 x27_1).f1)] 30 (0, 0))) ∧ Aside0 (Below w.heap.size w w'))
            case atStart => exact ⟨(x9_1), (0), (by first | rfl | (simp; done) | (simp [*]; done) | (simp [bne_nil_]; done) | (simp only [ByteArray.size_append, Int.natCast_add]; rfl)), H', ⟨Nat.le_refl _⟩, ⟨by (with_reducible repeat (first | apply Kd.R_alloc | apply Kd.R_drewN | apply Kd.R_drew)); exact Kd.R_mono HO_8.out (fun _ hk => hk.2)⟩, ⟨by with_reducible repeat (first | exact HO_9.out | apply MRI_alloc | apply MRI_drewN | apply MRI_drew | apply MRI_set)⟩, ⟨by (with_reducible repeat (first | apply Kd.R_alloc | apply Kd.R_drewN | apply Kd.R_drew)); exact Kd.R_mono HO177.out (fun _ hk => hk.2)⟩, ⟨by (with_reducible repeat (first | refine blk_drewN ?_ _ | refine blk_drew ?_ | refine blk_alloc ?_ _)); exact BK165.out⟩, ⟨by (with_reducible repeat (first | refine blk_drewN ?_ _ | refine blk_drew ?_ | refine blk_alloc ?_ _)); exact BK168.out⟩, ⟨by repeat (first | (with_reducible first | exact HB.out | apply below_alloc | apply pw_below_drewN | apply below_drew1 | refine below_set ?_ GE165.out | refine below_set ?_ GE168.out) | exact HB.out)⟩⟩
            case round =>
             clear H'
             try clear c1
             try clear p1
             try clear q1
             try clear hx1
             try clear c2
             try clear p2
             try clear c3
             try clear c5
             try clear p6
             try clear c7
             try clear c7b0
             try clear c8
             try clear c8b0
             try clear c9
             try clear c9b0
             try clear c12
             try clear c15
             try clear p16
             try clear q16
             try clear hx16
             try clear c17
             try clear c20
             try clear c21
             try clear c22
             try clear c23
             try clear c26
             try clear c26b0
             try clear c26b1
             try clear c27
             try clear c28
             try clear c31
             try clear c33
             try clear c33b0
             try clear c33b1
             try clear c35
             try clear hcz13_0
             try clear hcz13_1
             try clear hcz18_0
             try clear hcz18_1
             try clear hcz21_0
             try clear hcz21_1
             try clear hcz24_0
             try clear hcz24_1
             try clear hcz24_2
             try clear hcz24_3
             try clear hcz24_4
             try clear hcz24_5
             try clear hcz24_6
             try clear hcz29_0
             try clear hcz29_1
             try clear hcz31_0
             try clear hcz31_1
             try clear hcz36_0
             try clear hcz36_1
             try clear hcz38_0
             try clear hcz38_1
             try clear hfz13_0
             try clear hfz13_1
             try clear hfz18_0
             try clear hfz18_1
             try clear hfz21_0
             try clear hfz21_1
             try clear hfz24_0
             try clear hfz24_1
             try clear hfz24_2
             try clear hfz24_3
             try clear hfz24_4
             try clear hfz24_5
             try clear hfz24_6
             try clear hfz29_0
             try clear hfz29_1
             try clear hfz31_0
             try clear hfz31_1
             try clear hfz36_0
             try clear hfz36_1
             try clear hfz38_0
             try clear hfz38_1
             try clear hx167_0
             try clear hx167_1
             try clear p1
             try clear p16
             try clear p167
             try clear p2
             try clear q1
             try clear q16
             try clear q167
             obtain ⟨x9_3, x58_3, rfl, HA, HK3, HO_8, HO_9, HO_56, BK165, BK168, HB⟩ := hrel
             cases gk with
             | zero => exact absurd HA.out (by simp [msg_One.l1])
             | succ k3 =>
              have H := HA.out
              clear HA
              simp only [msg_One.l1] at H
              by_cases c41 : x58_3 < (t175.length : Int)
              ·
               rw [if_pos c41] at H
               have c41b0 : decide (x58_3 < (t175.length : Int)) = true := decide_eq_true c41
               clear c41
               by_cases c42 : 0 ≤ x58_3
               ·
                rw [if_pos c42] at H
                have c42b0 : decide (0 ≤ x58_3) = true := decide_eq_true c42
                clear c42
                by_cases c43 : x58_3 < (t175.length : Int)
                ·
                 rw [if_pos c43] at H
                 have c43b0 : decide (x58_3 < (t175.length : Int)) = true := decide_eq_true c43
                 clear c43
                 replace H := Option.bind_eq_some_iff.mp H
                 obtain ⟨t179, A440, H⟩ := H
                 replace H : ((text_Lower.f t179).bind fun t180 => ((mputI.f x9_3 t180 1).bind fun t181 => (msg_One.l1 k3 a0 a1 l2 x8_1 t181 l2 (l2.length : Int) x27_1 t175 (t175.length : Int) (wrap64 (x58_3 + 1))))) = some (r1, r2, r3, r4, r5, r6, r7, r8) := H
                 have A44 := Aside0.mk A440
                 clear A440
                 replace H := Option.bind_eq_some_iff.mp H
                 obtain ⟨t180, A450, H⟩ := H
                 replace H : ((mputI.f x9_3 t180 1).bind fun t181 => (msg_One.l1 k3 a0 a1 l2 x8_1 t181 l2 (l2.length : Int) x27_1 t175 (t175.length : Int) (wrap64 (x58_3 + 1)))) = some (r1, r2, r3, r4, r5, r6, r7, r8) := H
                 have A45 := Aside0.mk A450
                 clear A450
                 replace H := Option.bind_eq_some_iff.mp H
                 obtain ⟨t181, A460, H⟩ := H
                 replace H : (msg_One.l1 k3 a0 a1 l2 x8_1 t181 l2 (l2.length : Int) x27_1 t175 (t175.length : Int) (wrap64 (x58_3 + 1))) = some (r1, r2, r3, r4, r5, r6, r7, r8) := H
                 have A46 := Aside0.mk A460
                 clear A460
                 have H' := Aside0.mk H
                 clear H
                 have p178 : 0 ≤ (x58_3 : Int) := of_decide_eq_true (by first | (with_reducible assumption) | assumption)
                 have q178 : x58_3 < (t175.length : Int) := of_decide_eq_true (by first | (with_reducible assumption) | assumption)
                 obtain ⟨ad178, e178, hx178_0⟩ := Kd.at_string (Kd.R_reads' HO_56.out).2.2 x58_3 p178 q178
                 cases e178
                 replace p178 := eq_true p178
                 replace q178 := eq_true q178
                 go_wp2_with (first | ((with_reducible refine gate_callee (f := 32) rfl ?_); refine goesL_ (some 64) rfl rfl Tryd.func32 (by kernel_rfl) rfl #[.string (rdOf ByteArray.empty t175 x58_3)] rfl (by (try simp only [List.map_toArray, List.map_cons, List.map_nil]); first | done | rfl | (simp only [List.length_drop, List.length_take]; rfl)) ?_; (with_reducible refine (text_Trim.calls (rdOf ByteArray.empty t175 x58_3) t179 _ A44.out).mono ?_); rintro e w47 ⟨rfl, hb⟩; refine ⟨_, rfl, ?_⟩; have n0_ := Aside0.mk (Kd.R_below (by (with_reducible repeat (first | apply Kd.R_alloc | apply Kd.R_drewN | apply Kd.R_drew)); exact HO_8.out) hb); have n1_ := Aside0.mk (MRI_below (by with_reducible repeat (first | exact HO_9.out | apply MRI_alloc | apply MRI_drewN | apply MRI_drew | apply MRI_set)) hb); have n2_ := Aside0.mk (Kd.R_below (by (with_reducible repeat (first | apply Kd.R_alloc | apply Kd.R_drewN | apply Kd.R_drew)); exact HO_56.out) hb); have n3_ := Aside0.mk (blk_below (g := gb165) (o := .cells #[.string x166000_1, .string x166001_1, .string x166002_1, .string x166003_1, .slice none 0 0, .string x166005_1, .slice none 0 0] 24 (0, 0)) (by (with_reducible repeat (first | refine blk_drewN ?_ _ | refine blk_drew ?_ | refine blk_alloc ?_ _)); exact BK165.out) hb); have n4_ := Aside0.mk (blk_below (g := gb168) (o := .cells #[.string ((rd_T30 l2 x27_1).f0), .string ((rd_T30 l2 x27_1).f1)] 30 (0, 0)) (by (with_reducible repeat (first | refine blk_drewN ?_ _ | refine blk_drew ?_ | refine blk_alloc ?_ _)); exact BK168.out) hb); have n5_ := Aside0.mk (below_step (by repeat (first | (with_reducible first | exact HB.out | apply below_alloc | apply pw_below_drewN | apply below_drew1 | refine below_set ?_ GE165.out | refine below_set ?_ GE168.out) | exact HB.out)) hb); clear HO_8; clear HO_9; clear HO_56; clear BK165; clear BK168; clear HB; have HO_8 := n0_; have HO_9 := n1_; have HO_56 := n2_; have BK165 := n3_; have BK168 := n4_; have HB := n5_; clear n0_ n1_ n2_ n3_ n4_ n5_; (try clear hb); (try clear hb2); (try clear hk); (try clear hi)) | ((with_reducible refine gate_callee (f := 23) rfl ?_); refine goesL_ (some 65) rfl rfl Tryd.func23 (by kernel_rfl) rfl #[.string t179] rfl (by (try simp only [List.map_toArray, List.map_cons, List.map_nil]); first | done | rfl | (simp only [List.length_drop, List.length_take]; rfl)) ?_; (with_reducible refine (text_Lower.calls t179 t180 _ A45.out).mono ?_); rintro e w48 ⟨rfl, hb⟩; refine ⟨_, rfl, ?_⟩; have n0_ := Aside0.mk (Kd.R_below (by (with_reducible repeat (first | apply Kd.R_alloc | apply Kd.R_drewN | apply Kd.R_drew)); exact HO_8.out) hb); have n1_ := Aside0.mk (MRI_below (by with_reducible repeat (first | exact HO_9.out | apply MRI_alloc | apply MRI_drewN | apply MRI_drew | apply MRI_set)) hb); have n2_ := Aside0.mk (Kd.R_below (by (with_reducible repeat (first | apply Kd.R_alloc | apply Kd.R_drewN | apply Kd.R_drew)); exact HO_56.out) hb); have n3_ := Aside0.mk (blk_below (g := gb165) (o := .cells #[.string x166000_1, .string x166001_1, .string x166002_1, .string x166003_1, .slice none 0 0, .string x166005_1, .slice none 0 0] 24 (0, 0)) (by (with_reducible repeat (first | refine blk_drewN ?_ _ | refine blk_drew ?_ | refine blk_alloc ?_ _)); exact BK165.out) hb); have n4_ := Aside0.mk (blk_below (g := gb168) (o := .cells #[.string ((rd_T30 l2 x27_1).f0), .string ((rd_T30 l2 x27_1).f1)] 30 (0, 0)) (by (with_reducible repeat (first | refine blk_drewN ?_ _ | refine blk_drew ?_ | refine blk_alloc ?_ _)); exact BK168.out) hb); have n5_ := Aside0.mk (below_step (by repeat (first | (with_reducible first | exact HB.out | apply below_alloc | apply pw_below_drewN | apply below_drew1 | refine below_set ?_ GE165.out | refine below_set ?_ GE168.out) | exact HB.out)) hb); clear HO_8; clear HO_9; clear HO_56; clear BK165; clear BK168; clear HB; have HO_8 := n0_; have HO_9 := n1_; have HO_56 := n2_; have BK165 := n3_; have BK168 := n4_; have HB := n5_; clear n0_ n1_ n2_ n3_ n4_ n5_; (try clear hb); (try clear hb2); (try clear hk); (try clear hi)) | (at_mapUpdate; refine mputIL rfl _ _ _ rfl _ rfl rfl rfl (by with_reducible repeat (first | exact HO_9.out | apply MRI_alloc | apply MRI_drewN | apply MRI_drew | apply MRI_set)) A46.out ?_; intro w50 ho0 hg hm hB_; have n0_ := Aside0.mk (R_m (by (with_reducible repeat (first | apply Kd.R_alloc | apply Kd.R_drewN | apply Kd.R_drew)); exact HO_8.out) hm hg); have n1_ := Aside0.mk (True.intro); have n2_ := Aside0.mk (R_m (by (with_reducible repeat (first | apply Kd.R_alloc | apply Kd.R_drewN | apply Kd.R_drew)); exact HO_56.out) hm hg); have n3_ := Aside0.mk (ho0); have n4_ := Aside0.mk (blk_m (g := gb165) (o := .cells #[.string x166000_1, .string x166001_1, .string x166002_1, .string x166003_1, .slice none 0 0, .string x166005_1, .slice none 0 0] 24 (0, 0)) (by (with_reducible repeat (first | refine blk_drewN ?_ _ | refine blk_drew ?_ | refine blk_alloc ?_ _)); exact BK165.out) (fun _ _ h_ => by cases h_) hm hg); have n5_ := Aside0.mk (blk_m (g := gb168) (o := .cells #[.string ((rd_T30 l2 x27_1).f0), .string ((rd_T30 l2 x27_1).f1)] 30 (0, 0)) (by (with_reducible repeat (first | refine blk_drewN ?_ _ | refine blk_drew ?_ | refine blk_alloc ?_ _)); exact BK168.out) (fun _ _ h_ => by cases h_) hm hg); have n6_ := Aside0.mk (below_m (by repeat (first | (with_reducible first | exact HB.out | apply below_alloc | apply pw_below_drewN | apply below_drew1 | refine below_set ?_ GE165.out | refine below_set ?_ GE168.out) | exact HB.out)) hB_ hg); clear HO_8; clear HO_9; clear HO_56; clear BK165; clear BK168; clear HB; have HO_8 := n0_; have HO_9 := n1_; have HO_56 := n2_; have HO183 := n3_; have BK165 := n4_; have BK168 := n5_; have HB := n6_; clear n0_ n1_ n2_ n3_ n4_ n5_ n6_; (try clear hg); (try clear hm); (try clear hB_); (try clear hb2); (try clear hk); (try clear hi); (try clear ho0)))
                 go_roundg k3
                 case measure => have := HK1.out; have := HJ9.out; have := HK3.out; omega
                 case rel => exact ⟨(t181), (wrap64 (x58_3 + 1)), (by first | rfl | (simp; done) | (simp [*]; done) | (simp [bne_nil_]; done) | (simp only [ByteArray.size_append, Int.natCast_add]; rfl)), H', ⟨by have := HK1.out; have := HJ9.out; have := HK3.out; omega⟩, ⟨by (with_reducible repeat (first | apply Kd.R_alloc | apply Kd.R_drewN | apply Kd.R_drew)); exact HO_8.out⟩, ⟨by with_reducible repeat (first | exact HO183.out | apply MRI_alloc | apply MRI_drewN | apply MRI_drew | apply MRI_set)⟩, ⟨by (with_reducible repeat (first | apply Kd.R_alloc | apply Kd.R_drewN | apply Kd.R_drew)); exact HO_56.out⟩, ⟨by (with_reducible repeat (first | refine blk_drewN ?_ _ | refine blk_drew ?_ | refine blk_alloc ?_ _)); exact BK165.out⟩, ⟨by (with_reducible repeat (first | refine blk_drewN ?_ _ | refine blk_drew ?_ | refine blk_alloc ?_ _)); exact BK168.out⟩, ⟨by repeat (first | (with_reducible first | exact HB.out | apply below_alloc | apply pw_below_drewN | apply below_drew1 | refine below_set ?_ GE165.out | refine below_set ?_ GE168.out) | exact HB.out)⟩⟩
                ·
                 rw [if_neg c43] at H
                 exact absurd H (by simp)
               ·
                rw [if_neg c42] at H
                exact absurd H (by simp)
              ·
               rw [if_neg c41] at H
               have c41b0 : decide (x58_3 < (t175.length : Int)) = false := decide_eq_false c41
               clear c41
               have H' := Aside0.mk H
               clear H
               go_wp2
               go_roundg k3
               case measure => have := HK1.out; have := HJ9.out; have := HK3.out; omega
               case rel => exact ⟨(x8_1), (x9_3), (wrap64 (x27_1 + 1)), (x166000_1), (x166001_1), (x166002_1), (x166003_1), (x166005_1), (by first | rfl | (simp; done) | (simp [*]; done) | (simp [bne_nil_]; done) | (simp only [ByteArray.size_append, Int.natCast_add]; rfl)), H', ⟨by have := HK1.out; have := HJ9.out; have := HK3.out; omega⟩, ⟨by (with_reducible repeat (first | apply Kd.R_alloc | apply Kd.R_drewN | apply Kd.R_drew)); exact Kd.R_mono HO_8.out (fun _ hk => trivial)⟩, ⟨by with_reducible repeat (first | exact HO_9.out | apply MRI_alloc | apply MRI_drewN | apply MRI_drew | apply MRI_set)⟩, ⟨by (with_reducible repeat (first | refine blk_drewN ?_ _ | refine blk_drew ?_ | refine blk_alloc ?_ _)); exact BK165.out⟩, ⟨by repeat (first | (with_reducible first | exact HB.out | apply below_alloc | apply pw_below_drewN | apply below_drew1 | refine below_set ?_ GE165.out | refine below_set ?_ GE168.out) | exact HB.out)⟩⟩
           ·
            rw [if_neg c33] at H
            have c33b0 : (t171.toList == ([99, 111, 110, 110, 101, 99, 116, 105, 111, 110] : List UInt8)) = false := beq_eq_false_iff_ne.mpr c33
            have c33b1 : (t171.toList != ([99, 111, 110, 110, 101, 99, 116, 105, 111, 110] : List UInt8)) = true := bne_iff_ne.mpr c33
            have H' := Aside0.mk H
            clear H
            have hnb51 := NB168_165.out
            have hnc51 := NB165_168.out
            have hcz52_0 : wc.cell? ⟨gb168, 0, none⟩ = some (.string ((rd_T30 l2 x27_1).f0)) := (blk_cell BK168.out 0).trans rfl
            have hcz52_1 : wc.cell? ⟨gb168, 1, none⟩ = some (.string ((rd_T30 l2 x27_1).f1)) := (blk_cell BK168.out 1).trans rfl
            have hfz52_0 := blk_frozen BK168.out 0
            have hfz52_1 := blk_frozen BK168.out 1
            go_wp2_with (first | ((with_reducible refine gate_callee (f := 23) rfl ?_); refine goesL_ (some 44) rfl rfl Tryd.func23 (by kernel_rfl) rfl #[.string ((rd_T30 l2 x27_1).f0)] rfl (by (try simp only [List.map_toArray, List.map_cons, List.map_nil]); first | done | rfl | (simp only [List.length_drop, List.length_take]; rfl)) ?_; (with_reducible refine (text_Lower.calls ((rd_T30 l2 x27_1).f0) t171 _ A25.out).mono ?_); rintro e w53 ⟨rfl, hb⟩; refine ⟨_, rfl, ?_⟩; have n0_ := Aside0.mk (Kd.R_below (by (with_reducible repeat (first | apply Kd.R_alloc | apply Kd.R_drewN | apply Kd.R_drew)); exact HO_8.out) hb); have n1_ := Aside0.mk (MRI_below (by with_reducible repeat (first | exact HO_9.out | apply MRI_alloc | apply MRI_drewN | apply MRI_drew | apply MRI_set)) hb); have n2_ := Aside0.mk (blk_below (g := gb165) (o := .cells #[.string x166000_1, .string x166001_1, .string x166002_1, .string x166003_1, .slice none 0 0, .string x166005_1, .slice none 0 0] 24 (0, 0)) (by (with_reducible repeat (first | refine blk_drewN ?_ _ | refine blk_drew ?_ | refine blk_alloc ?_ _)); exact BK165.out) hb); have n3_ := Aside0.mk (blk_below (g := gb168) (o := .cells #[.string ((rd_T30 l2 x27_1).f0), .string ((rd_T30 l2 x27_1).f1)] 30 (0, 0)) (by (with_reducible repeat (first | refine blk_drewN ?_ _ | refine blk_drew ?_ | refine blk_alloc ?_ _)); exact BK168.out) hb); have n4_ := Aside0.mk (below_step (by repeat (first | (with_reducible first | exact HB.out | apply below_alloc | apply pw_below_drewN | apply below_drew1 | refine below_set ?_ GE165.out | refine below_set ?_ GE168.out) | exact HB.out)) hb); clear HO_8; clear HO_9; clear BK165; clear BK168; clear HB; have HO_8 := n0_; have HO_9 := n1_; have BK165 := n2_; have BK168 := n3_; have HB := n4_; clear n0_ n1_ n2_ n3_ n4_; (try clear hb); (try clear hb2); (try clear hk); (try clear hi)))
            go_roundg kj9
            case measure => have := HK1.out; have := HJ9.out; omega
            case rel => exact ⟨(x8_1), (x9_1), (wrap64 (x27_1 + 1)), (x166000_1), (x166001_1), (x166002_1), (x166003_1), (x166005_1), (by first | rfl | (simp; done) | (simp [*]; done) | (simp [bne_nil_]; done) | (simp only [ByteArray.size_append, Int.natCast_add]; rfl)), H', ⟨by have := HK1.out; have := HJ9.out; omega⟩, ⟨by (with_reducible repeat (first | apply Kd.R_alloc | apply Kd.R_drewN | apply Kd.R_drew)); exact HO_8.out⟩, ⟨by with_reducible repeat (first | exact HO_9.out | apply MRI_alloc | apply MRI_drewN | apply MRI_drew | apply MRI_set)⟩, ⟨by (with_reducible repeat (first | refine blk_drewN ?_ _ | refine blk_drew ?_ | refine blk_alloc ?_ _)); exact BK165.out⟩, ⟨by repeat (first | (with_reducible first | exact HB.out | apply below_alloc | apply pw_below_drewN | apply below_drew1 | refine below_set ?_ GE165.out | refine below_set ?_ GE168.out) | exact HB.out)⟩⟩
      ·
       rw [if_neg c9] at H
       exact absurd H (by simp)
     ·
      rw [if_neg c8] at H
      exact absurd H (by simp)
    ·
     rw [if_neg c7] at H
     have c7b0 : decide (x27_1 < (l2.length : Int)) = false := decide_eq_false c7
     clear c7
     by_cases c54 : (x8_1.length : Int) = 1
     ·
      rw [if_pos c54] at H
      have c54b0 : ((x8_1.length : Int) == 1) = true := beq_iff_eq.mpr c54
      have c54b1 : ((x8_1.length : Int) != 1) = false := bne_eq_false_iff_eq.mpr c54
      clear c54
      replace H := Option.bind_eq_some_iff.mp H
      obtain ⟨⟨t185, t186, t187⟩, A550, H⟩ := H
      replace H : (if t185.toList = ([] : List UInt8) then ((msg_goes.f k1 a0 t187).bind fun t188 => (if t188 = true then (msg_One.j3 k1 l2 x8_1 x9_1 false a0 t185 t186 t187 (⟨#[]⟩ : ByteArray)) else (msg_One.j3 k1 l2 x8_1 x9_1 true a0 t185 t186 t187 (⟨#[]⟩ : ByteArray)))) else (if t186.toList = ([] : List UInt8) then (msg_One.j3 k1 l2 x8_1 x9_1 true a0 t185 t186 t187 (⟨#[]⟩ : ByteArray)) else ((msg_goes.f k1 a0 t187).bind fun t189 => (if t189 = true then (msg_One.j3 k1 l2 x8_1 x9_1 (t187.toList == ([42] : List UInt8)) a0 t185 t186 t187 (⟨#[]⟩ : ByteArray)) else (msg_One.j3 k1 l2 x8_1 x9_1 true a0 t185 t186 t187 (⟨#[]⟩ : ByteArray)))))) = some (r1, r2, r3, r4, r5, r6, r7, r8) := H
      have A55 := Aside0.mk A550
      clear A550
      have HC56 := Aside0.mk H
      clear H
      obtain ⟨Ao57, co57, eo57⟩ := Kd.R_slice HO_8.out
      subst eo57
      go_upto_region 24 with (first | ((with_reducible refine gate_dst (N := 14) rfl ?_); refine box_event ?hg (N := 14) ?hd (cs := #[.string (⟨#[]⟩ : ByteArray), .string (⟨#[]⟩ : ByteArray), .string (⟨#[]⟩ : ByteArray), .string (⟨#[]⟩ : ByteArray), .slice none 0 0, .string (⟨#[]⟩ : ByteArray), .slice none 0 0]) (t := 24) ?hr ?_; (case hd => rfl); (case hg => rfl); (case hr => first | (go_simp; done) | (go_simp; rfl)); intro gb184 hg w58 hbox hb; have n0_ := Aside0.mk (Kd.R_below (by (with_reducible repeat (first | apply Kd.R_alloc | apply Kd.R_drewN | apply Kd.R_drew)); exact HO_8.out) hb); have n1_ := Aside0.mk (MRI_below (by with_reducible repeat (first | exact HO_9.out | apply MRI_alloc | apply MRI_drewN | apply MRI_drew | apply MRI_set)) hb); have n2_ := Aside0.mk (blk_below (g := gb165) (o := .cells #[.string x166000_1, .string x166001_1, .string x166002_1, .string x166003_1, .slice none 0 0, .string x166005_1, .slice none 0 0] 24 (0, 0)) (by (with_reducible repeat (first | refine blk_drewN ?_ _ | refine blk_drew ?_ | refine blk_alloc ?_ _)); exact BK165.out) hb); have n3_ := Aside0.mk (below_step (by repeat (first | (with_reducible first | exact HB.out | apply below_alloc | apply pw_below_drewN | apply below_drew1 | refine below_set ?_ GE165.out) | exact HB.out)) hb); have n4_ := Aside0.mk (hbox); have n5_ := Aside0.mk ((by rw [hg]; exact (below_size (by repeat (first | (with_reducible first | exact HB.out | apply below_alloc | apply pw_below_drewN | apply below_drew1 | refine below_set ?_ GE165.out) | exact HB.out))) : w.heap.size ≤ gb184)); have n6_ := Aside0.mk ((by rw [hg]; exact (below_size (by repeat (first | (with_reducible first | exact HB.out | apply below_alloc | apply pw_below_drewN | apply below_drew1 | refine below_set ?_ GE165.out) | exact HB.out))) : w.heap.size ≤ gb184)); have n7_ := Aside0.mk ((by rw [hg]; exact Nat.ne_of_lt (blk_lt (g := gb165) (o := .cells #[.string x166000_1, .string x166001_1, .string x166002_1, .string x166003_1, .slice none 0 0, .string x166005_1, .slice none 0 0] 24 (0, 0)) (by (with_reducible repeat (first | refine blk_drewN ?_ _ | refine blk_drew ?_ | refine blk_alloc ?_ _)); exact BK165.out)) : gb165 ≠ gb184)); have n8_ := Aside0.mk ((by rw [hg]; exact Nat.ne_of_gt (blk_lt (g := gb165) (o := .cells #[.string x166000_1, .string x166001_1, .string x166002_1, .string x166003_1, .slice none 0 0, .string x166005_1, .slice none 0 0] 24 (0, 0)) (by (with_reducible repeat (first | refine blk_drewN ?_ _ | refine blk_drew ?_ | refine blk_alloc ?_ _)); exact BK165.out)) : gb184 ≠ gb165)); clear HO_8; clear HO_9; clear BK165; clear HB; have HO_8 := n0_; have HO_9 := n1_; have BK165 := n2_; have HB := n3_; have BK184 := n4_; have GW184 := n5_; have GE184 := n6_; have NB165_184 := n7_; have NB184_165 := n8_; clear n0_ n1_ n2_ n3_ n4_ n5_ n6_ n7_ n8_; clear hb hbox hg; have hnb59 := NB184_165.out; have hnc59 := NB165_184.out; have hcz60_0 : w58.cell? ⟨gb184, 0, none⟩ = some (.string (⟨#[]⟩ : ByteArray)) := (blk_cell BK184.out 0).trans rfl; have hcz60_1 : w58.cell? ⟨gb184, 1, none⟩ = some (.string (⟨#[]⟩ : ByteArray)) := (blk_cell BK184.out 1).trans rfl; have hcz60_2 : w58.cell? ⟨gb184, 2, none⟩ = some (.string (⟨#[]⟩ : ByteArray)) := (blk_cell BK184.out 2).trans rfl; have hcz60_3 : w58.cell? ⟨gb184, 3, none⟩ = some (.string (⟨#[]⟩ : ByteArray)) := (blk_cell BK184.out 3).trans rfl; have hcz60_4 : w58.cell? ⟨gb184, 4, none⟩ = some (.slice none 0 0) := (blk_cell BK184.out 4).trans rfl; have hcz60_5 : w58.cell? ⟨gb184, 5, none⟩ = some (.string (⟨#[]⟩ : ByteArray)) := (blk_cell BK184.out 5).trans rfl; have hcz60_6 : w58.cell? ⟨gb184, 6, none⟩ = some (.slice none 0 0) := (blk_cell BK184.out 6).trans rfl; have hfz60_0 := blk_frozen BK184.out 0; have hfz60_1 := blk_frozen BK184.out 1; have hfz60_2 := blk_frozen BK184.out 2; have hfz60_3 := blk_frozen BK184.out 3; have hfz60_4 := blk_frozen BK184.out 4; have hfz60_5 := blk_frozen BK184.out 5; have hfz60_6 := blk_frozen BK184.out 6) | ((with_reducible refine gate_callee (f := 33) rfl ?_); refine goesL_ (some 76) rfl rfl Tryd.func33 (by kernel_rfl) rfl #[.string a1] rfl (by (try simp only [List.map_toArray, List.map_cons, List.map_nil]); first | done | rfl | (simp only [List.length_drop, List.length_take]; rfl)) ?_; (with_reducible refine (msg_aim.calls a1 t185 t186 t187 _ A55.out).mono ?_); rintro e w61 ⟨rfl, hb⟩; refine ⟨_, rfl, ?_⟩; have n0_ := Aside0.mk (Kd.R_below (by (with_reducible repeat (first | apply Kd.R_alloc | apply Kd.R_drewN | apply Kd.R_drew)); exact (Kd.R_mono (Kd.R_far (p := ⟨gb184, 6, none⟩) (Kd.R_far (p := ⟨gb184, 5, none⟩) (Kd.R_far (p := ⟨gb184, 4, none⟩) (Kd.R_far (p := ⟨gb184, 3, none⟩) (Kd.R_far (p := ⟨gb184, 2, none⟩) (Kd.R_far (p := ⟨gb184, 1, none⟩) (Kd.R_far (p := ⟨gb184, 0, none⟩) (Kd.R_types HO_8.out BK184.out (by decide)) (fun _ hk => hk.2) (.string a0)) (fun _ hk => hk.2) (.string (⟨#[]⟩ : ByteArray))) (fun _ hk => hk.2) (.string (⟨#[]⟩ : ByteArray))) (fun _ hk => hk.2) (.string (⟨#[]⟩ : ByteArray))) (fun _ hk => hk.2) (.slice none 0 0)) (fun _ hk => hk.2) (.string (⟨#[]⟩ : ByteArray))) (fun _ hk => hk.2) (.slice none 0 0)) (fun _ h_ => h_.1))) hb); have n1_ := Aside0.mk (MRI_below (by with_reducible repeat (first | exact HO_9.out | apply MRI_alloc | apply MRI_drewN | apply MRI_drew | apply MRI_set)) hb); have n2_ := Aside0.mk (blk_below (g := gb165) (o := .cells #[.string x166000_1, .string x166001_1, .string x166002_1, .string x166003_1, .slice none 0 0, .string x166005_1, .slice none 0 0] 24 (0, 0)) (by (with_reducible repeat (first | refine blk_drewN ?_ _ | refine blk_drew ?_ | refine blk_alloc ?_ _)); refine blk_far ?_ NB165_184.out _; (with_reducible repeat (first | refine blk_drewN ?_ _ | refine blk_drew ?_ | refine blk_alloc ?_ _)); refine blk_far ?_ NB165_184.out _; (with_reducible repeat (first | refine blk_drewN ?_ _ | refine blk_drew ?_ | refine blk_alloc ?_ _)); refine blk_far ?_ NB165_184.out _; (with_reducible repeat (first | refine blk_drewN ?_ _ | refine blk_drew ?_ | refine blk_alloc ?_ _)); refine blk_far ?_ NB165_184.out _; (with_reducible repeat (first | refine blk_drewN ?_ _ | refine blk_drew ?_ | refine blk_alloc ?_ _)); refine blk_far ?_ NB165_184.out _; (with_reducible repeat (first | refine blk_drewN ?_ _ | refine blk_drew ?_ | refine blk_alloc ?_ _)); refine blk_far ?_ NB165_184.out _; (with_reducible repeat (first | refine blk_drewN ?_ _ | refine blk_drew ?_ | refine blk_alloc ?_ _)); refine blk_far ?_ NB165_184.out _; (with_reducible repeat (first | refine blk_drewN ?_ _ | refine blk_drew ?_ | refine blk_alloc ?_ _)); exact BK165.out) hb); have n3_ := Aside0.mk (blk_below (g := gb184) (o := .cells #[.string a0, .string (⟨#[]⟩ : ByteArray), .string (⟨#[]⟩ : ByteArray), .string (⟨#[]⟩ : ByteArray), .slice none 0 0, .string (⟨#[]⟩ : ByteArray), .slice none 0 0] 24 (0, 0)) (by (with_reducible repeat (first | refine blk_drewN ?_ _ | refine blk_drew ?_ | refine blk_alloc ?_ _)); refine blk_put (cs := #[.string a0, .string (⟨#[]⟩ : ByteArray), .string (⟨#[]⟩ : ByteArray), .string (⟨#[]⟩ : ByteArray), .slice none 0 0, .string (⟨#[]⟩ : ByteArray), .slice none 0 0]) ?_ 6 _ rfl; (with_reducible repeat (first | refine blk_drewN ?_ _ | refine blk_drew ?_ | refine blk_alloc ?_ _)); refine blk_put (cs := #[.string a0, .string (⟨#[]⟩ : ByteArray), .string (⟨#[]⟩ : ByteArray), .string (⟨#[]⟩ : ByteArray), .slice none 0 0, .string (⟨#[]⟩ : ByteArray), .slice none 0 0]) ?_ 5 _ rfl; (with_reducible repeat (first | refine blk_drewN ?_ _ | refine blk_drew ?_ | refine blk_alloc ?_ _)); refine blk_put (cs := #[.string a0, .string (⟨#[]⟩ : ByteArray), .string (⟨#[]⟩ : ByteArray), .string (⟨#[]⟩ : ByteArray), .slice none 0 0, .string (⟨#[]⟩ : ByteArray), .slice none 0 0]) ?_ 4 _ rfl; (with_reducible repeat (first | refine blk_drewN ?_ _ | refine blk_drew ?_ | refine blk_alloc ?_ _)); refine blk_put (cs := #[.string a0, .string (⟨#[]⟩ : ByteArray), .string (⟨#[]⟩ : ByteArray), .string (⟨#[]⟩ : ByteArray), .slice none 0 0, .string (⟨#[]⟩ : ByteArray), .slice none 0 0]) ?_ 3 _ rfl; (with_reducible repeat (first | refine blk_drewN ?_ _ | refine blk_drew ?_ | refine blk_alloc ?_ _)); refine blk_put (cs := #[.string a0, .string (⟨#[]⟩ : ByteArray), .string (⟨#[]⟩ : ByteArray), .string (⟨#[]⟩ : ByteArray), .slice none 0 0, .string (⟨#[]⟩ : ByteArray), .slice none 0 0]) ?_ 2 _ rfl; (with_reducible repeat (first | refine blk_drewN ?_ _ | refine blk_drew ?_ | refine blk_alloc ?_ _)); refine blk_put (cs := #[.string a0, .string (⟨#[]⟩ : ByteArray), .string (⟨#[]⟩ : ByteArray), .string (⟨#[]⟩ : ByteArray), .slice none 0 0, .string (⟨#[]⟩ : ByteArray), .slice none 0 0]) ?_ 1 _ rfl; (with_reducible repeat (first | refine blk_drewN ?_ _ | refine blk_drew ?_ | refine blk_alloc ?_ _)); refine blk_put (cs := #[.string (⟨#[]⟩ : ByteArray), .string (⟨#[]⟩ : ByteArray), .string (⟨#[]⟩ : ByteArray), .string (⟨#[]⟩ : ByteArray), .slice none 0 0, .string (⟨#[]⟩ : ByteArray), .slice none 0 0]) ?_ 0 _ rfl; (with_reducible repeat (first | refine blk_drewN ?_ _ | refine blk_drew ?_ | refine blk_alloc ?_ _)); exact BK184.out) hb); have n4_ := Aside0.mk (below_step (by repeat (first | (with_reducible first | exact HB.out | apply below_alloc | apply pw_below_drewN | apply below_drew1 | refine below_set ?_ GE165.out | refine below_set ?_ GE184.out) | exact HB.out)) hb); clear HO_8; clear HO_9; clear BK165; clear BK184; clear HB; have HO_8 := n0_; have HO_9 := n1_; have BK165 := n2_; have BK184 := n3_; have HB := n4_; clear n0_ n1_ n2_ n3_ n4_; (try clear hb); (try clear hb2); (try clear hk); (try clear hi); have hcz62_0 : w61.cell? ⟨gb184, 0, none⟩ = some (.string a0) := (blk_cell BK184.out 0).trans rfl; have hcz62_1 : w61.cell? ⟨gb184, 1, none⟩ = some (.string (⟨#[]⟩ : ByteArray)) := (blk_cell BK184.out 1).trans rfl; have hcz62_2 : w61.cell? ⟨gb184, 2, none⟩ = some (.string (⟨#[]⟩ : ByteArray)) := (blk_cell BK184.out 2).trans rfl; have hcz62_3 : w61.cell? ⟨gb184, 3, none⟩ = some (.string (⟨#[]⟩ : ByteArray)) := (blk_cell BK184.out 3).trans rfl; have hcz62_4 : w61.cell? ⟨gb184, 4, none⟩ = some (.slice none 0 0) := (blk_cell BK184.out 4).trans rfl; have hcz62_5 : w61.cell? ⟨gb184, 5, none⟩ = some (.string (⟨#[]⟩ : ByteArray)) := (blk_cell BK184.out 5).trans rfl; have hcz62_6 : w61.cell? ⟨gb184, 6, none⟩ = some (.slice none 0 0) := (blk_cell BK184.out 6).trans rfl; have hfz62_0 := blk_frozen BK184.out 0; have hfz62_1 := blk_frozen BK184.out 1; have hfz62_2 := blk_frozen BK184.out 2; have hfz62_3 := blk_frozen BK184.out 3; have hfz62_4 := blk_frozen BK184.out 4; have hfz62_5 := blk_frozen BK184.out 5; have hfz62_6 := blk_frozen BK184.out 6))
      (try simp only [Act.put, List.setIfInBounds_toArray, List.set_cons_zero, List.set_cons_succ])
      go_cut [107] (fun v107 wc => ∃ (kq : Nat) (x107_55 : Bool), v107 = .bool x107_55 ∧ Aside0 (msg_One.j3 kq l2 x8_1 x9_1 x107_55 a0 t185 t186 t187 (⟨#[]⟩ : ByteArray) = some (r1, r2, r3, r4, r5, r6, r7, r8)) ∧ Aside0 (kq ≤ k1) ∧ Aside0 (Kd.R Kd.string 9 wc w.heap.size (fun _ => True) (.slice Ao57 x8_1.length co57) x8_1) ∧ Aside0 (MRI wc w.heap.size (.map (some b4_)) x9_1) ∧ Aside0 (wc.heap[gb165]? = some (.cells #[.string x166000_1, .string x166001_1, .string x166002_1, .string x166003_1, (.slice none 0 0), .string x166005_1, (.slice none 0 0)] 24 (0, 0))) ∧ Aside0 (wc.heap[gb184]? = some (.cells #[.string a0, .string t185, .string t186, .string t187, (.slice none 0 0), .string (⟨#[]⟩ : ByteArray), (.slice none 0 0)] 24 (0, 0))) ∧ Aside0 (Below w.heap.size w wc))
      case first =>
       have H := HC56.out
       clear HC56
       by_cases c63 : t185.toList = ([] : List UInt8)
       ·
        rw [if_pos c63] at H
        have c63b0 : (t185.toList == ([] : List UInt8)) = true := beq_iff_eq.mpr c63
        have c63b1 : (t185.toList != ([] : List UInt8)) = false := bne_eq_false_iff_eq.mpr c63
        clear c63
        (first | rw [c63b0] | (simp only [i64_w, i32_w]; rw [c63b0]) | skip)
        replace H := Option.bind_eq_some_iff.mp H
        obtain ⟨t188, A640, H⟩ := H
        replace H : (if t188 = true then (msg_One.j3 k1 l2 x8_1 x9_1 false a0 t185 t186 t187 (⟨#[]⟩ : ByteArray)) else (msg_One.j3 k1 l2 x8_1 x9_1 true a0 t185 t186 t187 (⟨#[]⟩ : ByteArray))) = some (r1, r2, r3, r4, r5, r6, r7, r8) := H
        have A64 := Aside0.mk A640
        clear A640
        by_cases c65 : t188 = true
        ·
         subst c65
         have H1 : (msg_One.j3 k1 l2 x8_1 x9_1 false a0 t185 t186 t187 (⟨#[]⟩ : ByteArray)) = some (r1, r2, r3, r4, r5, r6, r7, r8) := by rw [if_pos rfl] at H; exact H
         clear H
         have H := H1
         clear H1
         have H' := Aside0.mk H
         clear H
         have hnb66 := NB184_165.out
         have hnc66 := NB165_184.out
         have hcz67_0 : w61.cell? ⟨gb184, 0, none⟩ = some (.string a0) := (blk_cell BK184.out 0).trans rfl
         have hcz67_1 : w61.cell? ⟨gb184, 1, none⟩ = some (.string (⟨#[]⟩ : ByteArray)) := (blk_cell BK184.out 1).trans rfl
         have hcz67_2 : w61.cell? ⟨gb184, 2, none⟩ = some (.string (⟨#[]⟩ : ByteArray)) := (blk_cell BK184.out 2).trans rfl
         have hcz67_3 : w61.cell? ⟨gb184, 3, none⟩ = some (.string (⟨#[]⟩ : ByteArray)) := (blk_cell BK184.out 3).trans rfl
         have hcz67_4 : w61.cell? ⟨gb184, 4, none⟩ = some (.slice none 0 0) := (blk_cell BK184.out 4).trans rfl
         have hcz67_5 : w61.cell? ⟨gb184, 5, none⟩ = some (.string (⟨#[]⟩ : ByteArray)) := (blk_cell BK184.out 5).trans rfl
         have hcz67_6 : w61.cell? ⟨gb184, 6, none⟩ = some (.slice none 0 0) := (blk_cell BK184.out 6).trans rfl
         have hfz67_0 := blk_frozen BK184.out 0
         have hfz67_1 := blk_frozen BK184.out 1
         have hfz67_2 := blk_frozen BK184.out 2
         have hfz67_3 := blk_frozen BK184.out 3
         have hfz67_4 := blk_frozen BK184.out 4
         have hfz67_5 := blk_frozen BK184.out 5
         have hfz67_6 := blk_frozen BK184.out 6
         go_wp2_with (first | (go_at_call 18; (with_reducible refine (msg_goes.calls k1 a0 t187 true _ A64.out).mono ?_); rintro e w' ⟨rfl, ⟨nd, rfl⟩⟩))
         go_meet
         case rel => exact ⟨_, (false), (by first | rfl | (simp; done) | (simp [*]; done) | (simp [bne_nil_]; done) | (simp only [ByteArray.size_append, Int.natCast_add]; rfl)), H', ⟨by have := HK1.out; first | omega | exact Nat.le_refl _⟩, ⟨by (with_reducible repeat (first | apply Kd.R_alloc | apply Kd.R_drewN | apply Kd.R_drew)); exact Kd.R_mono (Kd.R_far (p := ⟨gb184, 3, none⟩) (Kd.R_far (p := ⟨gb184, 2, none⟩) (Kd.R_far (p := ⟨gb184, 1, none⟩) (Kd.R_types HO_8.out BK184.out (by decide)) (fun _ hk => hk.2) (.string t185)) (fun _ hk => hk.2) (.string t186)) (fun _ hk => hk.2) (.string t187)) (fun _ hk => trivial)⟩, ⟨by with_reducible repeat (first | exact HO_9.out | apply MRI_alloc | apply MRI_drewN | apply MRI_drew | apply MRI_set)⟩, ⟨by (with_reducible repeat (first | refine blk_drewN ?_ _ | refine blk_drew ?_ | refine blk_alloc ?_ _)); refine blk_far ?_ NB165_184.out _; (with_reducible repeat (first | refine blk_drewN ?_ _ | refine blk_drew ?_ | refine blk_alloc ?_ _)); refine blk_far ?_ NB165_184.out _; (with_reducible repeat (first | refine blk_drewN ?_ _ | refine blk_drew ?_ | refine blk_alloc ?_ _)); refine blk_far ?_ NB165_184.out _; (with_reducible repeat (first | refine blk_drewN ?_ _ | refine blk_drew ?_ | refine blk_alloc ?_ _)); exact BK165.out⟩, ⟨by (with_reducible repeat (first | refine blk_drewN ?_ _ | refine blk_drew ?_ | refine blk_alloc ?_ _)); refine blk_put (cs := #[.string a0, .string t185, .string t186, .string (⟨#[]⟩ : ByteArray), .slice none 0 0, .string (⟨#[]⟩ : ByteArray), .slice none 0 0]) ?_ 3 _ rfl; (with_reducible repeat (first | refine blk_drewN ?_ _ | refine blk_drew ?_ | refine blk_alloc ?_ _)); refine blk_put (cs := #[.string a0, .string t185, .string (⟨#[]⟩ : ByteArray), .string (⟨#[]⟩ : ByteArray), .slice none 0 0, .string (⟨#[]⟩ : ByteArray), .slice none 0 0]) ?_ 2 _ rfl; (with_reducible repeat (first | refine blk_drewN ?_ _ | refine blk_drew ?_ | refine blk_alloc ?_ _)); refine blk_put (cs := #[.string a0, .string (⟨#[]⟩ : ByteArray), .string (⟨#[]⟩ : ByteArray), .string (⟨#[]⟩ : ByteArray), .slice none 0 0, .string (⟨#[]⟩ : ByteArray), .slice none 0 0]) ?_ 1 _ rfl; (with_reducible repeat (first | refine blk_drewN ?_ _ | refine blk_drew ?_ | refine blk_alloc ?_ _)); exact BK184.out⟩, ⟨by repeat (first | (with_reducible first | exact HB.out | apply below_alloc | apply pw_below_drewN | apply below_drew1 | refine below_set ?_ GE165.out | refine below_set ?_ GE184.out) | exact HB.out)⟩⟩
        ·
         replace c65 := Bool.eq_false_iff.mpr c65
         subst c65
         have H1 : (msg_One.j3 k1 l2 x8_1 x9_1 true a0 t185 t186 t187 (⟨#[]⟩ : ByteArray)) = some (r1, r2, r3, r4, r5, r6, r7, r8) := by rw [if_neg (show ¬ (false = true) by decide)] at H; exact H
         clear H
         have H := H1
         clear H1
         have H' := Aside0.mk H
         clear H
         have hnb68 := NB184_165.out
         have hnc68 := NB165_184.out
         have hcz69_0 : w61.cell? ⟨gb184, 0, none⟩ = some (.string a0) := (blk_cell BK184.out 0).trans rfl
         have hcz69_1 : w61.cell? ⟨gb184, 1, none⟩ = some (.string (⟨#[]⟩ : ByteArray)) := (blk_cell BK184.out 1).trans rfl
         have hcz69_2 : w61.cell? ⟨gb184, 2, none⟩ = some (.string (⟨#[]⟩ : ByteArray)) := (blk_cell BK184.out 2).trans rfl
         have hcz69_3 : w61.cell? ⟨gb184, 3, none⟩ = some (.string (⟨#[]⟩ : ByteArray)) := (blk_cell BK184.out 3).trans rfl
         have hcz69_4 : w61.cell? ⟨gb184, 4, none⟩ = some (.slice none 0 0) := (blk_cell BK184.out 4).trans rfl
         have hcz69_5 : w61.cell? ⟨gb184, 5, none⟩ = some (.string (⟨#[]⟩ : ByteArray)) := (blk_cell BK184.out 5).trans rfl
         have hcz69_6 : w61.cell? ⟨gb184, 6, none⟩ = some (.slice none 0 0) := (blk_cell BK184.out 6).trans rfl
         have hfz69_0 := blk_frozen BK184.out 0
         have hfz69_1 := blk_frozen BK184.out 1
         have hfz69_2 := blk_frozen BK184.out 2
         have hfz69_3 := blk_frozen BK184.out 3
         have hfz69_4 := blk_frozen BK184.out 4
         have hfz69_5 := blk_frozen BK184.out 5
         have hfz69_6 := blk_frozen BK184.out 6
         go_wp2_with (first | (go_at_call 18; (with_reducible refine (msg_goes.calls k1 a0 t187 false _ A64.out).mono ?_); rintro e w' ⟨rfl, ⟨nd, rfl⟩⟩))
         go_meet
         case rel => exact ⟨_, (true), (by first | rfl | (simp; done) | (simp [*]; done) | (simp [bne_nil_]; done) | (simp only [ByteArray.size_append, Int.natCast_add]; rfl)), H', ⟨by have := HK1.out; first | omega | exact Nat.le_refl _⟩, ⟨by (with_reducible repeat (first | apply Kd.R_alloc | apply Kd.R_drewN | apply Kd.R_drew)); exact Kd.R_mono (Kd.R_far (p := ⟨gb184, 3, none⟩) (Kd.R_far (p := ⟨gb184, 2, none⟩) (Kd.R_far (p := ⟨gb184, 1, none⟩) (Kd.R_types HO_8.out BK184.out (by decide)) (fun _ hk => hk.2) (.string t185)) (fun _ hk => hk.2) (.string t186)) (fun _ hk => hk.2) (.string t187)) (fun _ hk => trivial)⟩, ⟨by with_reducible repeat (first | exact HO_9.out | apply MRI_alloc | apply MRI_drewN | apply MRI_drew | apply MRI_set)⟩, ⟨by (with_reducible repeat (first | refine blk_drewN ?_ _ | refine blk_drew ?_ | refine blk_alloc ?_ _)); refine blk_far ?_ NB165_184.out _; (with_reducible repeat (first | refine blk_drewN ?_ _ | refine blk_drew ?_ | refine blk_alloc ?_ _)); refine blk_far ?_ NB165_184.out _; (with_reducible repeat (first | refine blk_drewN ?_ _ | refine blk_drew ?_ | refine blk_alloc ?_ _)); refine blk_far ?_ NB165_184.out _; (with_reducible repeat (first | refine blk_drewN ?_ _ | refine blk_drew ?_ | refine blk_alloc ?_ _)); exact BK165.out⟩, ⟨by (with_reducible repeat (first | refine blk_drewN ?_ _ | refine blk_drew ?_ | refine blk_alloc ?_ _)); refine blk_put (cs := #[.string a0, .string t185, .string t186, .string (⟨#[]⟩ : ByteArray), .slice none 0 0, .string (⟨#[]⟩ : ByteArray), .slice none 0 0]) ?_ 3 _ rfl; (with_reducible repeat (first | refine blk_drewN ?_ _ | refine blk_drew ?_ | refine blk_alloc ?_ _)); refine blk_put (cs := #[.string a0, .string t185, .string (⟨#[]⟩ : ByteArray), .string (⟨#[]⟩ : ByteArray), .slice none 0 0, .string (⟨#[]⟩ : ByteArray), .slice none 0 0]) ?_ 2 _ rfl; (with_reducible repeat (first | refine blk_drewN ?_ _ | refine blk_drew ?_ | refine blk_alloc ?_ _)); refine blk_put (cs := #[.string a0, .string (⟨#[]⟩ : ByteArray), .string (⟨#[]⟩ : ByteArray), .string (⟨#[]⟩ : ByteArray), .slice none 0 0, .string (⟨#[]⟩ : ByteArray), .slice none 0 0]) ?_ 1 _ rfl; (with_reducible repeat (first | refine blk_drewN ?_ _ | refine blk_drew ?_ | refine blk_alloc ?_ _)); exact BK184.out⟩, ⟨by repeat (first | (with_reducible first | exact HB.out | apply below_alloc | apply pw_below_drewN | apply below_drew1 | refine below_set ?_ GE165.out | refine below_set ?_ GE184.out) | exact HB.out)⟩⟩
       ·
        rw [if_neg c63] at H
        have c63b0 : (t185.toList == ([] : List UInt8)) = false := beq_eq_false_iff_ne.mpr c63
        have c63b1 : (t185.toList != ([] : List UInt8)) = true := bne_iff_ne.mpr c63
        (first | rw [c63b0] | (simp only [i64_w, i32_w]; rw [c63b0]) | skip)
        by_cases c70 : t186.toList = ([] : List UInt8)
        ·
         rw [if_pos c70] at H
         have c70b0 : (t186.toList == ([] : List UInt8)) = true := beq_iff_eq.mpr c70
         have c70b1 : (t186.toList != ([] : List UInt8)) = false := bne_eq_false_iff_eq.mpr c70
         clear c70
         have H' := Aside0.mk H
         clear H
         have hnb71 := NB184_165.out
         have hnc71 := NB165_184.out
         have hcz72_0 : w61.cell? ⟨gb184, 0, none⟩ = some (.string a0) := (blk_cell BK184.out 0).trans rfl
         have hcz72_1 : w61.cell? ⟨gb184, 1, none⟩ = some (.string (⟨#[]⟩ : ByteArray)) := (blk_cell BK184.out 1).trans rfl
         have hcz72_2 : w61.cell? ⟨gb184, 2, none⟩ = some (.string (⟨#[]⟩ : ByteArray)) := (blk_cell BK184.out 2).trans rfl
         have hcz72_3 : w61.cell? ⟨gb184, 3, none⟩ = some (.string (⟨#[]⟩ : ByteArray)) := (blk_cell BK184.out 3).trans rfl
         have hcz72_4 : w61.cell? ⟨gb184, 4, none⟩ = some (.slice none 0 0) := (blk_cell BK184.out 4).trans rfl
         have hcz72_5 : w61.cell? ⟨gb184, 5, none⟩ = some (.string (⟨#[]⟩ : ByteArray)) := (blk_cell BK184.out 5).trans rfl
         have hcz72_6 : w61.cell? ⟨gb184, 6, none⟩ = some (.slice none 0 0) := (blk_cell BK184.out 6).trans rfl
         have hfz72_0 := blk_frozen BK184.out 0
         have hfz72_1 := blk_frozen BK184.out 1
         have hfz72_2 := blk_frozen BK184.out 2
         have hfz72_3 := blk_frozen BK184.out 3
         have hfz72_4 := blk_frozen BK184.out 4
         have hfz72_5 := blk_frozen BK184.out 5
         have hfz72_6 := blk_frozen BK184.out 6
         go_wp2
         go_meet
         case rel => exact ⟨_, (true), (by first | rfl | (simp; done) | (simp [*]; done) | (simp [bne_nil_]; done) | (simp only [ByteArray.size_append, Int.natCast_add]; rfl)), H', ⟨by have := HK1.out; first | omega | exact Nat.le_refl _⟩, ⟨by (with_reducible repeat (first | apply Kd.R_alloc | apply Kd.R_drewN | apply Kd.R_drew)); exact Kd.R_mono (Kd.R_far (p := ⟨gb184, 3, none⟩) (Kd.R_far (p := ⟨gb184, 2, none⟩) (Kd.R_far (p := ⟨gb184, 1, none⟩) (Kd.R_types HO_8.out BK184.out (by decide)) (fun _ hk => hk.2) (.string t185)) (fun _ hk => hk.2) (.string t186)) (fun _ hk => hk.2) (.string t187)) (fun _ hk => trivial)⟩, ⟨by with_reducible repeat (first | exact HO_9.out | apply MRI_alloc | apply MRI_drewN | apply MRI_drew | apply MRI_set)⟩, ⟨by (with_reducible repeat (first | refine blk_drewN ?_ _ | refine blk_drew ?_ | refine blk_alloc ?_ _)); refine blk_far ?_ NB165_184.out _; (with_reducible repeat (first | refine blk_drewN ?_ _ | refine blk_drew ?_ | refine blk_alloc ?_ _)); refine blk_far ?_ NB165_184.out _; (with_reducible repeat (first | refine blk_drewN ?_ _ | refine blk_drew ?_ | refine blk_alloc ?_ _)); refine blk_far ?_ NB165_184.out _; (with_reducible repeat (first | refine blk_drewN ?_ _ | refine blk_drew ?_ | refine blk_alloc ?_ _)); exact BK165.out⟩, ⟨by (with_reducible repeat (first | refine blk_drewN ?_ _ | refine blk_drew ?_ | refine blk_alloc ?_ _)); refine blk_put (cs := #[.string a0, .string t185, .string t186, .string (⟨#[]⟩ : ByteArray), .slice none 0 0, .string (⟨#[]⟩ : ByteArray), .slice none 0 0]) ?_ 3 _ rfl; (with_reducible repeat (first | refine blk_drewN ?_ _ | refine blk_drew ?_ | refine blk_alloc ?_ _)); refine blk_put (cs := #[.string a0, .string t185, .string (⟨#[]⟩ : ByteArray), .string (⟨#[]⟩ : ByteArray), .slice none 0 0, .string (⟨#[]⟩ : ByteArray), .slice none 0 0]) ?_ 2 _ rfl; (with_reducible repeat (first | refine blk_drewN ?_ _ | refine blk_drew ?_ | refine blk_alloc ?_ _)); refine blk_put (cs := #[.string a0, .string (⟨#[]⟩ : ByteArray), .string (⟨#[]⟩ : ByteArray), .string (⟨#[]⟩ : ByteArray), .slice none 0 0, .string (⟨#[]⟩ : ByteArray), .slice none 0 0]) ?_ 1 _ rfl; (with_reducible repeat (first | refine blk_drewN ?_ _ | refine blk_drew ?_ | refine blk_alloc ?_ _)); exact BK184.out⟩, ⟨by repeat (first | (with_reducible first | exact HB.out | apply below_alloc | apply pw_below_drewN | apply below_drew1 | refine below_set ?_ GE165.out | refine below_set ?_ GE184.out) | exact HB.out)⟩⟩
        ·
         rw [if_neg c70] at H
         have c70b0 : (t186.toList == ([] : List UInt8)) = false := beq_eq_false_iff_ne.mpr c70
         have c70b1 : (t186.toList != ([] : List UInt8)) = true := bne_iff_ne.mpr c70
         replace H := Option.bind_eq_some_iff.mp H
         obtain ⟨t189, A730, H⟩ := H
         replace H : (if t189 = true then (msg_One.j3 k1 l2 x8_1 x9_1 (t187.toList == ([42] : List UInt8)) a0 t185 t186 t187 (⟨#[]⟩ : ByteArray)) else (msg_One.j3 k1 l2 x8_1 x9_1 true a0 t185 t186 t187 (⟨#[]⟩ : ByteArray))) = some (r1, r2, r3, r4, r5, r6, r7, r8) := H
         have A73 := Aside0.mk A730
         clear A730
         by_cases c74 : t189 = true
         ·
          subst c74
          have H1 : (msg_One.j3 k1 l2 x8_1 x9_1 (t187.toList == ([42] : List UInt8)) a0 t185 t186 t187 (⟨#[]⟩ : ByteArray)) = some (r1, r2, r3, r4, r5, r6, r7, r8) := by rw [if_pos rfl] at H; exact H
          clear H
          have H := H1
          clear H1
          have H' := Aside0.mk H
          clear H
          have hnb75 := NB184_165.out
          have hnc75 := NB165_184.out
          have hcz76_0 : w61.cell? ⟨gb184, 0, none⟩ = some (.string a0) := (blk_cell BK184.out 0).trans rfl
          have hcz76_1 : w61.cell? ⟨gb184, 1, none⟩ = some (.string (⟨#[]⟩ : ByteArray)) := (blk_cell BK184.out 1).trans rfl
          have hcz76_2 : w61.cell? ⟨gb184, 2, none⟩ = some (.string (⟨#[]⟩ : ByteArray)) := (blk_cell BK184.out 2).trans rfl
          have hcz76_3 : w61.cell? ⟨gb184, 3, none⟩ = some (.string (⟨#[]⟩ : ByteArray)) := (blk_cell BK184.out 3).trans rfl
          have hcz76_4 : w61.cell? ⟨gb184, 4, none⟩ = some (.slice none 0 0) := (blk_cell BK184.out 4).trans rfl
          have hcz76_5 : w61.cell? ⟨gb184, 5, none⟩ = some (.string (⟨#[]⟩ : ByteArray)) := (blk_cell BK184.out 5).trans rfl
          have hcz76_6 : w61.cell? ⟨gb184, 6, none⟩ = some (.slice none 0 0) := (blk_cell BK184.out 6).trans rfl
          have hfz76_0 := blk_frozen BK184.out 0
          have hfz76_1 := blk_frozen BK184.out 1
          have hfz76_2 := blk_frozen BK184.out 2
          have hfz76_3 := blk_frozen BK184.out 3
          have hfz76_4 := blk_frozen BK184.out 4
          have hfz76_5 := blk_frozen BK184.out 5
          have hfz76_6 := blk_frozen BK184.out 6
          go_wp2_with (first | (go_at_call 18; (with_reducible refine (msg_goes.calls k1 a0 t187 true _ A73.out).mono ?_); rintro e w' ⟨rfl, ⟨nd, rfl⟩⟩))
          go_meet
          case rel => exact ⟨_, ((t187.toList == ([42] : List UInt8))), (by first | rfl | (simp; done) | (simp [*]; done) | (simp [bne_nil_]; done) | (simp only [ByteArray.size_append, Int.natCast_add]; rfl)), H', ⟨by have := HK1.out; first | omega | exact Nat.le_refl _⟩, ⟨by (with_reducible repeat (first | apply Kd.R_alloc | apply Kd.R_drewN | apply Kd.R_drew)); exact Kd.R_mono (Kd.R_far (p := ⟨gb184, 3, none⟩) (Kd.R_far (p := ⟨gb184, 2, none⟩) (Kd.R_far (p := ⟨gb184, 1, none⟩) (Kd.R_types HO_8.out BK184.out (by decide)) (fun _ hk => hk.2) (.string t185)) (fun _ hk => hk.2) (.string t186)) (fun _ hk => hk.2) (.string t187)) (fun _ hk => trivial)⟩, ⟨by with_reducible repeat (first | exact HO_9.out | apply MRI_alloc | apply MRI_drewN | apply MRI_drew | apply MRI_set)⟩, ⟨by (with_reducible repeat (first | refine blk_drewN ?_ _ | refine blk_drew ?_ | refine blk_alloc ?_ _)); refine blk_far ?_ NB165_184.out _; (with_reducible repeat (first | refine blk_drewN ?_ _ | refine blk_drew ?_ | refine blk_alloc ?_ _)); refine blk_far ?_ NB165_184.out _; (with_reducible repeat (first | refine blk_drewN ?_ _ | refine blk_drew ?_ | refine blk_alloc ?_ _)); refine blk_far ?_ NB165_184.out _; (with_reducible repeat (first | refine blk_drewN ?_ _ | refine blk_drew ?_ | refine blk_alloc ?_ _)); exact BK165.out⟩, ⟨by (with_reducible repeat (first | refine blk_drewN ?_ _ | refine blk_drew ?_ | refine blk_alloc ?_ _)); refine blk_put (cs := #[.string a0, .string t185, .string t186, .string (⟨#[]⟩ : ByteArray), .slice none 0 0, .string (⟨#[]⟩ : ByteArray), .slice none 0 0]) ?_ 3 _ rfl; (with_reducible repeat (first | refine blk_drewN ?_ _ | refine blk_drew ?_ | refine blk_alloc ?_ _)); refine blk_put (cs := #[.string a0, .string t185, .string (⟨#[]⟩ : ByteArray), .string (⟨#[]⟩ : ByteArray), .slice none 0 0, .string (⟨#[]⟩ : ByteArray), .slice none 0 0]) ?_ 2 _ rfl; (with_reducible repeat (first | refine blk_drewN ?_ _ | refine blk_drew ?_ | refine blk_alloc ?_ _)); refine blk_put (cs := #[.string a0, .string (⟨#[]⟩ : ByteArray), .string (⟨#[]⟩ : ByteArray), .string (⟨#[]⟩ : ByteArray), .slice none 0 0, .string (⟨#[]⟩ : ByteArray), .slice none 0 0]) ?_ 1 _ rfl; (with_reducible repeat (first | refine blk_drewN ?_ _ | refine blk_drew ?_ | refine blk_alloc ?_ _)); exact BK184.out⟩, ⟨by repeat (first | (with_reducible first | exact HB.out | apply below_alloc | apply pw_below_drewN | apply below_drew1 | refine below_set ?_ GE165.out | refine below_set ?_ GE184.out) | exact HB.out)⟩⟩
         ·
          replace c74 := Bool.eq_false_iff.mpr c74
          subst c74
          have H1 : (msg_One.j3 k1 l2 x8_1 x9_1 true a0 t185 t186 t187 (⟨#[]⟩ : ByteArray)) = some (r1, r2, r3, r4, r5, r6, r7, r8) := by rw [if_neg (show ¬ (false = true) by decide)] at H; exact H
          clear H
          have H := H1
          clear H1
          have H' := Aside0.mk H
          clear H
          have hnb77 := NB184_165.out
          have hnc77 := NB165_184.out
          have hcz78_0 : w61.cell? ⟨gb184, 0, none⟩ = some (.string a0) := (blk_cell BK184.out 0).trans rfl
          have hcz78_1 : w61.cell? ⟨gb184, 1, none⟩ = some (.string (⟨#[]⟩ : ByteArray)) := (blk_cell BK184.out 1).trans rfl
          have hcz78_2 : w61.cell? ⟨gb184, 2, none⟩ = some (.string (⟨#[]⟩ : ByteArray)) := (blk_cell BK184.out 2).trans rfl
          have hcz78_3 : w61.cell? ⟨gb184, 3, none⟩ = some (.string (⟨#[]⟩ : ByteArray)) := (blk_cell BK184.out 3).trans rfl
          have hcz78_4 : w61.cell? ⟨gb184, 4, none⟩ = some (.slice none 0 0) := (blk_cell BK184.out 4).trans rfl
          have hcz78_5 : w61.cell? ⟨gb184, 5, none⟩ = some (.string (⟨#[]⟩ : ByteArray)) := (blk_cell BK184.out 5).trans rfl
          have hcz78_6 : w61.cell? ⟨gb184, 6, none⟩ = some (.slice none 0 0) := (blk_cell BK184.out 6).trans rfl
          have hfz78_0 := blk_frozen BK184.out 0
          have hfz78_1 := blk_frozen BK184.out 1
          have hfz78_2 := blk_frozen BK184.out 2
          have hfz78_3 := blk_frozen BK184.out 3
          have hfz78_4 := blk_frozen BK184.out 4
          have hfz78_5 := blk_frozen BK184.out 5
          have hfz78_6 := blk_frozen BK184.out 6
          go_wp2_with (first | (go_at_call 18; (with_reducible refine (msg_goes.calls k1 a0 t187 false _ A73.out).mono ?_); rintro e w' ⟨rfl, ⟨nd, rfl⟩⟩))
          go_meet
          case rel => exact ⟨_, (true), (by first | rfl | (simp; done) | (simp [*]; done) | (simp [bne_nil_]; done) | (simp only [ByteArray.size_append, Int.natCast_add]; rfl)), H', ⟨by have := HK1.out; first | omega | exact Nat.le_refl _⟩, ⟨by (with_reducible repeat (first | apply Kd.R_alloc | apply Kd.R_drewN | apply Kd.R_drew)); exact Kd.R_mono (Kd.R_far (p := ⟨gb184, 3, none⟩) (Kd.R_far (p := ⟨gb184, 2, none⟩) (Kd.R_far (p := ⟨gb184, 1, none⟩) (Kd.R_types HO_8.out BK184.out (by decide)) (fun _ hk => hk.2) (.string t185)) (fun _ hk => hk.2) (.string t186)) (fun _ hk => hk.2) (.string t187)) (fun _ hk => trivial)⟩, ⟨by with_reducible repeat (first | exact HO_9.out | apply MRI_alloc | apply MRI_drewN | apply MRI_drew | apply MRI_set)⟩, ⟨by (with_reducible repeat (first | refine blk_drewN ?_ _ | refine blk_drew ?_ | refine blk_alloc ?_ _)); refine blk_far ?_ NB165_184.out _; (with_reducible repeat (first | refine blk_drewN ?_ _ | refine blk_drew ?_ | refine blk_alloc ?_ _)); refine blk_far ?_ NB165_184.out _; (with_reducible repeat (first | refine blk_drewN ?_ _ | refine blk_drew ?_ | refine blk_alloc ?_ _)); refine blk_far ?_ NB165_184.out _; (with_reducible repeat (first | refine blk_drewN ?_ _ | refine blk_drew ?_ | refine blk_alloc ?_ _)); exact BK165.out⟩, ⟨by (with_reducible repeat (first | refine blk_drewN ?_ _ | refine blk_drew ?_ | refine blk_alloc ?_ _)); refine blk_put (cs := #[.string a0, .string t185, .string t186, .string (⟨#[]⟩ : ByteArray), .slice none 0 0, .string (⟨#[]⟩ : ByteArray), .slice none 0 0]) ?_ 3 _ rfl; (with_reducible repeat (first | refine blk_drewN ?_ _ | refine blk_drew ?_ | refine blk_alloc ?_ _)); refine blk_put (cs := #[.string a0, .string t185, .string (⟨#[]⟩ : ByteArray), .string (⟨#[]⟩ : ByteArray), .slice none 0 0, .string (⟨#[]⟩ : ByteArray), .slice none 0 0]) ?_ 2 _ rfl; (with_reducible repeat (first | refine blk_drewN ?_ _ | refine blk_drew ?_ | refine blk_alloc ?_ _)); refine blk_put (cs := #[.string a0, .string (⟨#[]⟩ : ByteArray), .string (⟨#[]⟩ : ByteArray), .string (⟨#[]⟩ : ByteArray), .slice none 0 0, .string (⟨#[]⟩ : ByteArray), .slice none 0 0]) ?_ 1 _ rfl; (with_reducible repeat (first | refine blk_drewN ?_ _ | refine blk_drew ?_ | refine blk_alloc ?_ _)); exact BK184.out⟩, ⟨by repeat (first | (with_reducible first | exact HB.out | apply below_alloc | apply pw_below_drewN | apply below_drew1 | refine below_set ?_ GE165.out | refine below_set ?_ GE184.out) | exact HB.out)⟩⟩
      case rest =>
       clear HC56
       try clear c1
       try clear p1
       try clear q1
       try clear hx1
       try clear c2
       try clear p2
       try clear c3
       try clear c4
       try clear c5
       try clear c6
       try clear p6
       try clear c7
       try clear c7b0
       try clear c8
       try clear c8b0
       try clear c9
       try clear c9b0
       try clear c12
       try clear c13
       try clear c15
       try clear p16
       try clear q16
       try clear hx16
       try clear c17
       try clear p17
       try clear q17
       try clear hx17
       try clear c20
       try clear c21
       try clear c22
       try clear c23
       try clear c26
       try clear c26b0
       try clear c26b1
       try clear c27
       try clear c28
       try clear c31
       try clear c32
       try clear c33
       try clear c33b0
       try clear c33b1
       try clear c35
       try clear c41
       try clear c41b0
       try clear c42
       try clear c42b0
       try clear c43
       try clear c43b0
       try clear c51
       try clear c54
       try clear c54b0
       try clear c54b1
       try clear c59
       try clear c63
       try clear c63b0
       try clear c63b1
       try clear p64
       try clear c65
       try clear c66
       try clear c68
       try clear c70
       try clear c70b0
       try clear c70b1
       try clear c71
       try clear c74
       try clear c75
       try clear c77
       try clear hcz13_0
       try clear hcz13_1
       try clear hcz18_0
       try clear hcz18_1
       try clear hcz21_0
       try clear hcz21_1
       try clear hcz24_0
       try clear hcz24_1
       try clear hcz24_2
       try clear hcz24_3
       try clear hcz24_4
       try clear hcz24_5
       try clear hcz24_6
       try clear hcz29_0
       try clear hcz29_1
       try clear hcz31_0
       try clear hcz31_1
       try clear hcz36_0
       try clear hcz36_1
       try clear hcz38_0
       try clear hcz38_1
       try clear hcz52_0
       try clear hcz52_1
       try clear hcz60_0
       try clear hcz60_1
       try clear hcz60_2
       try clear hcz60_3
       try clear hcz60_4
       try clear hcz60_5
       try clear hcz60_6
       try clear hcz62_0
       try clear hcz62_1
       try clear hcz62_2
       try clear hcz62_3
       try clear hcz62_4
       try clear hcz62_5
       try clear hcz62_6
       try clear hcz67_0
       try clear hcz67_1
       try clear hcz67_2
       try clear hcz67_3
       try clear hcz67_4
       try clear hcz67_5
       try clear hcz67_6
       try clear hcz69_0
       try clear hcz69_1
       try clear hcz69_2
       try clear hcz69_3
       try clear hcz69_4
       try clear hcz69_5
       try clear hcz69_6
       try clear hcz72_0
       try clear hcz72_1
       try clear hcz72_2
       try clear hcz72_3
       try clear hcz72_4
       try clear hcz72_5
       try clear hcz72_6
       try clear hcz76_0
       try clear hcz76_1
       try clear hcz76_2
       try clear hcz76_3
       try clear hcz76_4
       try clear hcz76_5
       try clear hcz76_6
       try clear hcz78_0
       try clear hcz78_1
       try clear hcz78_2
       try clear hcz78_3
       try clear hcz78_4
       try clear hcz78_5
       try clear hcz78_6
       try clear hfz13_0
       try clear hfz13_1
       try clear hfz18_0
       try clear hfz18_1
       try clear hfz21_0
       try clear hfz21_1
       try clear hfz24_0
       try clear hfz24_1
       try clear hfz24_2
       try clear hfz24_3
       try clear hfz24_4
       try clear hfz24_5
       try clear hfz24_6
       try clear hfz29_0
       try clear hfz29_1
       try clear hfz31_0
       try clear hfz31_1
       try clear hfz36_0
       try clear hfz36_1
       try clear hfz38_0
       try clear hfz38_1
       try clear hfz52_0
       try clear hfz52_1
       try clear hfz60_0
       try clear hfz60_1
       try clear hfz60_2
       try clear hfz60_3
       try clear hfz60_4
       try clear hfz60_5
       try clear hfz60_6
       try clear hfz62_0
       try clear hfz62_1
       try clear hfz62_2
       try clear hfz62_3
       try clear hfz62_4
       try clear hfz62_5
       try clear hfz62_6
       try clear hfz67_0
       try clear hfz67_1
       try clear hfz67_2
       try clear hfz67_3
       try clear hfz67_4
       try clear hfz67_5
       try clear hfz67_6
       try clear hfz69_0
       try clear hfz69_1
       try clear hfz69_2
       try clear hfz69_3
       try clear hfz69_4
       try clear hfz69_5
       try clear hfz69_6
       try clear hfz72_0
       try clear hfz72_1
       try clear hfz72_2
       try clear hfz72_3
       try clear hfz72_4
       try clear hfz72_5
       try clear hfz72_6
       try clear hfz76_0
       try clear hfz76_1
       try clear hfz76_2
       try clear hfz76_3
       try clear hfz76_4
       try clear hfz76_5
       try clear hfz76_6
       try clear hfz78_0
       try clear hfz78_1
       try clear hfz78_2
       try clear hfz78_3
       try clear hfz78_4
       try clear hfz78_5
       try clear hfz78_6
       try clear hx167_0
       try clear hx167_1
       try clear hx178_0
       try clear p1
       try clear p16
       try clear p167
       try clear p178
       try clear p2
       try clear p6
       try clear q1
       try clear q16
       try clear q167
       try clear q178
       obtain ⟨kq, x107_55, rfl, HA, HJ55, HO_8, HO_9, BK165, BK184, HB⟩ := hcut
       cases kq with
       | zero => exact absurd HA.out (by simp [msg_One.j3])
       | succ kj55 =>
        have H := HA.out
        clear HA
        simp only [msg_One.j3] at H
        by_cases c79 : x107_55 = true
        ·
         subst c79
         have H1 : (some ((⟨#[]⟩ : ByteArray), (⟨#[]⟩ : ByteArray), (⟨#[]⟩ : ByteArray), (⟨#[]⟩ : ByteArray), ([] : List (S30)), (⟨#[]⟩ : ByteArray), ([] : List (S30)), 140)) = some (r1, r2, r3, r4, r5, r6, r7, r8) := by rw [if_pos rfl] at H; exact H
         clear H
         have H := H1
         clear H1
         simp only [Option.some.injEq, Prod.mk.injEq] at H
         obtain ⟨rfl, rfl, rfl, rfl, rfl, rfl, rfl, rfl⟩ := H
         have hnb80 := NB165_184.out
         have hnc80 := NB184_165.out
         have hcz81_0 : wc.cell? ⟨gb165, 0, none⟩ = some (.string x166000_1) := (blk_cell BK165.out 0).trans rfl
         have hcz81_1 : wc.cell? ⟨gb165, 1, none⟩ = some (.string x166001_1) := (blk_cell BK165.out 1).trans rfl
         have hcz81_2 : wc.cell? ⟨gb165, 2, none⟩ = some (.string x166002_1) := (blk_cell BK165.out 2).trans rfl
         have hcz81_3 : wc.cell? ⟨gb165, 3, none⟩ = some (.string x166003_1) := (blk_cell BK165.out 3).trans rfl
         have hcz81_4 : wc.cell? ⟨gb165, 4, none⟩ = some (.slice none 0 0) := (blk_cell BK165.out 4).trans rfl
         have hcz81_5 : wc.cell? ⟨gb165, 5, none⟩ = some (.string x166005_1) := (blk_cell BK165.out 5).trans rfl
         have hcz81_6 : wc.cell? ⟨gb165, 6, none⟩ = some (.slice none 0 0) := (blk_cell BK165.out 6).trans rfl
         have hfz81_0 := blk_frozen BK165.out 0
         have hfz81_1 := blk_frozen BK165.out 1
         have hfz81_2 := blk_frozen BK165.out 2
         have hfz81_3 := blk_frozen BK165.out 3
         have hfz81_4 := blk_frozen BK165.out 4
         have hfz81_5 := blk_frozen BK165.out 5
         have hfz81_6 := blk_frozen BK165.out 6
         go_wp2
         refine bodyPost_ret (results_ct rfl _ _ gb165 24 #[.string (⟨#[]⟩ : ByteArray), .string (⟨#[]⟩ : ByteArray), .string (⟨#[]⟩ : ByteArray), .string (⟨#[]⟩ : ByteArray), .slice none 0 0, .string (⟨#[]⟩ : ByteArray), .slice none 0 0] (0, 0) _ rfl (by (with_reducible repeat (first | refine blk_drewN ?_ _ | refine blk_drew ?_ | refine blk_alloc ?_ _)); refine blk_put (cs := #[.string (⟨#[]⟩ : ByteArray), .string (⟨#[]⟩ : ByteArray), .string (⟨#[]⟩ : ByteArray), .string (⟨#[]⟩ : ByteArray), .slice none 0 0, .string (⟨#[]⟩ : ByteArray), .slice none 0 0]) ?_ 6 _ rfl; (with_reducible repeat (first | refine blk_drewN ?_ _ | refine blk_drew ?_ | refine blk_alloc ?_ _)); refine blk_put (cs := #[.string (⟨#[]⟩ : ByteArray), .string (⟨#[]⟩ : ByteArray), .string (⟨#[]⟩ : ByteArray), .string (⟨#[]⟩ : ByteArray), .slice none 0 0, .string x166005_1, .slice none 0 0]) ?_ 5 _ rfl; (with_reducible repeat (first | refine blk_drewN ?_ _ | refine blk_drew ?_ | refine blk_alloc ?_ _)); refine blk_put (cs := #[.string (⟨#[]⟩ : ByteArray), .string (⟨#[]⟩ : ByteArray), .string (⟨#[]⟩ : ByteArray), .string (⟨#[]⟩ : ByteArray), .slice none 0 0, .string x166005_1, .slice none 0 0]) ?_ 4 _ rfl; (with_reducible repeat (first | refine blk_drewN ?_ _ | refine blk_drew ?_ | refine blk_alloc ?_ _)); refine blk_put (cs := #[.string (⟨#[]⟩ : ByteArray), .string (⟨#[]⟩ : ByteArray), .string (⟨#[]⟩ : ByteArray), .string x166003_1, .slice none 0 0, .string x166005_1, .slice none 0 0]) ?_ 3 _ rfl; (with_reducible repeat (first | refine blk_drewN ?_ _ | refine blk_drew ?_ | refine blk_alloc ?_ _)); refine blk_put (cs := #[.string (⟨#[]⟩ : ByteArray), .string (⟨#[]⟩ : ByteArray), .string x166002_1, .string x166003_1, .slice none 0 0, .string x166005_1, .slice none 0 0]) ?_ 2 _ rfl; (with_reducible repeat (first | refine blk_drewN ?_ _ | refine blk_drew ?_ | refine blk_alloc ?_ _)); refine blk_put (cs := #[.string (⟨#[]⟩ : ByteArray), .string x166001_1, .string x166002_1, .string x166003_1, .slice none 0 0, .string x166005_1, .slice none 0 0]) ?_ 1 _ rfl; (with_reducible repeat (first | refine blk_drewN ?_ _ | refine blk_drew ?_ | refine blk_alloc ?_ _)); refine blk_put (cs := #[.string x166000_1, .string x166001_1, .string x166002_1, .string x166003_1, .slice none 0 0, .string x166005_1, .slice none 0 0]) ?_ 0 _ rfl; (with_reducible repeat (first | refine blk_drewN ?_ _ | refine blk_drew ?_ | refine blk_alloc ?_ _)); exact BK165.out) Tryd.underlying24 rfl (by kernel_rfl)) rfl ?_
         exact ⟨_, _, by first | rfl | (simp [errW_none, errW_some] <;> rfl) | (simp [*, errW_none, errW_some] <;> rfl), by first | exact Kd.R_nil _ _ _ _ _ | exact Kd.N_nil _ _ _ _ _ | exact Kd.V_nil _ _ _ _ _ | exact Kd.Q_nil _ _ _ _ _ | exact Kd.S_nil _ _ _ _ _, by first | exact Kd.R_nil _ _ _ _ _ | exact Kd.N_nil _ _ _ _ _ | exact Kd.V_nil _ _ _ _ _ | exact Kd.Q_nil _ _ _ _ _ | exact Kd.S_nil _ _ _ _ _, by repeat (first | (with_reducible first | exact HB.out | apply below_alloc | apply pw_below_drewN | apply below_drew1 | refine below_set ?_ GE165.out | refine below_set ?_ GE184.out) | exact HB.out)⟩
        ·
         replace c79 := Bool.eq_false_iff.mpr c79
         subst c79
         have H1 : ((msg_Length.f kj55 l2).bind fun bt190 => (if bt190.2.2 = 0 then (if t185.toList = ([] : List UInt8) then (if 0 < (x8_1.length : Int) then (msg_One.j4 kj55 l2 x9_1 a0 (⟨#[104, 116, 116, 112]⟩ : ByteArray) (rdOf ByteArray.empty x8_1 0) t187 (⟨#[]⟩ : ByteArray)) else (none)) else (msg_One.j4 kj55 l2 x9_1 a0 t185 t186 t187 (⟨#[]⟩ : ByteArray))) else (some ((⟨#[]⟩ : ByteArray), (⟨#[]⟩ : ByteArray), (⟨#[]⟩ : ByteArray), (⟨#[]⟩ : ByteArray), ([] : List (S30)), (⟨#[]⟩ : ByteArray), ([] : List (S30)), bt190.2.2)))) = some (r1, r2, r3, r4, r5, r6, r7, r8) := by rw [if_neg (show ¬ (false = true) by decide)] at H; exact H
         clear H
         have H := H1
         clear H1
         replace H := Option.bind_eq_some_iff.mp H
         obtain ⟨⟨t190, t191, t192⟩, A820, H⟩ := H
         replace H : (if t192 = 0 then (if t185.toList = ([] : List UInt8) then (if 0 < (x8_1.length : Int) then (msg_One.j4 kj55 l2 x9_1 a0 (⟨#[104, 116, 116, 112]⟩ : ByteArray) (rdOf ByteArray.empty x8_1 0) t187 (⟨#[]⟩ : ByteArray)) else (none)) else (msg_One.j4 kj55 l2 x9_1 a0 t185 t186 t187 (⟨#[]⟩ : ByteArray))) else (some ((⟨#[]⟩ : ByteArray), (⟨#[]⟩ : ByteArray), (⟨#[]⟩ : ByteArray), (⟨#[]⟩ : ByteArray), ([] : List (S30)), (⟨#[]⟩ : ByteArray), ([] : List (S30)), t192))) = some (r1, r2, r3, r4, r5, r6, r7, r8) := H
         have A82 := Aside0.mk A820
         clear A820
         by_cases c83 : t192 = 0
         ·
          rw [if_pos c83] at H
          have c83b0 : (t192 == 0) = true := beq_iff_eq.mpr c83
          have c83b1 : (t192 != 0) = false := bne_eq_false_iff_eq.mpr c83
          clear c83
          have HC84 := Aside0.mk H
          clear H
          go_upto_if 121 with (first | ((with_reducible refine gate_callee (f := 19) rfl ?_); refine goesL_ (some 111) rfl rfl Tryd.func19 (by kernel_rfl) rfl #[.slice A2 l2.length c2] rfl (by (try simp only [List.map_toArray, List.map_cons, List.map_nil]); first | done | rfl | (simp only [List.length_drop, List.length_take]; rfl)) ?_; (with_reducible refine (msg_Length.calls kj55 _ _ l2 t190 t191 t192 _ ?side1 ?side2 ?side3 A82.out).mono ?_); (case side1 => exact GI.below HG.out (by repeat (first | (with_reducible first | exact HB.out | apply below_alloc | apply pw_below_drewN | apply below_drew1 | refine below_set ?_ GE165.out | refine below_set ?_ GE184.out) | exact HB.out))); (case side2 => repeat (first | exact (Kd.C_below HR2.out HB.out) | (with_reducible refine Kd.C_alloc ?_ _) | (with_reducible refine Kd.C_drewN ?_ _) | (with_reducible refine Kd.C_drew ?_))); (case side3 => exact HC2.out); rintro e w85 ⟨rfl, hb⟩; refine ⟨_, rfl, ?_⟩; have n0_ := Aside0.mk (Kd.R_below (by (with_reducible repeat (first | apply Kd.R_alloc | apply Kd.R_drewN | apply Kd.R_drew)); exact HO_8.out) hb); have n1_ := Aside0.mk (MRI_below (by with_reducible repeat (first | exact HO_9.out | apply MRI_alloc | apply MRI_drewN | apply MRI_drew | apply MRI_set)) hb); have n2_ := Aside0.mk (blk_below (g := gb165) (o := .cells #[.string x166000_1, .string x166001_1, .string x166002_1, .string x166003_1, .slice none 0 0, .string x166005_1, .slice none 0 0] 24 (0, 0)) (by (with_reducible repeat (first | refine blk_drewN ?_ _ | refine blk_drew ?_ | refine blk_alloc ?_ _)); exact BK165.out) hb); have n3_ := Aside0.mk (blk_below (g := gb184) (o := .cells #[.string a0, .string t185, .string t186, .string t187, .slice none 0 0, .string (⟨#[]⟩ : ByteArray), .slice none 0 0] 24 (0, 0)) (by (with_reducible repeat (first | refine blk_drewN ?_ _ | refine blk_drew ?_ | refine blk_alloc ?_ _)); exact BK184.out) hb); have n4_ := Aside0.mk (below_step (by repeat (first | (with_reducible first | exact HB.out | apply below_alloc | apply pw_below_drewN | apply below_drew1 | refine below_set ?_ GE165.out | refine below_set ?_ GE184.out) | exact HB.out)) hb); clear HO_8; clear HO_9; clear BK165; clear BK184; clear HB; have HO_8 := n0_; have HO_9 := n1_; have BK165 := n2_; have BK184 := n3_; have HB := n4_; clear n0_ n1_ n2_ n3_ n4_; (try clear hb); (try clear hb2); (try clear hk); (try clear hi); have hnb86 := NB184_165.out; have hnc86 := NB165_184.out; have hcz87_0 : w85.cell? ⟨gb184, 0, none⟩ = some (.string a0) := (blk_cell BK184.out 0).trans rfl; have hcz87_1 : w85.cell? ⟨gb184, 1, none⟩ = some (.string t185) := (blk_cell BK184.out 1).trans rfl; have hcz87_2 : w85.cell? ⟨gb184, 2, none⟩ = some (.string t186) := (blk_cell BK184.out 2).trans rfl; have hcz87_3 : w85.cell? ⟨gb184, 3, none⟩ = some (.string t187) := (blk_cell BK184.out 3).trans rfl; have hcz87_4 : w85.cell? ⟨gb184, 4, none⟩ = some (.slice none 0 0) := (blk_cell BK184.out 4).trans rfl; have hcz87_5 : w85.cell? ⟨gb184, 5, none⟩ = some (.string (⟨#[]⟩ : ByteArray)) := (blk_cell BK184.out 5).trans rfl; have hcz87_6 : w85.cell? ⟨gb184, 6, none⟩ = some (.slice none 0 0) := (blk_cell BK184.out 6).trans rfl; have hfz87_0 := blk_frozen BK184.out 0; have hfz87_1 := blk_frozen BK184.out 1; have hfz87_2 := blk_frozen BK184.out 2; have hfz87_3 := blk_frozen BK184.out 3; have hfz87_4 := blk_frozen BK184.out 4; have hfz87_5 := blk_frozen BK184.out 5; have hfz87_6 := blk_frozen BK184.out 6))
          (try simp only [Act.put, List.setIfInBounds_toArray, List.set_cons_zero, List.set_cons_succ])
          go_cut [] (fun wc => ∃ (kq : Nat) (x185001_83 : ByteArray) (x185002_83 : ByteArray), Aside0 (msg_One.j4 kq l2 x9_1 a0 x185001_83 x185002_83 t187 (⟨#[]⟩ : ByteArray) = some (r1, r2, r3, r4, r5, r6, r7, r8)) ∧ Aside0 (kq ≤ kj55) ∧ Aside0 (MRI wc w.heap.size (.map (some b4_)) x9_1) ∧ Aside0 (wc.heap[gb165]? = some (.cells #[.string x166000_1, .string x166001_1, .string x166002_1, .string x166003_1, (.slice none 0 0), .string x166005_1, (.slice none 0 0)] 24 (0, 0))) ∧ Aside0 (wc.heap[gb184]? = some (.cells #[.string a0, .string x185001_83, .string x185002_83, .string t187, (.slice none 0 0), .string (⟨#[]⟩ : ByteArray), (.slice none 0 0)] 24 (0, 0))) ∧ Aside0 (Below w.heap.size w wc))
          case first =>
           have H := HC84.out
           clear HC84
           by_cases c88 : t185.toList = ([] : List UInt8)
           ·
            rw [if_pos c88] at H
            have c88b0 : (t185.toList == ([] : List UInt8)) = true := beq_iff_eq.mpr c88
            have c88e0 : t185.toList.isEmpty = true := by simpa using c88
            have c88b1 : (t185.toList != ([] : List UInt8)) = false := bne_eq_false_iff_eq.mpr c88
            clear c88
            (first | rw [c88b0] | rw [c88e0] | simp only [c88e0] | (simp only [i64_w, i32_w]; rw [c88b0]) | skip)
            by_cases c89 : 0 < (x8_1.length : Int)
            ·
             rw [if_pos c89] at H
             have c89b0 : decide (0 < (x8_1.length : Int)) = true := decide_eq_true c89
             have c89b1 : decide (0 < x8_1.length) = true := decide_eq_true (by omega)
             clear c89
             have H' := Aside0.mk H
             clear H
             try go_wp2
             have n0_ := Aside0.mk (Kd.R_drew HO_8.out)
             have n1_ := Aside0.mk (MRI_drew HO_9.out)
             have n2_ := Aside0.mk (blk_drew BK165.out)
             have n3_ := Aside0.mk (blk_drew BK184.out)
             have n4_ := Aside0.mk (below_drew1 HB.out)
             clear HO_8
             clear HO_9
             clear BK165
             clear BK184
             clear HB
             have HO_8 := n0_
             have HO_9 := n1_
             have BK165 := n2_
             have BK184 := n3_
             have HB := n4_
             clear n0_ n1_ n2_ n3_ n4_
             have p193 : 0 ≤ (0 : Int) := (by omega)
             have q193 : 0 < (x8_1.length : Int) := of_decide_eq_true (by first | (with_reducible assumption) | assumption)
             obtain ⟨ad193, e193, hx193_0⟩ := Kd.at_string (Kd.R_reads' HO_8.out).2.2 0 p193 q193
             cases e193
             have qi193 : (0 < x8_1.length) = True := eq_true (by omega)
             (try rw [show ((0 : Int)).toNat = 0 from rfl] at hx193_0)
             (try rw [Addr.add_zero'] at hx193_0)
             replace p193 := eq_true p193
             replace q193 := eq_true q193
             refine start_ (n := 7) (S := fun w' => w'.cell? ad193 = some (.string (rdOf ByteArray.empty x8_1 0))) (ds := []) #[false, false, false, false, false, false, false] (by kernel_rfl) rfl rfl (hx193_0) (fun hHeld => ?_)
             generalize w85.drew = w90 at HO_8 HO_9 BK165 BK184 HB hx193_0 hHeld ⊢
             refine pure_ (i := 0) (N := some 122) (v := ?_) (a' := ?_) #[true, false, false, false, false, false, false] rfl rfl (by kernel_rfl) (fun _ _ _ h => h) (Or.inl ⟨by rfl, ?_⟩) ?_ ?_
             rotate_left
             ·
              intro w'
              go_simp
              with_reducible rfl
             rotate_left
             ·
              simp only [Act.put, List.setIfInBounds_toArray, List.set_cons_zero, List.set_cons_succ, i64_w, i32_w]
              rfl
             refine pure_ (i := 1) (N := some 123) (v := ?_) (a' := ?_) #[true, true, false, false, false, false, false] rfl rfl (by kernel_rfl) (fun _ _ _ h => h) (Or.inl ⟨by rfl, ?_⟩) ?_ ?_
             rotate_left
             ·
              intro w'
              go_simp
              with_reducible rfl
             rotate_left
             ·
              simp only [Act.put, List.setIfInBounds_toArray, List.set_cons_zero, List.set_cons_succ, i64_w, i32_w]
              rfl
             refine pure_ (i := 3) (N := some 125) (v := ?_) (a' := ?_) #[true, true, false, true, false, false, false] rfl rfl (by kernel_rfl) (fun _ _ _ h => h) (Or.inl ⟨by rfl, ?_⟩) ?_ ?_
             rotate_left
             ·
              intro w'
              go_simp
              with_reducible rfl
             rotate_left
             ·
              simp only [Act.put, List.setIfInBounds_toArray, List.set_cons_zero, List.set_cons_succ, i64_w, i32_w]
              rfl
             refine take_ (i := 2) (N := some 124) (v := ?_) (a' := ?_) #[true, true, true, true, false, false, false] rfl rfl (by kernel_rfl) (fun _ _ _ h => h) (Or.inl ⟨by rfl, ?_⟩) hHeld ?_ ?_
             rotate_left
             ·
              intro w' s0
              go_simp
              with_reducible rfl
             rotate_left
             ·
              simp only [Act.put, List.setIfInBounds_toArray, List.set_cons_zero, List.set_cons_succ, i64_w, i32_w]
              rfl
             refine one_ (i := 4) (N := none) #[true, true, true, true, true, false, false] rfl rfl (by kernel_rfl) (by decide) (fun K hK => ?_)
             have hs91 : w90.cell? ⟨gb184, 1, none⟩ = some (.string t185) := (blk_cell BK184.out 1).trans rfl
             have hfs91 := blk_frozen BK184.out 1
             have hns91_0 := NB165_184.out
             have hms91_0 := NB184_165.out
             refine skip_ (w1 := ?_) (by rfl) rfl ?_ ?_
             rotate_left
             ·
              go_simp
              rfl
             refine hK.out _ _ (((cell_far (p := ⟨gb184, _, none⟩) (by first | exact Kd.own_blk (Kd.R_ne HO_8.out BK184.out (by decide)) | (rw [add_block]; exact Kd.own_blk (Kd.R_ne HO_8.out BK184.out (by decide))) | (show (Addr.add _ _).block ≠ _; rw [add_block]; exact Kd.own_blk (Kd.R_ne HO_8.out BK184.out (by decide))) | (dsimp only; exact Kd.own_blk (Kd.R_ne HO_8.out BK184.out (by decide)))) _).trans (hHeld))) (fun hHeld => ?_)
             clear hK K
             refine pure_ (i := 5) (N := some 126) (v := ?_) (a' := ?_) #[true, true, true, true, true, true, false] rfl rfl (by kernel_rfl) (fun _ _ _ h => h) (Or.inl ⟨by rfl, ?_⟩) ?_ ?_
             rotate_left
             ·
              intro w'
              go_simp
              with_reducible rfl
             rotate_left
             ·
              simp only [Act.put, List.setIfInBounds_toArray, List.set_cons_zero, List.set_cons_succ, i64_w, i32_w]
              rfl
             refine one_ (i := 6) (N := none) #[true, true, true, true, true, true, true] rfl rfl (by kernel_rfl) (by decide) (fun K hK => ?_)
             have hs92 : w90.cell? ⟨gb184, 2, none⟩ = some (.string t186) := (blk_cell BK184.out 2).trans rfl
             have hfs92 := blk_frozen BK184.out 2
             have hns92_0 := NB165_184.out
             have hms92_0 := NB184_165.out
             refine skip_ (w1 := ?_) (by rfl) rfl ?_ ?_
             rotate_left
             ·
              go_simp
              rfl
             refine hK.out _ _ (((cell_far (p := ⟨gb184, _, none⟩) (by first | exact Kd.own_blk (Kd.R_ne HO_8.out BK184.out (by decide)) | (rw [add_block]; exact Kd.own_blk (Kd.R_ne HO_8.out BK184.out (by decide))) | (show (Addr.add _ _).block ≠ _; rw [add_block]; exact Kd.own_blk (Kd.R_ne HO_8.out BK184.out (by decide))) | (dsimp only; exact Kd.own_blk (Kd.R_ne HO_8.out BK184.out (by decide)))) _).trans (hHeld))) (fun hHeld => ?_)
             clear hK K
             refine done_ (by kernel_rfl) ?_
             try go_wp2
             go_meet
             case rel => exact ⟨_, ((⟨#[104, 116, 116, 112]⟩ : ByteArray)), (rdOf ByteArray.empty x8_1 0), H', ⟨by have := HK1.out; have := HJ55.out; first | omega | exact Nat.le_refl _⟩, ⟨by with_reducible repeat (first | exact HO_9.out | apply MRI_alloc | apply MRI_drewN | apply MRI_drew | apply MRI_set)⟩, ⟨by (with_reducible repeat (first | refine blk_drewN ?_ _ | refine blk_drew ?_ | refine blk_alloc ?_ _)); refine blk_far ?_ NB165_184.out _; (with_reducible repeat (first | refine blk_drewN ?_ _ | refine blk_drew ?_ | refine blk_alloc ?_ _)); refine blk_far ?_ NB165_184.out _; (with_reducible repeat (first | refine blk_drewN ?_ _ | refine blk_drew ?_ | refine blk_alloc ?_ _)); exact BK165.out⟩, ⟨by (with_reducible repeat (first | refine blk_drewN ?_ _ | refine blk_drew ?_ | refine blk_alloc ?_ _)); refine blk_put (cs := #[.string a0, .string (⟨#[104, 116, 116, 112]⟩ : ByteArray), .string t186, .string t187, .slice none 0 0, .string (⟨#[]⟩ : ByteArray), .slice none 0 0]) ?_ 2 _ rfl; (with_reducible repeat (first | refine blk_drewN ?_ _ | refine blk_drew ?_ | refine blk_alloc ?_ _)); refine blk_put (cs := #[.string a0, .string t185, .string t186, .string t187, .slice none 0 0, .string (⟨#[]⟩ : ByteArray), .slice none 0 0]) ?_ 1 _ rfl; (with_reducible repeat (first | refine blk_drewN ?_ _ | refine blk_drew ?_ | refine blk_alloc ?_ _)); exact BK184.out⟩, ⟨by repeat (first | (with_reducible first | exact HB.out | apply below_alloc | apply pw_below_drewN | apply below_drew1 | refine below_set ?_ GE165.out | refine below_set ?_ GE184.out) | exact HB.out)⟩⟩
            ·
             rw [if_neg c89] at H
             exact absurd H (by simp)
           ·
            rw [if_neg c88] at H
            have c88b0 : (t185.toList == ([] : List UInt8)) = false := beq_eq_false_iff_ne.mpr c88
            have c88e0 : t185.toList.isEmpty = false := by simpa using c88
            have c88b1 : (t185.toList != ([] : List UInt8)) = true := bne_iff_ne.mpr c88
            (first | rw [c88b0] | rw [c88e0] | simp only [c88e0] | (simp only [i64_w, i32_w]; rw [c88b0]) | skip)
            have H' := Aside0.mk H
            clear H
            go_wp2
            go_meet
            case rel => exact ⟨_, (t185), (t186), H', ⟨by have := HK1.out; have := HJ55.out; first | omega | exact Nat.le_refl _⟩, ⟨by with_reducible repeat (first | exact HO_9.out | apply MRI_alloc | apply MRI_drewN | apply MRI_drew | apply MRI_set)⟩, ⟨by (with_reducible repeat (first | refine blk_drewN ?_ _ | refine blk_drew ?_ | refine blk_alloc ?_ _)); exact BK165.out⟩, ⟨by (with_reducible repeat (first | refine blk_drewN ?_ _ | refine blk_drew ?_ | refine blk_alloc ?_ _)); exact BK184.out⟩, ⟨by repeat (first | (with_reducible first | exact HB.out | apply below_alloc | apply pw_below_drewN | apply below_drew1 | refine below_set ?_ GE165.out | refine below_set ?_ GE184.out) | exact HB.out)⟩⟩
          case rest =>
           clear HC84
           try clear c1
           try clear p1
           try clear q1
           try clear hx1
           try clear qi1
           try clear c2
           try clear p2
           try clear c3
           try clear c4
           try clear c5
           try clear c6
           try clear p6
           try clear c7
           try clear c7b0
           try clear c8
           try clear c8b0
           try clear c9
           try clear c9b0
           try clear c12
           try clear c13
           try clear c15
           try clear p16
           try clear q16
           try clear hx16
           try clear c17
           try clear p17
           try clear q17
           try clear hx17
           try clear c19
           try clear p19
           try clear q19
           try clear hx19
           try clear qi19
           try clear c20
           try clear c21
           try clear c22
           try clear c23
           try clear c26
           try clear c26b0
           try clear c26b1
           try clear c27
           try clear c28
           try clear c31
           try clear c32
           try clear c33
           try clear c33b0
           try clear c33b1
           try clear c35
           try clear c41
           try clear c41b0
           try clear c42
           try clear c42b0
           try clear c43
           try clear c43b0
           try clear c51
           try clear c54
           try clear c54b0
           try clear c54b1
           try clear c59
           try clear c63
           try clear c63b0
           try clear c63b1
           try clear p64
           try clear c65
           try clear c66
           try clear c68
           try clear c70
           try clear c70b0
           try clear c70b1
           try clear c71
           try clear c74
           try clear c75
           try clear c77
           try clear c79
           try clear c80
           try clear c83
           try clear c83b0
           try clear c83b1
           try clear c86
           try clear c88
           try clear c88b0
           try clear c88b1
           try clear c89
           try clear c89b0
           try clear c89b1
           try clear hcz13_0
           try clear hcz13_1
           try clear hcz18_0
           try clear hcz18_1
           try clear hcz21_0
           try clear hcz21_1
           try clear hcz24_0
           try clear hcz24_1
           try clear hcz24_2
           try clear hcz24_3
           try clear hcz24_4
           try clear hcz24_5
           try clear hcz24_6
           try clear hcz29_0
           try clear hcz29_1
           try clear hcz31_0
           try clear hcz31_1
           try clear hcz36_0
           try clear hcz36_1
           try clear hcz38_0
           try clear hcz38_1
           try clear hcz52_0
           try clear hcz52_1
           try clear hcz60_0
           try clear hcz60_1
           try clear hcz60_2
           try clear hcz60_3
           try clear hcz60_4
           try clear hcz60_5
           try clear hcz60_6
           try clear hcz62_0
           try clear hcz62_1
           try clear hcz62_2
           try clear hcz62_3
           try clear hcz62_4
           try clear hcz62_5
           try clear hcz62_6
           try clear hcz67_0
           try clear hcz67_1
           try clear hcz67_2
           try clear hcz67_3
           try clear hcz67_4
           try clear hcz67_5
           try clear hcz67_6
           try clear hcz69_0
           try clear hcz69_1
           try clear hcz69_2
           try clear hcz69_3
           try clear hcz69_4
           try clear hcz69_5
           try clear hcz69_6
           try clear hcz72_0
           try clear hcz72_1
           try clear hcz72_2
           try clear hcz72_3
           try clear hcz72_4
           try clear hcz72_5
           try clear hcz72_6
           try clear hcz76_0
           try clear hcz76_1
           try clear hcz76_2
           try clear hcz76_3
           try clear hcz76_4
           try clear hcz76_5
           try clear hcz76_6
           try clear hcz78_0
           try clear hcz78_1
           try clear hcz78_2
           try clear hcz78_3
           try clear hcz78_4
           try clear hcz78_5
           try clear hcz78_6
           try clear hcz81_0
           try clear hcz81_1
           try clear hcz81_2
           try clear hcz81_3
           try clear hcz81_4
           try clear hcz81_5
           try clear hcz81_6
           try clear hcz87_0
           try clear hcz87_1
           try clear hcz87_2
           try clear hcz87_3
           try clear hcz87_4
           try clear hcz87_5
           try clear hcz87_6
           try clear hfz13_0
           try clear hfz13_1
           try clear hfz18_0
           try clear hfz18_1
           try clear hfz21_0
           try clear hfz21_1
           try clear hfz24_0
           try clear hfz24_1
           try clear hfz24_2
           try clear hfz24_3
           try clear hfz24_4
           try clear hfz24_5
           try clear hfz24_6
           try clear hfz29_0
           try clear hfz29_1
           try clear hfz31_0
           try clear hfz31_1
           try clear hfz36_0
           try clear hfz36_1
           try clear hfz38_0
           try clear hfz38_1
           try clear hfz52_0
           try clear hfz52_1
           try clear hfz60_0
           try clear hfz60_1
           try clear hfz60_2
           try clear hfz60_3
           try clear hfz60_4
           try clear hfz60_5
           try clear hfz60_6
           try clear hfz62_0
           try clear hfz62_1
           try clear hfz62_2
           try clear hfz62_3
           try clear hfz62_4
           try clear hfz62_5
           try clear hfz62_6
           try clear hfz67_0
           try clear hfz67_1
           try clear hfz67_2
           try clear hfz67_3
           try clear hfz67_4
           try clear hfz67_5
           try clear hfz67_6
           try clear hfz69_0
           try clear hfz69_1
           try clear hfz69_2
           try clear hfz69_3
           try clear hfz69_4
           try clear hfz69_5
           try clear hfz69_6
           try clear hfz72_0
           try clear hfz72_1
           try clear hfz72_2
           try clear hfz72_3
           try clear hfz72_4
           try clear hfz72_5
           try clear hfz72_6
           try clear hfz76_0
           try clear hfz76_1
           try clear hfz76_2
           try clear hfz76_3
           try clear hfz76_4
           try clear hfz76_5
           try clear hfz76_6
           try clear hfz78_0
           try clear hfz78_1
           try clear hfz78_2
           try clear hfz78_3
           try clear hfz78_4
           try clear hfz78_5
           try clear hfz78_6
           try clear hfz81_0
           try clear hfz81_1
           try clear hfz81_2
           try clear hfz81_3
           try clear hfz81_4
           try clear hfz81_5
           try clear hfz81_6
           try clear hfz87_0
           try clear hfz87_1
           try clear hfz87_2
           try clear hfz87_3
           try clear hfz87_4
           try clear hfz87_5
           try clear hfz87_6
           try clear hx167_0
           try clear hx167_1
           try clear hx178_0
           try clear hx193_0
           try clear p1
           try clear p16
           try clear p167
           try clear p17
           try clear p178
           try clear p193
           try clear p2
           try clear p6
           try clear p64
           try clear q1
           try clear q16
           try clear q167
           try clear q17
           try clear q178
           try clear q193
           obtain ⟨kq, x185001_83, x185002_83, HA, HJ83, HO_9, BK165, BK184, HB⟩ := hcut
           cases kq with
           | zero => exact absurd HA.out (by simp [msg_One.j4])
           | succ kj83 =>
            have H := HA.out
            clear HA
            simp only [msg_One.j4] at H
            replace H := Option.bind_eq_some_iff.mp H
            obtain ⟨t194, A930, H⟩ := H
            replace H : (msg_One.l2 kj83 t194 l2 (l2.length : Int) 0 a0 x185001_83 x185002_83 t187 ([] : List (S30)) (⟨#[]⟩ : ByteArray)) = some (r1, r2, r3, r4, r5, r6, r7, r8) := H
            have A93 := Aside0.mk A930
            clear A930
            have H' := Aside0.mk H
            clear H
            go_wp2_with (first | (at_mapUpdate; refine mputIL rfl _ _ _ rfl _ rfl rfl rfl (by with_reducible repeat (first | exact HO_9.out | apply MRI_alloc | apply MRI_drewN | apply MRI_drew | apply MRI_set)) A93.out ?_; intro w95 ho0 hg hm hB_; have n0_ := Aside0.mk (True.intro); have n1_ := Aside0.mk (ho0); have n2_ := Aside0.mk (blk_m (g := gb165) (o := .cells #[.string x166000_1, .string x166001_1, .string x166002_1, .string x166003_1, .slice none 0 0, .string x166005_1, .slice none 0 0] 24 (0, 0)) (by (with_reducible repeat (first | refine blk_drewN ?_ _ | refine blk_drew ?_ | refine blk_alloc ?_ _)); exact BK165.out) (fun _ _ h_ => by cases h_) hm hg); have n3_ := Aside0.mk (blk_m (g := gb184) (o := .cells #[.string a0, .string x185001_83, .string x185002_83, .string t187, .slice none 0 0, .string (⟨#[]⟩ : ByteArray), .slice none 0 0] 24 (0, 0)) (by (with_reducible repeat (first | refine blk_drewN ?_ _ | refine blk_drew ?_ | refine blk_alloc ?_ _)); exact BK184.out) (fun _ _ h_ => by cases h_) hm hg); have n4_ := Aside0.mk (below_m (by repeat (first | (with_reducible first | exact HB.out | apply below_alloc | apply pw_below_drewN | apply below_drew1 | refine below_set ?_ GE165.out | refine below_set ?_ GE184.out) | exact HB.out)) hB_ hg); clear HO_9; clear BK165; clear BK184; clear HB; have HO_9 := n0_; have HO196 := n1_; have BK165 := n2_; have BK184 := n3_; have HB := n4_; clear n0_ n1_ n2_ n3_ n4_; (try clear hg); (try clear hm); (try clear hB_); (try clear hb2); (try clear hk); (try clear hi); (try clear ho0)))
            go_loopg [130] kj83 (fun kq v130 w' => ∃ (x130_4 : Int) (x185004_4 : List (S30)) (u185004 : Value), v130 = .int .i64 x130_4 ∧ Aside0 (msg_One.l2 kq t194 l2 (l2.length : Int) x130_4 a0 x185001_83 x185002_83 t187 x185004_4 (⟨#[]⟩ : ByteArray) = some (r1, r2, r3, r4, r5, r6, r7, r8)) ∧ Aside0 (kq ≤ kj83) ∧ Aside0 (MRI w' w.heap.size (.map (some b4_)) t194) ∧ Aside0 (Kd.R k30 30 w' w.heap.size (fun k_ => True) u185004 x185004_4) ∧ Aside0 (w'.heap[gb165]? = some (.cells #[.string x166000_1, .string x166001_1, .string x166002_1, .string x166003_1, (.slice none 0 0), .string x166005_1, (.slice none 0 0)] 24 (0, 0))) ∧ Aside0 (w'.heap[gb184]? = some (.cells #[.string a0, .string x185001_83, .string x185002_83, .string t187, u185004, .string (⟨#[]⟩ : ByteArray), (.slice none 0 0)] 24 (0, 0))) ∧ Aside0 (Below w.heap.size w w'))
            case atStart => exact ⟨(0), (([] : List (S30))), (.slice none 0 0), (by first | rfl | (simp; done) | (simp [*]; done) | (simp [bne_nil_]; done) | (simp only [ByteArray.size_append, Int.natCast_add]; rfl)), H', ⟨Nat.le_refl _⟩, ⟨by with_reducible repeat (first | exact HO196.out | apply MRI_alloc | apply MRI_drewN | apply MRI_drew | apply MRI_set)⟩, ⟨by first | exact Kd.R_nil _ _ _ _ _ | exact Kd.N_nil _ _ _ _ _ | exact Kd.V_nil _ _ _ _ _ | exact Kd.Q_nil _ _ _ _ _ | exact Kd.S_nil _ _ _ _ _⟩, ⟨by (with_reducible repeat (first | refine blk_drewN ?_ _ | refine blk_drew ?_ | refine blk_alloc ?_ _)); exact BK165.out⟩, ⟨by (with_reducible repeat (first | refine blk_drewN ?_ _ | refine blk_drew ?_ | refine blk_alloc ?_ _)); exact BK184.out⟩, ⟨by repeat (first | (with_reducible first | exact HB.out | apply below_alloc | apply pw_below_drewN | apply below_drew1 | refine below_set ?_ GE165.out | refine below_set ?_ GE184.out) | exact HB.out)⟩⟩
            case round =>
             clear H'
             try clear c1
             try clear p1
             try clear q1
             try clear hx1
             try clear qi1
             try clear c2
             try clear p2
             try clear c3
             try clear c4
             try clear c5
             try clear c6
             try clear p6
             try clear c7
             try clear c7b0
             try clear c8
             try clear c8b0
             try clear c9
             try clear c9b0
             try clear c12
             try clear c13
             try clear c15
             try clear p16
             try clear q16
             try clear hx16
             try clear c17
             try clear p17
             try clear q17
             try clear hx17
             try clear c19
             try clear p19
             try clear q19
             try clear hx19
             try clear qi19
             try clear c20
             try clear c21
             try clear c22
             try clear c23
             try clear c26
             try clear c26b0
             try clear c26b1
             try clear c27
             try clear c28
             try clear c31
             try clear c32
             try clear c33
             try clear c33b0
             try clear c33b1
             try clear c35
             try clear c41
             try clear c41b0
             try clear c42
             try clear c42b0
             try clear c43
             try clear c43b0
             try clear c51
             try clear c54
             try clear c54b0
             try clear c54b1
             try clear c59
             try clear c63
             try clear c63b0
             try clear c63b1
             try clear p64
             try clear c65
             try clear c66
             try clear c68
             try clear c70
             try clear c70b0
             try clear c70b1
             try clear c71
             try clear c74
             try clear c75
             try clear c77
             try clear c79
             try clear c80
             try clear c83
             try clear c83b0
             try clear c83b1
             try clear c86
             try clear c88
             try clear c88b0
             try clear c88b1
             try clear c89
             try clear c89b0
             try clear c89b1
             try clear hcz13_0
             try clear hcz13_1
             try clear hcz18_0
             try clear hcz18_1
             try clear hcz21_0
             try clear hcz21_1
             try clear hcz24_0
             try clear hcz24_1
             try clear hcz24_2
             try clear hcz24_3
             try clear hcz24_4
             try clear hcz24_5
             try clear hcz24_6
             try clear hcz29_0
             try clear hcz29_1
             try clear hcz31_0
             try clear hcz31_1
             try clear hcz36_0
             try clear hcz36_1
             try clear hcz38_0
             try clear hcz38_1
             try clear hcz52_0
             try clear hcz52_1
             try clear hcz60_0
             try clear hcz60_1
             try clear hcz60_2
             try clear hcz60_3
             try clear hcz60_4
             try clear hcz60_5
             try clear hcz60_6
             try clear hcz62_0
             try clear hcz62_1
             try clear hcz62_2
             try clear hcz62_3
             try clear hcz62_4
             try clear hcz62_5
             try clear hcz62_6
             try clear hcz67_0
             try clear hcz67_1
             try clear hcz67_2
             try clear hcz67_3
             try clear hcz67_4
             try clear hcz67_5
             try clear hcz67_6
             try clear hcz69_0
             try clear hcz69_1
             try clear hcz69_2
             try clear hcz69_3
             try clear hcz69_4
             try clear hcz69_5
             try clear hcz69_6
             try clear hcz72_0
             try clear hcz72_1
             try clear hcz72_2
             try clear hcz72_3
             try clear hcz72_4
             try clear hcz72_5
             try clear hcz72_6
             try clear hcz76_0
             try clear hcz76_1
             try clear hcz76_2
             try clear hcz76_3
             try clear hcz76_4
             try clear hcz76_5
             try clear hcz76_6
             try clear hcz78_0
             try clear hcz78_1
             try clear hcz78_2
             try clear hcz78_3
             try clear hcz78_4
             try clear hcz78_5
             try clear hcz78_6
             try clear hcz81_0
             try clear hcz81_1
             try clear hcz81_2
             try clear hcz81_3
             try clear hcz81_4
             try clear hcz81_5
             try clear hcz81_6
             try clear hcz87_0
             try clear hcz87_1
             try clear hcz87_2
             try clear hcz87_3
             try clear hcz87_4
             try clear hcz87_5
             try clear hcz87_6
             try clear hfz13_0
             try clear hfz13_1
             try clear hfz18_0
             try clear hfz18_1
             try clear hfz21_0
             try clear hfz21_1
             try clear hfz24_0
             try clear hfz24_1
             try clear hfz24_2
             try clear hfz24_3
             try clear hfz24_4
             try clear hfz24_5
             try clear hfz24_6
             try clear hfz29_0
             try clear hfz29_1
             try clear hfz31_0
             try clear hfz31_1
             try clear hfz36_0
             try clear hfz36_1
             try clear hfz38_0
             try clear hfz38_1
             try clear hfz52_0
             try clear hfz52_1
             try clear hfz60_0
             try clear hfz60_1
             try clear hfz60_2
             try clear hfz60_3
             try clear hfz60_4
             try clear hfz60_5
             try clear hfz60_6
             try clear hfz62_0
             try clear hfz62_1
             try clear hfz62_2
             try clear hfz62_3
             try clear hfz62_4
             try clear hfz62_5
             try clear hfz62_6
             try clear hfz67_0
             try clear hfz67_1
             try clear hfz67_2
             try clear hfz67_3
             try clear hfz67_4
             try clear hfz67_5
             try clear hfz67_6
             try clear hfz69_0
             try clear hfz69_1
             try clear hfz69_2
             try clear hfz69_3
             try clear hfz69_4
             try clear hfz69_5
             try clear hfz69_6
             try clear hfz72_0
             try clear hfz72_1
             try clear hfz72_2
             try clear hfz72_3
             try clear hfz72_4
             try clear hfz72_5
             try clear hfz72_6
             try clear hfz76_0
             try clear hfz76_1
             try clear hfz76_2
             try clear hfz76_3
             try clear hfz76_4
             try clear hfz76_5
             try clear hfz76_6
             try clear hfz78_0
             try clear hfz78_1
             try clear hfz78_2
             try clear hfz78_3
             try clear hfz78_4
             try clear hfz78_5
             try clear hfz78_6
             try clear hfz81_0
             try clear hfz81_1
             try clear hfz81_2
             try clear hfz81_3
             try clear hfz81_4
             try clear hfz81_5
             try clear hfz81_6
             try clear hfz87_0
             try clear hfz87_1
             try clear hfz87_2
             try clear hfz87_3
             try clear hfz87_4
             try clear hfz87_5
             try clear hfz87_6
             try clear hx167_0
             try clear hx167_1
             try clear hx178_0
             try clear hx193_0
             try clear p1
             try clear p16
             try clear p167
             try clear p17
             try clear p178
             try clear p19
             try clear p193
             try clear p2
             try clear p6
             try clear p64
             try clear q1
             try clear q16
             try clear q167
             try clear q17
             try clear q178
             try clear q19
             try clear q193
             obtain ⟨x130_4, x185004_4, u185004, rfl, HA, HK4, HO_9, HO_185004, BK165, BK184, HB⟩ := hrel
             cases gk with
             | zero => exact absurd HA.out (by simp [msg_One.l2])
             | succ k4 =>
              have H := HA.out
              clear HA
              simp only [msg_One.l2] at H
              by_cases c96 : x130_4 < (l2.length : Int)
              ·
               rw [if_pos c96] at H
               have c96b0 : decide (x130_4 < (l2.length : Int)) = true := decide_eq_true c96
               clear c96
               by_cases c97 : 0 ≤ x130_4
               ·
                rw [if_pos c97] at H
                have c97b0 : decide (0 ≤ x130_4) = true := decide_eq_true c97
                clear c97
                by_cases c98 : x130_4 < (l2.length : Int)
                ·
                 rw [if_pos c98] at H
                 have c98b0 : decide (x130_4 < (l2.length : Int)) = true := decide_eq_true c98
                 clear c98
                 replace H := Option.bind_eq_some_iff.mp H
                 obtain ⟨t199, A990, H⟩ := H
                 replace H : (if t199.toList = ([104, 111, 115, 116] : List UInt8) then (msg_One.l2 k4 t194 l2 (l2.length : Int) (wrap64 (x130_4 + 1)) a0 x185001_83 x185002_83 t187 x185004_4 (⟨#[]⟩ : ByteArray)) else (if t199.toList = ([116, 101] : List UInt8) then (msg_One.l2 k4 t194 l2 (l2.length : Int) (wrap64 (x130_4 + 1)) a0 x185001_83 x185002_83 t187 x185004_4 (⟨#[]⟩ : ByteArray)) else ((msg_Bound.f t199).bind fun t200 => (if t200 = true then (msg_One.l2 k4 t194 l2 (l2.length : Int) (wrap64 (x130_4 + 1)) a0 x185001_83 x185002_83 t187 x185004_4 (⟨#[]⟩ : ByteArray)) else ((matI.f t194 t199).bind fun t201 => (if t201 = 0 then (if x185004_4.length < 4398046511104 then (msg_One.l2 k4 t194 l2 (l2.length : Int) (wrap64 (x130_4 + 1)) a0 x185001_83 x185002_83 t187 (x185004_4 ++ [(⟨t199, (rd_T30 l2 x130_4).f1⟩ : S30)]) (⟨#[]⟩ : ByteArray)) else (none)) else (msg_One.l2 k4 t194 l2 (l2.length : Int) (wrap64 (x130_4 + 1)) a0 x185001_83 x185002_83 t187 x185004_4 (⟨#[]⟩ : ByteArray)))))))) = some (r1, r2, r3, r4, r5, r6, r7, r8) := H
                 have A99 := Aside0.mk A990
                 clear A990
                 by_cases c100 : t199.toList = ([104, 111, 115, 116] : List UInt8)
                 ·
                  rw [if_pos c100] at H
                  have c100b0 : (t199.toList == ([104, 111, 115, 116] : List UInt8)) = true := beq_iff_eq.mpr c100
                  have c100b1 : (t199.toList != ([104, 111, 115, 116] : List UInt8)) = false := bne_eq_false_iff_eq.mpr c100
                  clear c100
                  have H' := Aside0.mk H
                  clear H
                  have p197 : 0 ≤ (x130_4 : Int) := of_decide_eq_true (by first | (with_reducible assumption) | assumption)
                  have q197 : x130_4 < (l2.length : Int) := of_decide_eq_true (by first | (with_reducible assumption) | assumption)
                  obtain ⟨ad197, e197, hx197_0, hx197_1⟩ := at_T30 HR2.out x130_4 p197 q197
                  cases e197
                  replace hx197_0 := (HB.out.cell (World.block_lt_of_cell? w _ hx197_0)).trans hx197_0
                  replace hx197_1 := (HB.out.cell (World.block_lt_of_cell? w _ hx197_1)).trans hx197_1
                  replace p197 := eq_true p197
                  replace q197 := eq_true q197
                  go_wp2_with (first | ((with_reducible refine gate_dst (N := 19) rfl ?_); refine box_event ?hg (N := 19) ?hd (cs := #[.string (⟨#[]⟩ : ByteArray), .string (⟨#[]⟩ : ByteArray)]) (t := 30) ?hr ?_; (case hd => rfl); (case hg => rfl); (case hr => first | (go_simp; done) | (go_simp; rfl)); intro gb198 hg w101 hbox hb; have n0_ := Aside0.mk (MRI_below (by with_reducible repeat (first | exact HO_9.out | apply MRI_alloc | apply MRI_drewN | apply MRI_drew | apply MRI_set)) hb); have n1_ := Aside0.mk (Kd.R_below (Kd.R_elderB (by (with_reducible repeat (first | apply Kd.R_alloc | apply Kd.R_drewN | apply Kd.R_drew)); exact HO_185004.out) gb198 (Nat.le_of_eq hg.symm)) hb); have n2_ := Aside0.mk (blk_below (g := gb165) (o := .cells #[.string x166000_1, .string x166001_1, .string x166002_1, .string x166003_1, .slice none 0 0, .string x166005_1, .slice none 0 0] 24 (0, 0)) (by (with_reducible repeat (first | refine blk_drewN ?_ _ | refine blk_drew ?_ | refine blk_alloc ?_ _)); exact BK165.out) hb); have n3_ := Aside0.mk (blk_below (g := gb184) (o := .cells #[.string a0, .string x185001_83, .string x185002_83, .string t187, u185004, .string (⟨#[]⟩ : ByteArray), .slice none 0 0] 24 (0, 0)) (by (with_reducible repeat (first | refine blk_drewN ?_ _ | refine blk_drew ?_ | refine blk_alloc ?_ _)); exact BK184.out) hb); have n4_ := Aside0.mk (below_step (by repeat (first | (with_reducible first | exact HB.out | apply below_alloc | apply pw_below_drewN | apply below_drew1 | refine below_set ?_ GE165.out | refine below_set ?_ GE184.out) | exact HB.out)) hb); have n5_ := Aside0.mk (hbox); have n6_ := Aside0.mk ((by rw [hg]; exact (below_size (by repeat (first | (with_reducible first | exact HB.out | apply below_alloc | apply pw_below_drewN | apply below_drew1 | refine below_set ?_ GE165.out | refine below_set ?_ GE184.out) | exact HB.out))) : w.heap.size ≤ gb198)); have n7_ := Aside0.mk ((by rw [hg]; exact (below_size (by repeat (first | (with_reducible first | exact HB.out | apply below_alloc | apply pw_below_drewN | apply below_drew1 | refine below_set ?_ GE165.out | refine below_set ?_ GE184.out) | exact HB.out))) : w.heap.size ≤ gb198)); have n8_ := Aside0.mk ((by rw [hg]; exact Nat.ne_of_lt (blk_lt (g := gb165) (o := .cells #[.string x166000_1, .string x166001_1, .string x166002_1, .string x166003_1, .slice none 0 0, .string x166005_1, .slice none 0 0] 24 (0, 0)) (by (with_reducible repeat (first | refine blk_drewN ?_ _ | refine blk_drew ?_ | refine blk_alloc ?_ _)); exact BK165.out)) : gb165 ≠ gb198)); have n9_ := Aside0.mk ((by rw [hg]; exact Nat.ne_of_gt (blk_lt (g := gb165) (o := .cells #[.string x166000_1, .string x166001_1, .string x166002_1, .string x166003_1, .slice none 0 0, .string x166005_1, .slice none 0 0] 24 (0, 0)) (by (with_reducible repeat (first | refine blk_drewN ?_ _ | refine blk_drew ?_ | refine blk_alloc ?_ _)); exact BK165.out)) : gb198 ≠ gb165)); have n10_ := Aside0.mk ((by rw [hg]; exact Nat.ne_of_lt (blk_lt (g := gb184) (o := .cells #[.string a0, .string x185001_83, .string x185002_83, .string t187, u185004, .string (⟨#[]⟩ : ByteArray), .slice none 0 0] 24 (0, 0)) (by (with_reducible repeat (first | refine blk_drewN ?_ _ | refine blk_drew ?_ | refine blk_alloc ?_ _)); exact BK184.out)) : gb184 ≠ gb198)); have n11_ := Aside0.mk ((by rw [hg]; exact Nat.ne_of_gt (blk_lt (g := gb184) (o := .cells #[.string a0, .string x185001_83, .string x185002_83, .string t187, u185004, .string (⟨#[]⟩ : ByteArray), .slice none 0 0] 24 (0, 0)) (by (with_reducible repeat (first | refine blk_drewN ?_ _ | refine blk_drew ?_ | refine blk_alloc ?_ _)); exact BK184.out)) : gb198 ≠ gb184)); clear HO_9; clear HO_185004; clear BK165; clear BK184; clear HB; have HO_9 := n0_; have HO_185004 := n1_; have BK165 := n2_; have BK184 := n3_; have HB := n4_; have BK198 := n5_; have GW198 := n6_; have GE198 := n7_; have NB165_198 := n8_; have NB198_165 := n9_; have NB184_198 := n10_; have NB198_184 := n11_; clear n0_ n1_ n2_ n3_ n4_ n5_ n6_ n7_ n8_ n9_ n10_ n11_; clear hb hbox hg; have hnb102 := NB198_165.out; have hnc102 := NB165_198.out; have hnb103 := NB198_184.out; have hnc103 := NB184_198.out; have hcz104_0 : w101.cell? ⟨gb198, 0, none⟩ = some (.string (⟨#[]⟩ : ByteArray)) := (blk_cell BK198.out 0).trans rfl; have hcz104_1 : w101.cell? ⟨gb198, 1, none⟩ = some (.string (⟨#[]⟩ : ByteArray)) := (blk_cell BK198.out 1).trans rfl; have hfz104_0 := blk_frozen BK198.out 0; have hfz104_1 := blk_frozen BK198.out 1) | ((with_reducible refine gate_callee (f := 23) rfl ?_); refine goesL_ (some 136) rfl rfl Tryd.func23 (by kernel_rfl) rfl #[.string ((rd_T30 l2 x130_4).f0)] rfl (by (try simp only [List.map_toArray, List.map_cons, List.map_nil]); first | done | rfl | (simp only [List.length_drop, List.length_take]; rfl)) ?_; (with_reducible refine (text_Lower.calls ((rd_T30 l2 x130_4).f0) t199 _ A99.out).mono ?_); rintro e w105 ⟨rfl, hb⟩; refine ⟨_, rfl, ?_⟩; have n0_ := Aside0.mk (MRI_below (by with_reducible repeat (first | exact HO_9.out | apply MRI_alloc | apply MRI_drewN | apply MRI_drew | apply MRI_set)) hb); have n1_ := Aside0.mk (Kd.R_below (by (with_reducible repeat (first | apply Kd.R_alloc | apply Kd.R_drewN | apply Kd.R_drew)); exact (Kd.R_mono (Kd.R_far (p := ⟨gb198, 1, none⟩) (Kd.R_far (p := ⟨gb198, 0, none⟩) (Kd.R_mono HO_185004.out (fun k_ hk => (⟨hk, hk.2⟩ : _ ∧ k_ ≠ gb198))) (fun _ hk => hk.2) (.string ((rd_T30 l2 x130_4).f0))) (fun _ hk => hk.2) (.string ((rd_T30 l2 x130_4).f1))) (fun _ h_ => h_.1))) hb); have n2_ := Aside0.mk (blk_below (g := gb165) (o := .cells #[.string x166000_1, .string x166001_1, .string x166002_1, .string x166003_1, .slice none 0 0, .string x166005_1, .slice none 0 0] 24 (0, 0)) (by (with_reducible repeat (first | refine blk_drewN ?_ _ | refine blk_drew ?_ | refine blk_alloc ?_ _)); refine blk_far ?_ NB165_198.out _; (with_reducible repeat (first | refine blk_drewN ?_ _ | refine blk_drew ?_ | refine blk_alloc ?_ _)); refine blk_far ?_ NB165_198.out _; (with_reducible repeat (first | refine blk_drewN ?_ _ | refine blk_drew ?_ | refine blk_alloc ?_ _)); exact BK165.out) hb); have n3_ := Aside0.mk (blk_below (g := gb184) (o := .cells #[.string a0, .string x185001_83, .string x185002_83, .string t187, u185004, .string (⟨#[]⟩ : ByteArray), .slice none 0 0] 24 (0, 0)) (by (with_reducible repeat (first | refine blk_drewN ?_ _ | refine blk_drew ?_ | refine blk_alloc ?_ _)); refine blk_far ?_ NB184_198.out _; (with_reducible repeat (first | refine blk_drewN ?_ _ | refine blk_drew ?_ | refine blk_alloc ?_ _)); refine blk_far ?_ NB184_198.out _; (with_reducible repeat (first | refine blk_drewN ?_ _ | refine blk_drew ?_ | refine blk_alloc ?_ _)); exact BK184.out) hb); have n4_ := Aside0.mk (blk_below (g := gb198) (o := .cells #[.string ((rd_T30 l2 x130_4).f0), .string ((rd_T30 l2 x130_4).f1)] 30 (0, 0)) (by (with_reducible repeat (first | refine blk_drewN ?_ _ | refine blk_drew ?_ | refine blk_alloc ?_ _)); refine blk_put (cs := #[.string ((rd_T30 l2 x130_4).f0), .string (⟨#[]⟩ : ByteArray)]) ?_ 1 _ rfl; (with_reducible repeat (first | refine blk_drewN ?_ _ | refine blk_drew ?_ | refine blk_alloc ?_ _)); refine blk_put (cs := #[.string (⟨#[]⟩ : ByteArray), .string (⟨#[]⟩ : ByteArray)]) ?_ 0 _ rfl; (with_reducible repeat (first | refine blk_drewN ?_ _ | refine blk_drew ?_ | refine blk_alloc ?_ _)); exact BK198.out) hb); have n5_ := Aside0.mk (below_step (by repeat (first | (with_reducible first | exact HB.out | apply below_alloc | apply pw_below_drewN | apply below_drew1 | refine below_set ?_ GE165.out | refine below_set ?_ GE184.out | refine below_set ?_ GE198.out) | exact HB.out)) hb); clear HO_9; clear HO_185004; clear BK165; clear BK184; clear BK198; clear HB; have HO_9 := n0_; have HO_185004 := n1_; have BK165 := n2_; have BK184 := n3_; have BK198 := n4_; have HB := n5_; clear n0_ n1_ n2_ n3_ n4_ n5_; (try clear hb); (try clear hb2); (try clear hk); (try clear hi); have hcz106_0 : w105.cell? ⟨gb198, 0, none⟩ = some (.string ((rd_T30 l2 x130_4).f0)) := (blk_cell BK198.out 0).trans rfl; have hcz106_1 : w105.cell? ⟨gb198, 1, none⟩ = some (.string ((rd_T30 l2 x130_4).f1)) := (blk_cell BK198.out 1).trans rfl; have hfz106_0 := blk_frozen BK198.out 0; have hfz106_1 := blk_frozen BK198.out 1))
                  go_roundg k4
                  case measure => have := HK1.out; have := HJ55.out; have := HJ83.out; have := HK4.out; omega
                  case rel => exact ⟨(wrap64 (x130_4 + 1)), (x185004_4), (u185004), (by first | rfl | (simp; done) | (simp [*]; done) | (simp [bne_nil_]; done) | (simp only [ByteArray.size_append, Int.natCast_add]; rfl)), H', ⟨by have := HK1.out; have := HJ55.out; have := HJ83.out; have := HK4.out; omega⟩, ⟨by with_reducible repeat (first | exact HO_9.out | apply MRI_alloc | apply MRI_drewN | apply MRI_drew | apply MRI_set)⟩, ⟨by (with_reducible repeat (first | apply Kd.R_alloc | apply Kd.R_drewN | apply Kd.R_drew)); exact Kd.R_mono (Kd.R_far (p := ⟨gb198, 0, none⟩) (Kd.R_mono HO_185004.out (fun k_ hk => (⟨hk, hk.2⟩ : _ ∧ k_ ≠ gb198))) (fun _ hk => hk.2) (.string t199)) (fun _ _ => trivial)⟩, ⟨by (with_reducible repeat (first | refine blk_drewN ?_ _ | refine blk_drew ?_ | refine blk_alloc ?_ _)); refine blk_far ?_ NB165_198.out _; (with_reducible repeat (first | refine blk_drewN ?_ _ | refine blk_drew ?_ | refine blk_alloc ?_ _)); exact BK165.out⟩, ⟨by (with_reducible repeat (first | refine blk_drewN ?_ _ | refine blk_drew ?_ | refine blk_alloc ?_ _)); refine blk_far ?_ NB184_198.out _; (with_reducible repeat (first | refine blk_drewN ?_ _ | refine blk_drew ?_ | refine blk_alloc ?_ _)); exact BK184.out⟩, ⟨by repeat (first | (with_reducible first | exact HB.out | apply below_alloc | apply pw_below_drewN | apply below_drew1 | refine below_set ?_ GE165.out | refine below_set ?_ GE184.out | refine below_set ?_ GE198.out) | exact HB.out)⟩⟩
                 ·
                  rw [if_neg c100] at H
                  have c100b0 : (t199.toList == ([104, 111, 115, 116] : List UInt8)) = false := beq_eq_false_iff_ne.mpr c100
                  have c100b1 : (t199.toList != ([104, 111, 115, 116] : List UInt8)) = true := bne_iff_ne.mpr c100
                  by_cases c107 : t199.toList = ([116, 101] : List UInt8)
                  ·
                   rw [if_pos c107] at H
                   have c107b0 : (t199.toList == ([116, 101] : List UInt8)) = true := beq_iff_eq.mpr c107
                   have c107b1 : (t199.toList != ([116, 101] : List UInt8)) = false := bne_eq_false_iff_eq.mpr c107
                   clear c107
                   have H' := Aside0.mk H
                   clear H
                   have p197 : 0 ≤ (x130_4 : Int) := of_decide_eq_true (by first | (with_reducible assumption) | assumption)
                   have q197 : x130_4 < (l2.length : Int) := of_decide_eq_true (by first | (with_reducible assumption) | assumption)
                   obtain ⟨ad197, e197, hx197_0, hx197_1⟩ := at_T30 HR2.out x130_4 p197 q197
                   cases e197
                   replace hx197_0 := (HB.out.cell (World.block_lt_of_cell? w _ hx197_0)).trans hx197_0
                   replace hx197_1 := (HB.out.cell (World.block_lt_of_cell? w _ hx197_1)).trans hx197_1
                   replace p197 := eq_true p197
                   replace q197 := eq_true q197
                   go_wp2_with (first | ((with_reducible refine gate_dst (N := 19) rfl ?_); refine box_event ?hg (N := 19) ?hd (cs := #[.string (⟨#[]⟩ : ByteArray), .string (⟨#[]⟩ : ByteArray)]) (t := 30) ?hr ?_; (case hd => rfl); (case hg => rfl); (case hr => first | (go_simp; done) | (go_simp; rfl)); intro gb198 hg w108 hbox hb; have n0_ := Aside0.mk (MRI_below (by with_reducible repeat (first | exact HO_9.out | apply MRI_alloc | apply MRI_drewN | apply MRI_drew | apply MRI_set)) hb); have n1_ := Aside0.mk (Kd.R_below (Kd.R_elderB (by (with_reducible repeat (first | apply Kd.R_alloc | apply Kd.R_drewN | apply Kd.R_drew)); exact HO_185004.out) gb198 (Nat.le_of_eq hg.symm)) hb); have n2_ := Aside0.mk (blk_below (g := gb165) (o := .cells #[.string x166000_1, .string x166001_1, .string x166002_1, .string x166003_1, .slice none 0 0, .string x166005_1, .slice none 0 0] 24 (0, 0)) (by (with_reducible repeat (first | refine blk_drewN ?_ _ | refine blk_drew ?_ | refine blk_alloc ?_ _)); exact BK165.out) hb); have n3_ := Aside0.mk (blk_below (g := gb184) (o := .cells #[.string a0, .string x185001_83, .string x185002_83, .string t187, u185004, .string (⟨#[]⟩ : ByteArray), .slice none 0 0] 24 (0, 0)) (by (with_reducible repeat (first | refine blk_drewN ?_ _ | refine blk_drew ?_ | refine blk_alloc ?_ _)); exact BK184.out) hb); have n4_ := Aside0.mk (below_step (by repeat (first | (with_reducible first | exact HB.out | apply below_alloc | apply pw_below_drewN | apply below_drew1 | refine below_set ?_ GE165.out | refine below_set ?_ GE184.out) | exact HB.out)) hb); have n5_ := Aside0.mk (hbox); have n6_ := Aside0.mk ((by rw [hg]; exact (below_size (by repeat (first | (with_reducible first | exact HB.out | apply below_alloc | apply pw_below_drewN | apply below_drew1 | refine below_set ?_ GE165.out | refine below_set ?_ GE184.out) | exact HB.out))) : w.heap.size ≤ gb198)); have n7_ := Aside0.mk ((by rw [hg]; exact (below_size (by repeat (first | (with_reducible first | exact HB.out | apply below_alloc | apply pw_below_drewN | apply below_drew1 | refine below_set ?_ GE165.out | refine below_set ?_ GE184.out) | exact HB.out))) : w.heap.size ≤ gb198)); have n8_ := Aside0.mk ((by rw [hg]; exact Nat.ne_of_lt (blk_lt (g := gb165) (o := .cells #[.string x166000_1, .string x166001_1, .string x166002_1, .string x166003_1, .slice none 0 0, .string x166005_1, .slice none 0 0] 24 (0, 0)) (by (with_reducible repeat (first | refine blk_drewN ?_ _ | refine blk_drew ?_ | refine blk_alloc ?_ _)); exact BK165.out)) : gb165 ≠ gb198)); have n9_ := Aside0.mk ((by rw [hg]; exact Nat.ne_of_gt (blk_lt (g := gb165) (o := .cells #[.string x166000_1, .string x166001_1, .string x166002_1, .string x166003_1, .slice none 0 0, .string x166005_1, .slice none 0 0] 24 (0, 0)) (by (with_reducible repeat (first | refine blk_drewN ?_ _ | refine blk_drew ?_ | refine blk_alloc ?_ _)); exact BK165.out)) : gb198 ≠ gb165)); have n10_ := Aside0.mk ((by rw [hg]; exact Nat.ne_of_lt (blk_lt (g := gb184) (o := .cells #[.string a0, .string x185001_83, .string x185002_83, .string t187, u185004, .string (⟨#[]⟩ : ByteArray), .slice none 0 0] 24 (0, 0)) (by (with_reducible repeat (first | refine blk_drewN ?_ _ | refine blk_drew ?_ | refine blk_alloc ?_ _)); exact BK184.out)) : gb184 ≠ gb198)); have n11_ := Aside0.mk ((by rw [hg]; exact Nat.ne_of_gt (blk_lt (g := gb184) (o := .cells #[.string a0, .string x185001_83, .string x185002_83, .string t187, u185004, .string (⟨#[]⟩ : ByteArray), .slice none 0 0] 24 (0, 0)) (by (with_reducible repeat (first | refine blk_drewN ?_ _ | refine blk_drew ?_ | refine blk_alloc ?_ _)); exact BK184.out)) : gb198 ≠ gb184)); clear HO_9; clear HO_185004; clear BK165; clear BK184; clear HB; have HO_9 := n0_; have HO_185004 := n1_; have BK165 := n2_; have BK184 := n3_; have HB := n4_; have BK198 := n5_; have GW198 := n6_; have GE198 := n7_; have NB165_198 := n8_; have NB198_165 := n9_; have NB184_198 := n10_; have NB198_184 := n11_; clear n0_ n1_ n2_ n3_ n4_ n5_ n6_ n7_ n8_ n9_ n10_ n11_; clear hb hbox hg; have hnb109 := NB198_165.out; have hnc109 := NB165_198.out; have hnb110 := NB198_184.out; have hnc110 := NB184_198.out; have hcz111_0 : w108.cell? ⟨gb198, 0, none⟩ = some (.string (⟨#[]⟩ : ByteArray)) := (blk_cell BK198.out 0).trans rfl; have hcz111_1 : w108.cell? ⟨gb198, 1, none⟩ = some (.string (⟨#[]⟩ : ByteArray)) := (blk_cell BK198.out 1).trans rfl; have hfz111_0 := blk_frozen BK198.out 0; have hfz111_1 := blk_frozen BK198.out 1) | ((with_reducible refine gate_callee (f := 23) rfl ?_); refine goesL_ (some 136) rfl rfl Tryd.func23 (by kernel_rfl) rfl #[.string ((rd_T30 l2 x130_4).f0)] rfl (by (try simp only [List.map_toArray, List.map_cons, List.map_nil]); first | done | rfl | (simp only [List.length_drop, List.length_take]; rfl)) ?_; (with_reducible refine (text_Lower.calls ((rd_T30 l2 x130_4).f0) t199 _ A99.out).mono ?_); rintro e w112 ⟨rfl, hb⟩; refine ⟨_, rfl, ?_⟩; have n0_ := Aside0.mk (MRI_below (by with_reducible repeat (first | exact HO_9.out | apply MRI_alloc | apply MRI_drewN | apply MRI_drew | apply MRI_set)) hb); have n1_ := Aside0.mk (Kd.R_below (by (with_reducible repeat (first | apply Kd.R_alloc | apply Kd.R_drewN | apply Kd.R_drew)); exact (Kd.R_mono (Kd.R_far (p := ⟨gb198, 1, none⟩) (Kd.R_far (p := ⟨gb198, 0, none⟩) (Kd.R_mono HO_185004.out (fun k_ hk => (⟨hk, hk.2⟩ : _ ∧ k_ ≠ gb198))) (fun _ hk => hk.2) (.string ((rd_T30 l2 x130_4).f0))) (fun _ hk => hk.2) (.string ((rd_T30 l2 x130_4).f1))) (fun _ h_ => h_.1))) hb); have n2_ := Aside0.mk (blk_below (g := gb165) (o := .cells #[.string x166000_1, .string x166001_1, .string x166002_1, .string x166003_1, .slice none 0 0, .string x166005_1, .slice none 0 0] 24 (0, 0)) (by (with_reducible repeat (first | refine blk_drewN ?_ _ | refine blk_drew ?_ | refine blk_alloc ?_ _)); refine blk_far ?_ NB165_198.out _; (with_reducible repeat (first | refine blk_drewN ?_ _ | refine blk_drew ?_ | refine blk_alloc ?_ _)); refine blk_far ?_ NB165_198.out _; (with_reducible repeat (first | refine blk_drewN ?_ _ | refine blk_drew ?_ | refine blk_alloc ?_ _)); exact BK165.out) hb); have n3_ := Aside0.mk (blk_below (g := gb184) (o := .cells #[.string a0, .string x185001_83, .string x185002_83, .string t187, u185004, .string (⟨#[]⟩ : ByteArray), .slice none 0 0] 24 (0, 0)) (by (with_reducible repeat (first | refine blk_drewN ?_ _ | refine blk_drew ?_ | refine blk_alloc ?_ _)); refine blk_far ?_ NB184_198.out _; (with_reducible repeat (first | refine blk_drewN ?_ _ | refine blk_drew ?_ | refine blk_alloc ?_ _)); refine blk_far ?_ NB184_198.out _; (with_reducible repeat (first | refine blk_drewN ?_ _ | refine blk_drew ?_ | refine blk_alloc ?_ _)); exact BK184.out) hb); have n4_ := Aside0.mk (blk_below (g := gb198) (o := .cells #[.string ((rd_T30 l2 x130_4).f0), .string ((rd_T30 l2 x130_4).f1)] 30 (0, 0)) (by (with_reducible repeat (first | refine blk_drewN ?_ _ | refine blk_drew ?_ | refine blk_alloc ?_ _)); refine blk_put (cs := #[.string ((rd_T30 l2 x130_4).f0), .string (⟨#[]⟩ : ByteArray)]) ?_ 1 _ rfl; (with_reducible repeat (first | refine blk_drewN ?_ _ | refine blk_drew ?_ | refine blk_alloc ?_ _)); refine blk_put (cs := #[.string (⟨#[]⟩ : ByteArray), .string (⟨#[]⟩ : ByteArray)]) ?_ 0 _ rfl; (with_reducible repeat (first | refine blk_drewN ?_ _ | refine blk_drew ?_ | refine blk_alloc ?_ _)); exact BK198.out) hb); have n5_ := Aside0.mk (below_step (by repeat (first | (with_reducible first | exact HB.out | apply below_alloc | apply pw_below_drewN | apply below_drew1 | refine below_set ?_ GE165.out | refine below_set ?_ GE184.out | refine below_set ?_ GE198.out) | exact HB.out)) hb); clear HO_9; clear HO_185004; clear BK165; clear BK184; clear BK198; clear HB; have HO_9 := n0_; have HO_185004 := n1_; have BK165 := n2_; have BK184 := n3_; have BK198 := n4_; have HB := n5_; clear n0_ n1_ n2_ n3_ n4_ n5_; (try clear hb); (try clear hb2); (try clear hk); (try clear hi); have hcz113_0 : w112.cell? ⟨gb198, 0, none⟩ = some (.string ((rd_T30 l2 x130_4).f0)) := (blk_cell BK198.out 0).trans rfl; have hcz113_1 : w112.cell? ⟨gb198, 1, none⟩ = some (.string ((rd_T30 l2 x130_4).f1)) := (blk_cell BK198.out 1).trans rfl; have hfz113_0 := blk_frozen BK198.out 0; have hfz113_1 := blk_frozen BK198.out 1))
                   go_roundg k4
                   case measure => have := HK1.out; have := HJ55.out; have := HJ83.out; have := HK4.out; omega
                   case rel => exact ⟨(wrap64 (x130_4 + 1)), (x185004_4), (u185004), (by first | rfl | (simp; done) | (simp [*]; done) | (simp [bne_nil_]; done) | (simp only [ByteArray.size_append, Int.natCast_add]; rfl)), H', ⟨by have := HK1.out; have := HJ55.out; have := HJ83.out; have := HK4.out; omega⟩, ⟨by with_reducible repeat (first | exact HO_9.out | apply MRI_alloc | apply MRI_drewN | apply MRI_drew | apply MRI_set)⟩, ⟨by (with_reducible repeat (first | apply Kd.R_alloc | apply Kd.R_drewN | apply Kd.R_drew)); exact Kd.R_mono (Kd.R_far (p := ⟨gb198, 0, none⟩) (Kd.R_mono HO_185004.out (fun k_ hk => (⟨hk, hk.2⟩ : _ ∧ k_ ≠ gb198))) (fun _ hk => hk.2) (.string t199)) (fun _ _ => trivial)⟩, ⟨by (with_reducible repeat (first | refine blk_drewN ?_ _ | refine blk_drew ?_ | refine blk_alloc ?_ _)); refine blk_far ?_ NB165_198.out _; (with_reducible repeat (first | refine blk_drewN ?_ _ | refine blk_drew ?_ | refine blk_alloc ?_ _)); exact BK165.out⟩, ⟨by (with_reducible repeat (first | refine blk_drewN ?_ _ | refine blk_drew ?_ | refine blk_alloc ?_ _)); refine blk_far ?_ NB184_198.out _; (with_reducible repeat (first | refine blk_drewN ?_ _ | refine blk_drew ?_ | refine blk_alloc ?_ _)); exact BK184.out⟩, ⟨by repeat (first | (with_reducible first | exact HB.out | apply below_alloc | apply pw_below_drewN | apply below_drew1 | refine below_set ?_ GE165.out | refine below_set ?_ GE184.out | refine below_set ?_ GE198.out) | exact HB.out)⟩⟩
                  ·
                   rw [if_neg c107] at H
                   have c107b0 : (t199.toList == ([116, 101] : List UInt8)) = false := beq_eq_false_iff_ne.mpr c107
                   have c107b1 : (t199.toList != ([116, 101] : List UInt8)) = true := bne_iff_ne.mpr c107
                   replace H := Option.bind_eq_some_iff.mp H
                   obtain ⟨t200, A1140, H⟩ := H
                   replace H : (if t200 = true then (msg_One.l2 k4 t194 l2 (l2.length : Int) (wrap64 (x130_4 + 1)) a0 x185001_83 x185002_83 t187 x185004_4 (⟨#[]⟩ : ByteArray)) else ((matI.f t194 t199).bind fun t201 => (if t201 = 0 then (if x185004_4.length < 4398046511104 then (msg_One.l2 k4 t194 l2 (l2.length : Int) (wrap64 (x130_4 + 1)) a0 x185001_83 x185002_83 t187 (x185004_4 ++ [(⟨t199, (rd_T30 l2 x130_4).f1⟩ : S30)]) (⟨#[]⟩ : ByteArray)) else (none)) else (msg_One.l2 k4 t194 l2 (l2.length : Int) (wrap64 (x130_4 + 1)) a0 x185001_83 x185002_83 t187 x185004_4 (⟨#[]⟩ : ByteArray))))) = some (r1, r2, r3, r4, r5, r6, r7, r8) := H
                   have A114 := Aside0.mk A1140
                   clear A1140
                   by_cases c115 : t200 = true
                   ·
                    subst c115
                    have H1 : (msg_One.l2 k4 t194 l2 (l2.length : Int) (wrap64 (x130_4 + 1)) a0 x185001_83 x185002_83 t187 x185004_4 (⟨#[]⟩ : ByteArray)) = some (r1, r2, r3, r4, r5, r6, r7, r8) := by rw [if_pos rfl] at H; exact H
                    clear H
                    have H := H1
                    clear H1
                    have H' := Aside0.mk H
                    clear H
                    have p197 : 0 ≤ (x130_4 : Int) := of_decide_eq_true (by first | (with_reducible assumption) | assumption)
                    have q197 : x130_4 < (l2.length : Int) := of_decide_eq_true (by first | (with_reducible assumption) | assumption)
                    obtain ⟨ad197, e197, hx197_0, hx197_1⟩ := at_T30 HR2.out x130_4 p197 q197
                    cases e197
                    replace hx197_0 := (HB.out.cell (World.block_lt_of_cell? w _ hx197_0)).trans hx197_0
                    replace hx197_1 := (HB.out.cell (World.block_lt_of_cell? w _ hx197_1)).trans hx197_1
                    replace p197 := eq_true p197
                    replace q197 := eq_true q197
                    go_wp2_with (first | ((with_reducible refine gate_dst (N := 19) rfl ?_); refine box_event ?hg (N := 19) ?hd (cs := #[.string (⟨#[]⟩ : ByteArray), .string (⟨#[]⟩ : ByteArray)]) (t := 30) ?hr ?_; (case hd => rfl); (case hg => rfl); (case hr => first | (go_simp; done) | (go_simp; rfl)); intro gb198 hg w116 hbox hb; have n0_ := Aside0.mk (MRI_below (by with_reducible repeat (first | exact HO_9.out | apply MRI_alloc | apply MRI_drewN | apply MRI_drew | apply MRI_set)) hb); have n1_ := Aside0.mk (Kd.R_below (Kd.R_elderB (by (with_reducible repeat (first | apply Kd.R_alloc | apply Kd.R_drewN | apply Kd.R_drew)); exact HO_185004.out) gb198 (Nat.le_of_eq hg.symm)) hb); have n2_ := Aside0.mk (blk_below (g := gb165) (o := .cells #[.string x166000_1, .string x166001_1, .string x166002_1, .string x166003_1, .slice none 0 0, .string x166005_1, .slice none 0 0] 24 (0, 0)) (by (with_reducible repeat (first | refine blk_drewN ?_ _ | refine blk_drew ?_ | refine blk_alloc ?_ _)); exact BK165.out) hb); have n3_ := Aside0.mk (blk_below (g := gb184) (o := .cells #[.string a0, .string x185001_83, .string x185002_83, .string t187, u185004, .string (⟨#[]⟩ : ByteArray), .slice none 0 0] 24 (0, 0)) (by (with_reducible repeat (first | refine blk_drewN ?_ _ | refine blk_drew ?_ | refine blk_alloc ?_ _)); exact BK184.out) hb); have n4_ := Aside0.mk (below_step (by repeat (first | (with_reducible first | exact HB.out | apply below_alloc | apply pw_below_drewN | apply below_drew1 | refine below_set ?_ GE165.out | refine below_set ?_ GE184.out) | exact HB.out)) hb); have n5_ := Aside0.mk (hbox); have n6_ := Aside0.mk ((by rw [hg]; exact (below_size (by repeat (first | (with_reducible first | exact HB.out | apply below_alloc | apply pw_below_drewN | apply below_drew1 | refine below_set ?_ GE165.out | refine below_set ?_ GE184.out) | exact HB.out))) : w.heap.size ≤ gb198)); have n7_ := Aside0.mk ((by rw [hg]; exact (below_size (by repeat (first | (with_reducible first | exact HB.out | apply below_alloc | apply pw_below_drewN | apply below_drew1 | refine below_set ?_ GE165.out | refine below_set ?_ GE184.out) | exact HB.out))) : w.heap.size ≤ gb198)); have n8_ := Aside0.mk ((by rw [hg]; exact Nat.ne_of_lt (blk_lt (g := gb165) (o := .cells #[.string x166000_1, .string x166001_1, .string x166002_1, .string x166003_1, .slice none 0 0, .string x166005_1, .slice none 0 0] 24 (0, 0)) (by (with_reducible repeat (first | refine blk_drewN ?_ _ | refine blk_drew ?_ | refine blk_alloc ?_ _)); exact BK165.out)) : gb165 ≠ gb198)); have n9_ := Aside0.mk ((by rw [hg]; exact Nat.ne_of_gt (blk_lt (g := gb165) (o := .cells #[.string x166000_1, .string x166001_1, .string x166002_1, .string x166003_1, .slice none 0 0, .string x166005_1, .slice none 0 0] 24 (0, 0)) (by (with_reducible repeat (first | refine blk_drewN ?_ _ | refine blk_drew ?_ | refine blk_alloc ?_ _)); exact BK165.out)) : gb198 ≠ gb165)); have n10_ := Aside0.mk ((by rw [hg]; exact Nat.ne_of_lt (blk_lt (g := gb184) (o := .cells #[.string a0, .string x185001_83, .string x185002_83, .string t187, u185004, .string (⟨#[]⟩ : ByteArray), .slice none 0 0] 24 (0, 0)) (by (with_reducible repeat (first | refine blk_drewN ?_ _ | refine blk_drew ?_ | refine blk_alloc ?_ _)); exact BK184.out)) : gb184 ≠ gb198)); have n11_ := Aside0.mk ((by rw [hg]; exact Nat.ne_of_gt (blk_lt (g := gb184) (o := .cells #[.string a0, .string x185001_83, .string x185002_83, .string t187, u185004, .string (⟨#[]⟩ : ByteArray), .slice none 0 0] 24 (0, 0)) (by (with_reducible repeat (first | refine blk_drewN ?_ _ | refine blk_drew ?_ | refine blk_alloc ?_ _)); exact BK184.out)) : gb198 ≠ gb184)); clear HO_9; clear HO_185004; clear BK165; clear BK184; clear HB; have HO_9 := n0_; have HO_185004 := n1_; have BK165 := n2_; have BK184 := n3_; have HB := n4_; have BK198 := n5_; have GW198 := n6_; have GE198 := n7_; have NB165_198 := n8_; have NB198_165 := n9_; have NB184_198 := n10_; have NB198_184 := n11_; clear n0_ n1_ n2_ n3_ n4_ n5_ n6_ n7_ n8_ n9_ n10_ n11_; clear hb hbox hg; have hnb117 := NB198_165.out; have hnc117 := NB165_198.out; have hnb118 := NB198_184.out; have hnc118 := NB184_198.out; have hcz119_0 : w116.cell? ⟨gb198, 0, none⟩ = some (.string (⟨#[]⟩ : ByteArray)) := (blk_cell BK198.out 0).trans rfl; have hcz119_1 : w116.cell? ⟨gb198, 1, none⟩ = some (.string (⟨#[]⟩ : ByteArray)) := (blk_cell BK198.out 1).trans rfl; have hfz119_0 := blk_frozen BK198.out 0; have hfz119_1 := blk_frozen BK198.out 1) | ((with_reducible refine gate_callee (f := 23) rfl ?_); refine goesL_ (some 136) rfl rfl Tryd.func23 (by kernel_rfl) rfl #[.string ((rd_T30 l2 x130_4).f0)] rfl (by (try simp only [List.map_toArray, List.map_cons, List.map_nil]); first | done | rfl | (simp only [List.length_drop, List.length_take]; rfl)) ?_; (with_reducible refine (text_Lower.calls ((rd_T30 l2 x130_4).f0) t199 _ A99.out).mono ?_); rintro e w120 ⟨rfl, hb⟩; refine ⟨_, rfl, ?_⟩; have n0_ := Aside0.mk (MRI_below (by with_reducible repeat (first | exact HO_9.out | apply MRI_alloc | apply MRI_drewN | apply MRI_drew | apply MRI_set)) hb); have n1_ := Aside0.mk (Kd.R_below (by (with_reducible repeat (first | apply Kd.R_alloc | apply Kd.R_drewN | apply Kd.R_drew)); exact (Kd.R_mono (Kd.R_far (p := ⟨gb198, 1, none⟩) (Kd.R_far (p := ⟨gb198, 0, none⟩) (Kd.R_mono HO_185004.out (fun k_ hk => (⟨hk, hk.2⟩ : _ ∧ k_ ≠ gb198))) (fun _ hk => hk.2) (.string ((rd_T30 l2 x130_4).f0))) (fun _ hk => hk.2) (.string ((rd_T30 l2 x130_4).f1))) (fun _ h_ => h_.1))) hb); have n2_ := Aside0.mk (blk_below (g := gb165) (o := .cells #[.string x166000_1, .string x166001_1, .string x166002_1, .string x166003_1, .slice none 0 0, .string x166005_1, .slice none 0 0] 24 (0, 0)) (by (with_reducible repeat (first | refine blk_drewN ?_ _ | refine blk_drew ?_ | refine blk_alloc ?_ _)); refine blk_far ?_ NB165_198.out _; (with_reducible repeat (first | refine blk_drewN ?_ _ | refine blk_drew ?_ | refine blk_alloc ?_ _)); refine blk_far ?_ NB165_198.out _; (with_reducible repeat (first | refine blk_drewN ?_ _ | refine blk_drew ?_ | refine blk_alloc ?_ _)); exact BK165.out) hb); have n3_ := Aside0.mk (blk_below (g := gb184) (o := .cells #[.string a0, .string x185001_83, .string x185002_83, .string t187, u185004, .string (⟨#[]⟩ : ByteArray), .slice none 0 0] 24 (0, 0)) (by (with_reducible repeat (first | refine blk_drewN ?_ _ | refine blk_drew ?_ | refine blk_alloc ?_ _)); refine blk_far ?_ NB184_198.out _; (with_reducible repeat (first | refine blk_drewN ?_ _ | refine blk_drew ?_ | refine blk_alloc ?_ _)); refine blk_far ?_ NB184_198.out _; (with_reducible repeat (first | refine blk_drewN ?_ _ | refine blk_drew ?_ | refine blk_alloc ?_ _)); exact BK184.out) hb); have n4_ := Aside0.mk (blk_below (g := gb198) (o := .cells #[.string ((rd_T30 l2 x130_4).f0), .string ((rd_T30 l2 x130_4).f1)] 30 (0, 0)) (by (with_reducible repeat (first | refine blk_drewN ?_ _ | refine blk_drew ?_ | refine blk_alloc ?_ _)); refine blk_put (cs := #[.string ((rd_T30 l2 x130_4).f0), .string (⟨#[]⟩ : ByteArray)]) ?_ 1 _ rfl; (with_reducible repeat (first | refine blk_drewN ?_ _ | refine blk_drew ?_ | refine blk_alloc ?_ _)); refine blk_put (cs := #[.string (⟨#[]⟩ : ByteArray), .string (⟨#[]⟩ : ByteArray)]) ?_ 0 _ rfl; (with_reducible repeat (first | refine blk_drewN ?_ _ | refine blk_drew ?_ | refine blk_alloc ?_ _)); exact BK198.out) hb); have n5_ := Aside0.mk (below_step (by repeat (first | (with_reducible first | exact HB.out | apply below_alloc | apply pw_below_drewN | apply below_drew1 | refine below_set ?_ GE165.out | refine below_set ?_ GE184.out | refine below_set ?_ GE198.out) | exact HB.out)) hb); clear HO_9; clear HO_185004; clear BK165; clear BK184; clear BK198; clear HB; have HO_9 := n0_; have HO_185004 := n1_; have BK165 := n2_; have BK184 := n3_; have BK198 := n4_; have HB := n5_; clear n0_ n1_ n2_ n3_ n4_ n5_; (try clear hb); (try clear hb2); (try clear hk); (try clear hi); have hcz121_0 : w120.cell? ⟨gb198, 0, none⟩ = some (.string ((rd_T30 l2 x130_4).f0)) := (blk_cell BK198.out 0).trans rfl; have hcz121_1 : w120.cell? ⟨gb198, 1, none⟩ = some (.string ((rd_T30 l2 x130_4).f1)) := (blk_cell BK198.out 1).trans rfl; have hfz121_0 := blk_frozen BK198.out 0; have hfz121_1 := blk_frozen BK198.out 1) | (go_at_call 8; (with_reducible refine (msg_Bound.calls t199 true _ A114.out).mono ?_); rintro e w122 ⟨rfl, hb⟩; have n0_ := Aside0.mk (MRI_below (by with_reducible repeat (first | exact HO_9.out | apply MRI_alloc | apply MRI_drewN | apply MRI_drew | apply MRI_set)) hb); have n1_ := Aside0.mk (Kd.R_below (by (with_reducible repeat (first | apply Kd.R_alloc | apply Kd.R_drewN | apply Kd.R_drew)); exact (Kd.R_mono (Kd.R_far (p := ⟨gb198, 0, none⟩) (Kd.R_mono HO_185004.out (fun k_ hk => (⟨hk, hk.2⟩ : _ ∧ k_ ≠ gb198))) (fun _ hk => hk.2) (.string t199)) (fun _ h_ => h_.1))) hb); have n2_ := Aside0.mk (blk_below (g := gb165) (o := .cells #[.string x166000_1, .string x166001_1, .string x166002_1, .string x166003_1, .slice none 0 0, .string x166005_1, .slice none 0 0] 24 (0, 0)) (by (with_reducible repeat (first | refine blk_drewN ?_ _ | refine blk_drew ?_ | refine blk_alloc ?_ _)); refine blk_far ?_ NB165_198.out _; (with_reducible repeat (first | refine blk_drewN ?_ _ | refine blk_drew ?_ | refine blk_alloc ?_ _)); exact BK165.out) hb); have n3_ := Aside0.mk (blk_below (g := gb184) (o := .cells #[.string a0, .string x185001_83, .string x185002_83, .string t187, u185004, .string (⟨#[]⟩ : ByteArray), .slice none 0 0] 24 (0, 0)) (by (with_reducible repeat (first | refine blk_drewN ?_ _ | refine blk_drew ?_ | refine blk_alloc ?_ _)); refine blk_far ?_ NB184_198.out _; (with_reducible repeat (first | refine blk_drewN ?_ _ | refine blk_drew ?_ | refine blk_alloc ?_ _)); exact BK184.out) hb); have n4_ := Aside0.mk (blk_below (g := gb198) (o := .cells #[.string t199, .string ((rd_T30 l2 x130_4).f1)] 30 (0, 0)) (by (with_reducible repeat (first | refine blk_drewN ?_ _ | refine blk_drew ?_ | refine blk_alloc ?_ _)); refine blk_put (cs := #[.string ((rd_T30 l2 x130_4).f0), .string ((rd_T30 l2 x130_4).f1)]) ?_ 0 _ rfl; (with_reducible repeat (first | refine blk_drewN ?_ _ | refine blk_drew ?_ | refine blk_alloc ?_ _)); exact BK198.out) hb); have n5_ := Aside0.mk (below_step (by repeat (first | (with_reducible first | exact HB.out | apply below_alloc | apply pw_below_drewN | apply below_drew1 | refine below_set ?_ GE165.out | refine below_set ?_ GE184.out | refine below_set ?_ GE198.out) | exact HB.out)) hb); clear HO_9; clear HO_185004; clear BK165; clear BK184; clear BK198; clear HB; have HO_9 := n0_; have HO_185004 := n1_; have BK165 := n2_; have BK184 := n3_; have BK198 := n4_; have HB := n5_; clear n0_ n1_ n2_ n3_ n4_ n5_; (try clear hb); (try clear hb2); (try clear hk); (try clear hi)))
                    go_roundg k4
                    case measure => have := HK1.out; have := HJ55.out; have := HJ83.out; have := HK4.out; omega
                    case rel => exact ⟨(wrap64 (x130_4 + 1)), (x185004_4), (u185004), (by first | rfl | (simp; done) | (simp [*]; done) | (simp [bne_nil_]; done) | (simp only [ByteArray.size_append, Int.natCast_add]; rfl)), H', ⟨by have := HK1.out; have := HJ55.out; have := HJ83.out; have := HK4.out; omega⟩, ⟨by with_reducible repeat (first | exact HO_9.out | apply MRI_alloc | apply MRI_drewN | apply MRI_drew | apply MRI_set)⟩, ⟨by (with_reducible repeat (first | apply Kd.R_alloc | apply Kd.R_drewN | apply Kd.R_drew)); exact Kd.R_mono HO_185004.out (fun _ _ => trivial)⟩, ⟨by (with_reducible repeat (first | refine blk_drewN ?_ _ | refine blk_drew ?_ | refine blk_alloc ?_ _)); exact BK165.out⟩, ⟨by (with_reducible repeat (first | refine blk_drewN ?_ _ | refine blk_drew ?_ | refine blk_alloc ?_ _)); exact BK184.out⟩, ⟨by repeat (first | (with_reducible first | exact HB.out | apply below_alloc | apply pw_below_drewN | apply below_drew1 | refine below_set ?_ GE165.out | refine below_set ?_ GE184.out | refine below_set ?_ GE198.out) | exact HB.out)⟩⟩
                   ·
                    replace c115 := Bool.eq_false_iff.mpr c115
                    subst c115
                    have H1 : ((matI.f t194 t199).bind fun t201 => (if t201 = 0 then (if x185004_4.length < 4398046511104 then (msg_One.l2 k4 t194 l2 (l2.length : Int) (wrap64 (x130_4 + 1)) a0 x185001_83 x185002_83 t187 (x185004_4 ++ [(⟨t199, (rd_T30 l2 x130_4).f1⟩ : S30)]) (⟨#[]⟩ : ByteArray)) else (none)) else (msg_One.l2 k4 t194 l2 (l2.length : Int) (wrap64 (x130_4 + 1)) a0 x185001_83 x185002_83 t187 x185004_4 (⟨#[]⟩ : ByteArray)))) = some (r1, r2, r3, r4, r5, r6, r7, r8) := by rw [if_neg (show ¬ (false = true) by decide)] at H; exact H
                    clear H
                    have H := H1
                    clear H1
                    replace H := Option.bind_eq_some_iff.mp H
                    obtain ⟨t201, A1230, H⟩ := H
                    replace H : (if t201 = 0 then (if x185004_4.length < 4398046511104 then (msg_One.l2 k4 t194 l2 (l2.length : Int) (wrap64 (x130_4 + 1)) a0 x185001_83 x185002_83 t187 (x185004_4 ++ [(⟨t199, (rd_T30 l2 x130_4).f1⟩ : S30)]) (⟨#[]⟩ : ByteArray)) else (none)) else (msg_One.l2 k4 t194 l2 (l2.length : Int) (wrap64 (x130_4 + 1)) a0 x185001_83 x185002_83 t187 x185004_4 (⟨#[]⟩ : ByteArray))) = some (r1, r2, r3, r4, r5, r6, r7, r8) := H
                    have A123 := Aside0.mk A1230
                    clear A1230
                    by_cases c124 : t201 = 0
                    ·
                     rw [if_pos c124] at H
                     have c124b0 : (t201 == 0) = true := beq_iff_eq.mpr c124
                     have c124b1 : (t201 != 0) = false := bne_eq_false_iff_eq.mpr c124
                     clear c124
                     by_cases c125 : x185004_4.length < 4398046511104
                     ·
                      rw [if_pos c125] at H
                      have LMc125 := Aside0.mk c125
                      clear c125
                      obtain ⟨y202, hy202⟩ : ∃ y_ : List (S30), y_ = (x185004_4 ++ [(⟨t199, (rd_T30 l2 x130_4).f1⟩ : S30)]) := ⟨_, rfl⟩
                      replace H : (msg_One.l2 k4 t194 l2 (l2.length : Int) (wrap64 (x130_4 + 1)) a0 x185001_83 x185002_83 t187 y202 (⟨#[]⟩ : ByteArray)) = some (r1, r2, r3, r4, r5, r6, r7, r8) := by first | (rw [hy202]; with_reducible exact H) | (have H2_ := (Option.bind_some _ _).symm.trans H; rw [hy202]; with_reducible exact H2_) | (have H2_ := (Option.bind_some _ _).symm.trans H; with_reducible exact H2_) | with_reducible exact H | (rw [hy202]; exact H) | exact H
                      have Ny202 := Aside0.mk hy202
                      clear hy202
                      have H' := Aside0.mk H
                      clear H
                      have p197 : 0 ≤ (x130_4 : Int) := of_decide_eq_true (by first | (with_reducible assumption) | assumption)
                      have q197 : x130_4 < (l2.length : Int) := of_decide_eq_true (by first | (with_reducible assumption) | assumption)
                      obtain ⟨ad197, e197, hx197_0, hx197_1⟩ := at_T30 HR2.out x130_4 p197 q197
                      cases e197
                      replace hx197_0 := (HB.out.cell (World.block_lt_of_cell? w _ hx197_0)).trans hx197_0
                      replace hx197_1 := (HB.out.cell (World.block_lt_of_cell? w _ hx197_1)).trans hx197_1
                      replace p197 := eq_true p197
                      replace q197 := eq_true q197
                      go_wp2_with (first | ((with_reducible refine gate_dst (N := 19) rfl ?_); refine box_event ?hg (N := 19) ?hd (cs := #[.string (⟨#[]⟩ : ByteArray), .string (⟨#[]⟩ : ByteArray)]) (t := 30) ?hr ?_; (case hd => rfl); (case hg => rfl); (case hr => first | (go_simp; done) | (go_simp; rfl)); intro gb198 hg w126 hbox hb; have n0_ := Aside0.mk (MRI_below (by with_reducible repeat (first | exact HO_9.out | apply MRI_alloc | apply MRI_drewN | apply MRI_drew | apply MRI_set)) hb); have n1_ := Aside0.mk (Kd.R_below (Kd.R_elderB (by (with_reducible repeat (first | apply Kd.R_alloc | apply Kd.R_drewN | apply Kd.R_drew)); exact HO_185004.out) gb198 (Nat.le_of_eq hg.symm)) hb); have n2_ := Aside0.mk (blk_below (g := gb165) (o := .cells #[.string x166000_1, .string x166001_1, .string x166002_1, .string x166003_1, .slice none 0 0, .string x166005_1, .slice none 0 0] 24 (0, 0)) (by (with_reducible repeat (first | refine blk_drewN ?_ _ | refine blk_drew ?_ | refine blk_alloc ?_ _)); exact BK165.out) hb); have n3_ := Aside0.mk (blk_below (g := gb184) (o := .cells #[.string a0, .string x185001_83, .string x185002_83, .string t187, u185004, .string (⟨#[]⟩ : ByteArray), .slice none 0 0] 24 (0, 0)) (by (with_reducible repeat (first | refine blk_drewN ?_ _ | refine blk_drew ?_ | refine blk_alloc ?_ _)); exact BK184.out) hb); have n4_ := Aside0.mk (below_step (by repeat (first | (with_reducible first | exact HB.out | apply below_alloc | apply pw_below_drewN | apply below_drew1 | refine below_set ?_ GE165.out | refine below_set ?_ GE184.out) | exact HB.out)) hb); have n5_ := Aside0.mk (hbox); have n6_ := Aside0.mk ((by rw [hg]; exact (below_size (by repeat (first | (with_reducible first | exact HB.out | apply below_alloc | apply pw_below_drewN | apply below_drew1 | refine below_set ?_ GE165.out | refine below_set ?_ GE184.out) | exact HB.out))) : w.heap.size ≤ gb198)); have n7_ := Aside0.mk ((by rw [hg]; exact (below_size (by repeat (first | (with_reducible first | exact HB.out | apply below_alloc | apply pw_below_drewN | apply below_drew1 | refine below_set ?_ GE165.out | refine below_set ?_ GE184.out) | exact HB.out))) : w.heap.size ≤ gb198)); have n8_ := Aside0.mk ((by rw [hg]; exact Nat.ne_of_lt (blk_lt (g := gb165) (o := .cells #[.string x166000_1, .string x166001_1, .string x166002_1, .string x166003_1, .slice none 0 0, .string x166005_1, .slice none 0 0] 24 (0, 0)) (by (with_reducible repeat (first | refine blk_drewN ?_ _ | refine blk_drew ?_ | refine blk_alloc ?_ _)); exact BK165.out)) : gb165 ≠ gb198)); have n9_ := Aside0.mk ((by rw [hg]; exact Nat.ne_of_gt (blk_lt (g := gb165) (o := .cells #[.string x166000_1, .string x166001_1, .string x166002_1, .string x166003_1, .slice none 0 0, .string x166005_1, .slice none 0 0] 24 (0, 0)) (by (with_reducible repeat (first | refine blk_drewN ?_ _ | refine blk_drew ?_ | refine blk_alloc ?_ _)); exact BK165.out)) : gb198 ≠ gb165)); have n10_ := Aside0.mk ((by rw [hg]; exact Nat.ne_of_lt (blk_lt (g := gb184) (o := .cells #[.string a0, .string x185001_83, .string x185002_83, .string t187, u185004, .string (⟨#[]⟩ : ByteArray), .slice none 0 0] 24 (0, 0)) (by (with_reducible repeat (first | refine blk_drewN ?_ _ | refine blk_drew ?_ | refine blk_alloc ?_ _)); exact BK184.out)) : gb184 ≠ gb198)); have n11_ := Aside0.mk ((by rw [hg]; exact Nat.ne_of_gt (blk_lt (g := gb184) (o := .cells #[.string a0, .string x185001_83, .string x185002_83, .string t187, u185004, .string (⟨#[]⟩ : ByteArray), .slice none 0 0] 24 (0, 0)) (by (with_reducible repeat (first | refine blk_drewN ?_ _ | refine blk_drew ?_ | refine blk_alloc ?_ _)); exact BK184.out)) : gb198 ≠ gb184)); clear HO_9; clear HO_185004; clear BK165; clear BK184; clear HB; have HO_9 := n0_; have HO_185004 := n1_; have BK165 := n2_; have BK184 := n3_; have HB := n4_; have BK198 := n5_; have GW198 := n6_; have GE198 := n7_; have NB165_198 := n8_; have NB198_165 := n9_; have NB184_198 := n10_; have NB198_184 := n11_; clear n0_ n1_ n2_ n3_ n4_ n5_ n6_ n7_ n8_ n9_ n10_ n11_; clear hb hbox hg; have hnb127 := NB198_165.out; have hnc127 := NB165_198.out; have hnb128 := NB198_184.out; have hnc128 := NB184_198.out; have hcz129_0 : w126.cell? ⟨gb198, 0, none⟩ = some (.string (⟨#[]⟩ : ByteArray)) := (blk_cell BK198.out 0).trans rfl; have hcz129_1 : w126.cell? ⟨gb198, 1, none⟩ = some (.string (⟨#[]⟩ : ByteArray)) := (blk_cell BK198.out 1).trans rfl; have hfz129_0 := blk_frozen BK198.out 0; have hfz129_1 := blk_frozen BK198.out 1) | ((with_reducible refine gate_callee (f := 23) rfl ?_); refine goesL_ (some 136) rfl rfl Tryd.func23 (by kernel_rfl) rfl #[.string ((rd_T30 l2 x130_4).f0)] rfl (by (try simp only [List.map_toArray, List.map_cons, List.map_nil]); first | done | rfl | (simp only [List.length_drop, List.length_take]; rfl)) ?_; (with_reducible refine (text_Lower.calls ((rd_T30 l2 x130_4).f0) t199 _ A99.out).mono ?_); rintro e w130 ⟨rfl, hb⟩; refine ⟨_, rfl, ?_⟩; have n0_ := Aside0.mk (MRI_below (by with_reducible repeat (first | exact HO_9.out | apply MRI_alloc | apply MRI_drewN | apply MRI_drew | apply MRI_set)) hb); have n1_ := Aside0.mk (Kd.R_below (by (with_reducible repeat (first | apply Kd.R_alloc | apply Kd.R_drewN | apply Kd.R_drew)); exact (Kd.R_mono (Kd.R_far (p := ⟨gb198, 1, none⟩) (Kd.R_far (p := ⟨gb198, 0, none⟩) (Kd.R_mono HO_185004.out (fun k_ hk => (⟨hk, hk.2⟩ : _ ∧ k_ ≠ gb198))) (fun _ hk => hk.2) (.string ((rd_T30 l2 x130_4).f0))) (fun _ hk => hk.2) (.string ((rd_T30 l2 x130_4).f1))) (fun _ h_ => h_.1))) hb); have n2_ := Aside0.mk (blk_below (g := gb165) (o := .cells #[.string x166000_1, .string x166001_1, .string x166002_1, .string x166003_1, .slice none 0 0, .string x166005_1, .slice none 0 0] 24 (0, 0)) (by (with_reducible repeat (first | refine blk_drewN ?_ _ | refine blk_drew ?_ | refine blk_alloc ?_ _)); refine blk_far ?_ NB165_198.out _; (with_reducible repeat (first | refine blk_drewN ?_ _ | refine blk_drew ?_ | refine blk_alloc ?_ _)); refine blk_far ?_ NB165_198.out _; (with_reducible repeat (first | refine blk_drewN ?_ _ | refine blk_drew ?_ | refine blk_alloc ?_ _)); exact BK165.out) hb); have n3_ := Aside0.mk (blk_below (g := gb184) (o := .cells #[.string a0, .string x185001_83, .string x185002_83, .string t187, u185004, .string (⟨#[]⟩ : ByteArray), .slice none 0 0] 24 (0, 0)) (by (with_reducible repeat (first | refine blk_drewN ?_ _ | refine blk_drew ?_ | refine blk_alloc ?_ _)); refine blk_far ?_ NB184_198.out _; (with_reducible repeat (first | refine blk_drewN ?_ _ | refine blk_drew ?_ | refine blk_alloc ?_ _)); refine blk_far ?_ NB184_198.out _; (with_reducible repeat (first | refine blk_drewN ?_ _ | refine blk_drew ?_ | refine blk_alloc ?_ _)); exact BK184.out) hb); have n4_ := Aside0.mk (blk_below (g := gb198) (o := .cells #[.string ((rd_T30 l2 x130_4).f0), .string ((rd_T30 l2 x130_4).f1)] 30 (0, 0)) (by (with_reducible repeat (first | refine blk_drewN ?_ _ | refine blk_drew ?_ | refine blk_alloc ?_ _)); refine blk_put (cs := #[.string ((rd_T30 l2 x130_4).f0), .string (⟨#[]⟩ : ByteArray)]) ?_ 1 _ rfl; (with_reducible repeat (first | refine blk_drewN ?_ _ | refine blk_drew ?_ | refine blk_alloc ?_ _)); refine blk_put (cs := #[.string (⟨#[]⟩ : ByteArray), .string (⟨#[]⟩ : ByteArray)]) ?_ 0 _ rfl; (with_reducible repeat (first | refine blk_drewN ?_ _ | refine blk_drew ?_ | refine blk_alloc ?_ _)); exact BK198.out) hb); have n5_ := Aside0.mk (below_step (by repeat (first | (with_reducible first | exact HB.out | apply below_alloc | apply pw_below_drewN | apply below_drew1 | refine below_set ?_ GE165.out | refine below_set ?_ GE184.out | refine below_set ?_ GE198.out) | exact HB.out)) hb); clear HO_9; clear HO_185004; clear BK165; clear BK184; clear BK198; clear HB; have HO_9 := n0_; have HO_185004 := n1_; have BK165 := n2_; have BK184 := n3_; have BK198 := n4_; have HB := n5_; clear n0_ n1_ n2_ n3_ n4_ n5_; (try clear hb); (try clear hb2); (try clear hk); (try clear hi); have hcz131_0 : w130.cell? ⟨gb198, 0, none⟩ = some (.string ((rd_T30 l2 x130_4).f0)) := (blk_cell BK198.out 0).trans rfl; have hcz131_1 : w130.cell? ⟨gb198, 1, none⟩ = some (.string ((rd_T30 l2 x130_4).f1)) := (blk_cell BK198.out 1).trans rfl; have hfz131_0 := blk_frozen BK198.out 0; have hfz131_1 := blk_frozen BK198.out 1) | (go_at_call 8; (with_reducible refine (msg_Bound.calls t199 false _ A114.out).mono ?_); rintro e w132 ⟨rfl, hb⟩; have n0_ := Aside0.mk (MRI_below (by with_reducible repeat (first | exact HO_9.out | apply MRI_alloc | apply MRI_drewN | apply MRI_drew | apply MRI_set)) hb); have n1_ := Aside0.mk (Kd.R_below (by (with_reducible repeat (first | apply Kd.R_alloc | apply Kd.R_drewN | apply Kd.R_drew)); exact (Kd.R_mono (Kd.R_far (p := ⟨gb198, 0, none⟩) (Kd.R_mono HO_185004.out (fun k_ hk => (⟨hk, hk.2⟩ : _ ∧ k_ ≠ gb198))) (fun _ hk => hk.2) (.string t199)) (fun _ h_ => h_.1))) hb); have n2_ := Aside0.mk (blk_below (g := gb165) (o := .cells #[.string x166000_1, .string x166001_1, .string x166002_1, .string x166003_1, .slice none 0 0, .string x166005_1, .slice none 0 0] 24 (0, 0)) (by (with_reducible repeat (first | refine blk_drewN ?_ _ | refine blk_drew ?_ | refine blk_alloc ?_ _)); refine blk_far ?_ NB165_198.out _; (with_reducible repeat (first | refine blk_drewN ?_ _ | refine blk_drew ?_ | refine blk_alloc ?_ _)); exact BK165.out) hb); have n3_ := Aside0.mk (blk_below (g := gb184) (o := .cells #[.string a0, .string x185001_83, .string x185002_83, .string t187, u185004, .string (⟨#[]⟩ : ByteArray), .slice none 0 0] 24 (0, 0)) (by (with_reducible repeat (first | refine blk_drewN ?_ _ | refine blk_drew ?_ | refine blk_alloc ?_ _)); refine blk_far ?_ NB184_198.out _; (with_reducible repeat (first | refine blk_drewN ?_ _ | refine blk_drew ?_ | refine blk_alloc ?_ _)); exact BK184.out) hb); have n4_ := Aside0.mk (blk_below (g := gb198) (o := .cells #[.string t199, .string ((rd_T30 l2 x130_4).f1)] 30 (0, 0)) (by (with_reducible repeat (first | refine blk_drewN ?_ _ | refine blk_drew ?_ | refine blk_alloc ?_ _)); refine blk_put (cs := #[.string ((rd_T30 l2 x130_4).f0), .string ((rd_T30 l2 x130_4).f1)]) ?_ 0 _ rfl; (with_reducible repeat (first | refine blk_drewN ?_ _ | refine blk_drew ?_ | refine blk_alloc ?_ _)); exact BK198.out) hb); have n5_ := Aside0.mk (below_step (by repeat (first | (with_reducible first | exact HB.out | apply below_alloc | apply pw_below_drewN | apply below_drew1 | refine below_set ?_ GE165.out | refine below_set ?_ GE184.out | refine below_set ?_ GE198.out) | exact HB.out)) hb); clear HO_9; clear HO_185004; clear BK165; clear BK184; clear BK198; clear HB; have HO_9 := n0_; have HO_185004 := n1_; have BK165 := n2_; have BK184 := n3_; have BK198 := n4_; have HB := n5_; clear n0_ n1_ n2_ n3_ n4_ n5_; (try clear hb); (try clear hb2); (try clear hk); (try clear hi); have hcz133_0 : w132.cell? ⟨gb198, 0, none⟩ = some (.string t199) := (blk_cell BK198.out 0).trans rfl; have hcz133_1 : w132.cell? ⟨gb198, 1, none⟩ = some (.string ((rd_T30 l2 x130_4).f1)) := (blk_cell BK198.out 1).trans rfl; have hfz133_0 := blk_frozen BK198.out 0; have hfz133_1 := blk_frozen BK198.out 1) | ((with_reducible refine gate_dst (N := 156) rfl ?_); refine gate_guard (by rfl) ?_; dsimp only; refine matIL 156 rfl rfl _ _ rfl _ rfl rfl (by with_reducible repeat (first | exact HO_9.out | apply MRI_alloc | apply MRI_drewN | apply MRI_drew | apply MRI_set)) A123.out ?_; intro w135 hb; have n0_ := Aside0.mk (MRI_below (by with_reducible repeat (first | exact HO_9.out | apply MRI_alloc | apply MRI_drewN | apply MRI_drew | apply MRI_set)) hb); have n1_ := Aside0.mk (Kd.R_below (by (with_reducible repeat (first | apply Kd.R_alloc | apply Kd.R_drewN | apply Kd.R_drew)); exact HO_185004.out) hb); have n2_ := Aside0.mk (blk_below (g := gb165) (o := .cells #[.string x166000_1, .string x166001_1, .string x166002_1, .string x166003_1, .slice none 0 0, .string x166005_1, .slice none 0 0] 24 (0, 0)) (by (with_reducible repeat (first | refine blk_drewN ?_ _ | refine blk_drew ?_ | refine blk_alloc ?_ _)); exact BK165.out) hb); have n3_ := Aside0.mk (blk_below (g := gb184) (o := .cells #[.string a0, .string x185001_83, .string x185002_83, .string t187, u185004, .string (⟨#[]⟩ : ByteArray), .slice none 0 0] 24 (0, 0)) (by (with_reducible repeat (first | refine blk_drewN ?_ _ | refine blk_drew ?_ | refine blk_alloc ?_ _)); exact BK184.out) hb); have n4_ := Aside0.mk (blk_below (g := gb198) (o := .cells #[.string t199, .string ((rd_T30 l2 x130_4).f1)] 30 (0, 0)) (by (with_reducible repeat (first | refine blk_drewN ?_ _ | refine blk_drew ?_ | refine blk_alloc ?_ _)); exact BK198.out) hb); have n5_ := Aside0.mk (below_step (by repeat (first | (with_reducible first | exact HB.out | apply below_alloc | apply pw_below_drewN | apply below_drew1 | refine below_set ?_ GE165.out | refine below_set ?_ GE184.out | refine below_set ?_ GE198.out) | exact HB.out)) hb); clear HO_9; clear HO_185004; clear BK165; clear BK184; clear BK198; clear HB; have HO_9 := n0_; have HO_185004 := n1_; have BK165 := n2_; have BK184 := n3_; have BK198 := n4_; have HB := n5_; clear n0_ n1_ n2_ n3_ n4_ n5_; (try clear hb); (try clear hb2); (try clear hk); (try clear hi); have hnb136 := NB184_165.out; have hnc136 := NB165_184.out; have hcz137_0 : w135.cell? ⟨gb184, 0, none⟩ = some (.string a0) := (blk_cell BK184.out 0).trans rfl; have hcz137_1 : w135.cell? ⟨gb184, 1, none⟩ = some (.string x185001_83) := (blk_cell BK184.out 1).trans rfl; have hcz137_2 : w135.cell? ⟨gb184, 2, none⟩ = some (.string x185002_83) := (blk_cell BK184.out 2).trans rfl; have hcz137_3 : w135.cell? ⟨gb184, 3, none⟩ = some (.string t187) := (blk_cell BK184.out 3).trans rfl; have hcz137_4 : w135.cell? ⟨gb184, 4, none⟩ = some (u185004) := (blk_cell BK184.out 4).trans rfl; have hcz137_5 : w135.cell? ⟨gb184, 5, none⟩ = some (.string (⟨#[]⟩ : ByteArray)) := (blk_cell BK184.out 5).trans rfl; have hcz137_6 : w135.cell? ⟨gb184, 6, none⟩ = some (.slice none 0 0) := (blk_cell BK184.out 6).trans rfl; have hfz137_0 := blk_frozen BK184.out 0; have hfz137_1 := blk_frozen BK184.out 1; have hfz137_2 := blk_frozen BK184.out 2; have hfz137_3 := blk_frozen BK184.out 3; have hfz137_4 := blk_frozen BK184.out 4; have hfz137_5 := blk_frozen BK184.out 5; have hfz137_6 := blk_frozen BK184.out 6; have hcz138_0 : w135.cell? ⟨gb198, 0, none⟩ = some (.string t199) := (blk_cell BK198.out 0).trans rfl; have hcz138_1 : w135.cell? ⟨gb198, 1, none⟩ = some (.string ((rd_T30 l2 x130_4).f1)) := (blk_cell BK198.out 1).trans rfl; have hfz138_0 := blk_frozen BK198.out 0; have hfz138_1 := blk_frozen BK198.out 1) | ((with_reducible refine gate_builtin (b := .append) (xs := #[.tmp 160, .tmp 162]) rfl ?_); at_builtin; refine Kd.R_append k30 (w0 := w) w.heap.size rfl (.tmp 160) (.tmp 162) 22 30 (.agg #[(.string ⟨#[]⟩), (.string ⟨#[]⟩)]) 32 rfl Tryd.underlying22 info30 rfl (by decide) (by omega) u185004 x185004_4 (⟨t199, (rd_T30 l2 x130_4).f1⟩ : S30) [.string t199, .string ((rd_T30 l2 x130_4).f1)] (fun k_ => True ∧ k_ ≠ gb198) (fun _ => False) rfl rfl ?aP (fun _ hk => hk.elim) ?aF ?aO ?aB ?aS ?aL ?_; (case aP => exact k30_mkM _ _ _ (⟨t199, (rd_T30 l2 x130_4).f1⟩ : S30)); (case aB => exact (by repeat (first | (with_reducible first | exact HB.out | apply below_alloc | apply pw_below_drewN | apply below_drew1 | refine below_set ?_ GE165.out | refine below_set ?_ GE184.out | refine below_set ?_ GE198.out) | exact HB.out))); (case aF => exact (fun k_ hk => ⟨trivial, Kd.freshB (g := gb198) (o := .cells #[.string t199, .string ((rd_T30 l2 x130_4).f1)] 30 (0, 0)) (by (with_reducible repeat (first | refine blk_drewN ?_ _ | refine blk_drew ?_ | refine blk_alloc ?_ _)); exact BK198.out) k_ hk⟩)); (case aO => exact (by (with_reducible repeat (first | apply Kd.R_alloc | apply Kd.R_drewN | apply Kd.R_drew)); exact HO_185004.out)); (case aS => exact (below_size (by repeat (first | (with_reducible first | exact HB.out | apply below_alloc | apply pw_below_drewN | apply below_drew1 | refine below_set ?_ GE165.out | refine below_set ?_ GE184.out | refine below_set ?_ GE198.out) | exact HB.out)))); (case aL => have := LMc125.out; omega); intro v203 w139 ho hb hg hat; rw [← Ny202.out] at ho; have n0_ := Aside0.mk (MRI_over (by with_reducible repeat (first | exact HO_9.out | apply MRI_alloc | apply MRI_drewN | apply MRI_drew | apply MRI_set)) (Kd.R_mono (by (with_reducible repeat (first | apply Kd.R_alloc | apply Kd.R_drewN | apply Kd.R_drew)); exact HO_185004.out) (fun _ _ => trivial)) hg); have n1_ := Aside0.mk (blk_grown (g := gb165) (o := .cells #[.string x166000_1, .string x166001_1, .string x166002_1, .string x166003_1, .slice none 0 0, .string x166005_1, .slice none 0 0] 24 (0, 0)) (by (with_reducible repeat (first | refine blk_drewN ?_ _ | refine blk_drew ?_ | refine blk_alloc ?_ _)); exact BK165.out) hg (Kd.R_ne HO_185004.out BK165.out (by decide))); have n2_ := Aside0.mk (blk_grown (g := gb184) (o := .cells #[.string a0, .string x185001_83, .string x185002_83, .string t187, u185004, .string (⟨#[]⟩ : ByteArray), .slice none 0 0] 24 (0, 0)) (by (with_reducible repeat (first | refine blk_drewN ?_ _ | refine blk_drew ?_ | refine blk_alloc ?_ _)); exact BK184.out) hg (Kd.R_ne HO_185004.out BK184.out (by decide))); have n3_ := Aside0.mk (blk_grown (g := gb198) (o := .cells #[.string t199, .string ((rd_T30 l2 x130_4).f1)] 30 (0, 0)) (by (with_reducible repeat (first | refine blk_drewN ?_ _ | refine blk_drew ?_ | refine blk_alloc ?_ _)); exact BK198.out) hg (Kd.R_away HO_185004.out (fun _ hk => hk.2))); have n4_ := Aside0.mk (hb); have n5_ := Aside0.mk (ho); clear HO_9; clear BK165; clear BK184; clear BK198; clear HB; clear HO_185004; have HO_9 := n0_; have BK165 := n1_; have BK184 := n2_; have BK198 := n3_; have HB := n4_; have HO204 := n5_; clear n0_ n1_ n2_ n3_ n4_ n5_; clear ho hb hg hat; obtain ⟨Ao140, co140, eo140⟩ := Kd.R_slice HO204.out; subst eo140; have hcz141_0 : w139.cell? ⟨gb184, 0, none⟩ = some (.string a0) := (blk_cell BK184.out 0).trans rfl; have hcz141_1 : w139.cell? ⟨gb184, 1, none⟩ = some (.string x185001_83) := (blk_cell BK184.out 1).trans rfl; have hcz141_2 : w139.cell? ⟨gb184, 2, none⟩ = some (.string x185002_83) := (blk_cell BK184.out 2).trans rfl; have hcz141_3 : w139.cell? ⟨gb184, 3, none⟩ = some (.string t187) := (blk_cell BK184.out 3).trans rfl; have hcz141_4 : w139.cell? ⟨gb184, 4, none⟩ = some (u185004) := (blk_cell BK184.out 4).trans rfl; have hcz141_5 : w139.cell? ⟨gb184, 5, none⟩ = some (.string (⟨#[]⟩ : ByteArray)) := (blk_cell BK184.out 5).trans rfl; have hcz141_6 : w139.cell? ⟨gb184, 6, none⟩ = some (.slice none 0 0) := (blk_cell BK184.out 6).trans rfl; have hfz141_0 := blk_frozen BK184.out 0; have hfz141_1 := blk_frozen BK184.out 1; have hfz141_2 := blk_frozen BK184.out 2; have hfz141_3 := blk_frozen BK184.out 3; have hfz141_4 := blk_frozen BK184.out 4; have hfz141_5 := blk_frozen BK184.out 5; have hfz141_6 := blk_frozen BK184.out 6))
                      go_roundg k4
                      case measure => have := HK1.out; have := HJ55.out; have := HJ83.out; have := HK4.out; omega
                      case rel => exact ⟨(wrap64 (x130_4 + 1)), (y202), (.slice Ao140 y202.length co140), (by first | rfl | (simp; done) | (simp [*]; done) | (simp [bne_nil_]; done) | (simp only [ByteArray.size_append, Int.natCast_add]; rfl)), H', ⟨by have := HK1.out; have := HJ55.out; have := HJ83.out; have := HK4.out; omega⟩, ⟨by with_reducible repeat (first | exact HO_9.out | apply MRI_alloc | apply MRI_drewN | apply MRI_drew | apply MRI_set)⟩, ⟨by (with_reducible repeat (first | apply Kd.R_alloc | apply Kd.R_drewN | apply Kd.R_drew)); exact Kd.R_mono (Kd.R_far (p := ⟨gb184, 4, none⟩) (Kd.R_types HO204.out BK184.out (by decide)) (fun _ hk => hk.2) (.slice Ao140 y202.length co140)) (fun _ _ => trivial)⟩, ⟨by (with_reducible repeat (first | refine blk_drewN ?_ _ | refine blk_drew ?_ | refine blk_alloc ?_ _)); refine blk_far ?_ NB165_184.out _; (with_reducible repeat (first | refine blk_drewN ?_ _ | refine blk_drew ?_ | refine blk_alloc ?_ _)); exact BK165.out⟩, ⟨by (with_reducible repeat (first | refine blk_drewN ?_ _ | refine blk_drew ?_ | refine blk_alloc ?_ _)); refine blk_put (cs := #[.string a0, .string x185001_83, .string x185002_83, .string t187, u185004, .string (⟨#[]⟩ : ByteArray), .slice none 0 0]) ?_ 4 _ rfl; (with_reducible repeat (first | refine blk_drewN ?_ _ | refine blk_drew ?_ | refine blk_alloc ?_ _)); exact BK184.out⟩, ⟨by repeat (first | (with_reducible first | exact HB.out | apply below_alloc | apply pw_below_drewN | apply below_drew1 | refine below_set ?_ GE165.out | refine below_set ?_ GE184.out | refine below_set ?_ GE198.out) | exact HB.out)⟩⟩
                     ·
                      rw [if_neg c125] at H
                      exact absurd H (by simp)
                    ·
                     rw [if_neg c124] at H
                     have c124b0 : (t201 == 0) = false := beq_eq_false_iff_ne.mpr c124
                     have c124b1 : (t201 != 0) = true := bne_iff_ne.mpr c124
                     have H' := Aside0.mk H
                     clear H
                     have p197 : 0 ≤ (x130_4 : Int) := of_decide_eq_true (by first | (with_reducible assumption) | assumption)
                     have q197 : x130_4 < (l2.length : Int) := of_decide_eq_true (by first | (with_reducible assumption) | assumption)
                     obtain ⟨ad197, e197, hx197_0, hx197_1⟩ := at_T30 HR2.out x130_4 p197 q197
                     cases e197
                     replace hx197_0 := (HB.out.cell (World.block_lt_of_cell? w _ hx197_0)).trans hx197_0
                     replace hx197_1 := (HB.out.cell (World.block_lt_of_cell? w _ hx197_1)).trans hx197_1
                     replace p197 := eq_true p197
                     replace q197 := eq_true q197
                     go_wp2_with (first | ((with_reducible refine gate_dst (N := 19) rfl ?_); refine box_event ?hg (N := 19) ?hd (cs := #[.string (⟨#[]⟩ : ByteArray), .string (⟨#[]⟩ : ByteArray)]) (t := 30) ?hr ?_; (case hd => rfl); (case hg => rfl); (case hr => first | (go_simp; done) | (go_simp; rfl)); intro gb198 hg w142 hbox hb; have n0_ := Aside0.mk (MRI_below (by with_reducible repeat (first | exact HO_9.out | apply MRI_alloc | apply MRI_drewN | apply MRI_drew | apply MRI_set)) hb); have n1_ := Aside0.mk (Kd.R_below (Kd.R_elderB (by (with_reducible repeat (first | apply Kd.R_alloc | apply Kd.R_drewN | apply Kd.R_drew)); exact HO_185004.out) gb198 (Nat.le_of_eq hg.symm)) hb); have n2_ := Aside0.mk (blk_below (g := gb165) (o := .cells #[.string x166000_1, .string x166001_1, .string x166002_1, .string x166003_1, .slice none 0 0, .string x166005_1, .slice none 0 0] 24 (0, 0)) (by (with_reducible repeat (first | refine blk_drewN ?_ _ | refine blk_drew ?_ | refine blk_alloc ?_ _)); exact BK165.out) hb); have n3_ := Aside0.mk (blk_below (g := gb184) (o := .cells #[.string a0, .string x185001_83, .string x185002_83, .string t187, u185004, .string (⟨#[]⟩ : ByteArray), .slice none 0 0] 24 (0, 0)) (by (with_reducible repeat (first | refine blk_drewN ?_ _ | refine blk_drew ?_ | refine blk_alloc ?_ _)); exact BK184.out) hb); have n4_ := Aside0.mk (below_step (by repeat (first | (with_reducible first | exact HB.out | apply below_alloc | apply pw_below_drewN | apply below_drew1 | refine below_set ?_ GE165.out | refine below_set ?_ GE184.out) | exact HB.out)) hb); have n5_ := Aside0.mk (hbox); have n6_ := Aside0.mk ((by rw [hg]; exact (below_size (by repeat (first | (with_reducible first | exact HB.out | apply below_alloc | apply pw_below_drewN | apply below_drew1 | refine below_set ?_ GE165.out | refine below_set ?_ GE184.out) | exact HB.out))) : w.heap.size ≤ gb198)); have n7_ := Aside0.mk ((by rw [hg]; exact (below_size (by repeat (first | (with_reducible first | exact HB.out | apply below_alloc | apply pw_below_drewN | apply below_drew1 | refine below_set ?_ GE165.out | refine below_set ?_ GE184.out) | exact HB.out))) : w.heap.size ≤ gb198)); have n8_ := Aside0.mk ((by rw [hg]; exact Nat.ne_of_lt (blk_lt (g := gb165) (o := .cells #[.string x166000_1, .string x166001_1, .string x166002_1, .string x166003_1, .slice none 0 0, .string x166005_1, .slice none 0 0] 24 (0, 0)) (by (with_reducible repeat (first | refine blk_drewN ?_ _ | refine blk_drew ?_ | refine blk_alloc ?_ _)); exact BK165.out)) : gb165 ≠ gb198)); have n9_ := Aside0.mk ((by rw [hg]; exact Nat.ne_of_gt (blk_lt (g := gb165) (o := .cells #[.string x166000_1, .string x166001_1, .string x166002_1, .string x166003_1, .slice none 0 0, .string x166005_1, .slice none 0 0] 24 (0, 0)) (by (with_reducible repeat (first | refine blk_drewN ?_ _ | refine blk_drew ?_ | refine blk_alloc ?_ _)); exact BK165.out)) : gb198 ≠ gb165)); have n10_ := Aside0.mk ((by rw [hg]; exact Nat.ne_of_lt (blk_lt (g := gb184) (o := .cells #[.string a0, .string x185001_83, .string x185002_83, .string t187, u185004, .string (⟨#[]⟩ : ByteArray), .slice none 0 0] 24 (0, 0)) (by (with_reducible repeat (first | refine blk_drewN ?_ _ | refine blk_drew ?_ | refine blk_alloc ?_ _)); exact BK184.out)) : gb184 ≠ gb198)); have n11_ := Aside0.mk ((by rw [hg]; exact Nat.ne_of_gt (blk_lt (g := gb184) (o := .cells #[.string a0, .string x185001_83, .string x185002_83, .string t187, u185004, .string (⟨#[]⟩ : ByteArray), .slice none 0 0] 24 (0, 0)) (by (with_reducible repeat (first | refine blk_drewN ?_ _ | refine blk_drew ?_ | refine blk_alloc ?_ _)); exact BK184.out)) : gb198 ≠ gb184)); clear HO_9; clear HO_185004; clear BK165; clear BK184; clear HB; have HO_9 := n0_; have HO_185004 := n1_; have BK165 := n2_; have BK184 := n3_; have HB := n4_; have BK198 := n5_; have GW198 := n6_; have GE198 := n7_; have NB165_198 := n8_; have NB198_165 := n9_; have NB184_198 := n10_; have NB198_184 := n11_; clear n0_ n1_ n2_ n3_ n4_ n5_ n6_ n7_ n8_ n9_ n10_ n11_; clear hb hbox hg; have hnb143 := NB198_165.out; have hnc143 := NB165_198.out; have hnb144 := NB198_184.out; have hnc144 := NB184_198.out; have hcz145_0 : w142.cell? ⟨gb198, 0, none⟩ = some (.string (⟨#[]⟩ : ByteArray)) := (blk_cell BK198.out 0).trans rfl; have hcz145_1 : w142.cell? ⟨gb198, 1, none⟩ = some (.string (⟨#[]⟩ : ByteArray)) := (blk_cell BK198.out 1).trans rfl; have hfz145_0 := blk_frozen BK198.out 0; have hfz145_1 := blk_frozen BK198.out 1) | ((with_reducible refine gate_callee (f := 23) rfl ?_); refine goesL_ (some 136) rfl rfl Tryd.func23 (by kernel_rfl) rfl #[.string ((rd_T30 l2 x130_4).f0)] rfl (by (try simp only [List.map_toArray, List.map_cons, List.map_nil]); first | done | rfl | (simp only [List.length_drop, List.length_take]; rfl)) ?_; (with_reducible refine (text_Lower.calls ((rd_T30 l2 x130_4).f0) t199 _ A99.out).mono ?_); rintro e w146 ⟨rfl, hb⟩; refine ⟨_, rfl, ?_⟩; have n0_ := Aside0.mk (MRI_below (by with_reducible repeat (first | exact HO_9.out | apply MRI_alloc | apply MRI_drewN | apply MRI_drew | apply MRI_set)) hb); have n1_ := Aside0.mk (Kd.R_below (by (with_reducible repeat (first | apply Kd.R_alloc | apply Kd.R_drewN | apply Kd.R_drew)); exact (Kd.R_mono (Kd.R_far (p := ⟨gb198, 1, none⟩) (Kd.R_far (p := ⟨gb198, 0, none⟩) (Kd.R_mono HO_185004.out (fun k_ hk => (⟨hk, hk.2⟩ : _ ∧ k_ ≠ gb198))) (fun _ hk => hk.2) (.string ((rd_T30 l2 x130_4).f0))) (fun _ hk => hk.2) (.string ((rd_T30 l2 x130_4).f1))) (fun _ h_ => h_.1))) hb); have n2_ := Aside0.mk (blk_below (g := gb165) (o := .cells #[.string x166000_1, .string x166001_1, .string x166002_1, .string x166003_1, .slice none 0 0, .string x166005_1, .slice none 0 0] 24 (0, 0)) (by (with_reducible repeat (first | refine blk_drewN ?_ _ | refine blk_drew ?_ | refine blk_alloc ?_ _)); refine blk_far ?_ NB165_198.out _; (with_reducible repeat (first | refine blk_drewN ?_ _ | refine blk_drew ?_ | refine blk_alloc ?_ _)); refine blk_far ?_ NB165_198.out _; (with_reducible repeat (first | refine blk_drewN ?_ _ | refine blk_drew ?_ | refine blk_alloc ?_ _)); exact BK165.out) hb); have n3_ := Aside0.mk (blk_below (g := gb184) (o := .cells #[.string a0, .string x185001_83, .string x185002_83, .string t187, u185004, .string (⟨#[]⟩ : ByteArray), .slice none 0 0] 24 (0, 0)) (by (with_reducible repeat (first | refine blk_drewN ?_ _ | refine blk_drew ?_ | refine blk_alloc ?_ _)); refine blk_far ?_ NB184_198.out _; (with_reducible repeat (first | refine blk_drewN ?_ _ | refine blk_drew ?_ | refine blk_alloc ?_ _)); refine blk_far ?_ NB184_198.out _; (with_reducible repeat (first | refine blk_drewN ?_ _ | refine blk_drew ?_ | refine blk_alloc ?_ _)); exact BK184.out) hb); have n4_ := Aside0.mk (blk_below (g := gb198) (o := .cells #[.string ((rd_T30 l2 x130_4).f0), .string ((rd_T30 l2 x130_4).f1)] 30 (0, 0)) (by (with_reducible repeat (first | refine blk_drewN ?_ _ | refine blk_drew ?_ | refine blk_alloc ?_ _)); refine blk_put (cs := #[.string ((rd_T30 l2 x130_4).f0), .string (⟨#[]⟩ : ByteArray)]) ?_ 1 _ rfl; (with_reducible repeat (first | refine blk_drewN ?_ _ | refine blk_drew ?_ | refine blk_alloc ?_ _)); refine blk_put (cs := #[.string (⟨#[]⟩ : ByteArray), .string (⟨#[]⟩ : ByteArray)]) ?_ 0 _ rfl; (with_reducible repeat (first | refine blk_drewN ?_ _ | refine blk_drew ?_ | refine blk_alloc ?_ _)); exact BK198.out) hb); have n5_ := Aside0.mk (below_step (by repeat (first | (with_reducible first | exact HB.out | apply below_alloc | apply pw_below_drewN | apply below_drew1 | refine below_set ?_ GE165.out | refine below_set ?_ GE184.out | refine below_set ?_ GE198.out) | exact HB.out)) hb); clear HO_9; clear HO_185004; clear BK165; clear BK184; clear BK198; clear HB; have HO_9 := n0_; have HO_185004 := n1_; have BK165 := n2_; have BK184 := n3_; have BK198 := n4_; have HB := n5_; clear n0_ n1_ n2_ n3_ n4_ n5_; (try clear hb); (try clear hb2); (try clear hk); (try clear hi); have hcz147_0 : w146.cell? ⟨gb198, 0, none⟩ = some (.string ((rd_T30 l2 x130_4).f0)) := (blk_cell BK198.out 0).trans rfl; have hcz147_1 : w146.cell? ⟨gb198, 1, none⟩ = some (.string ((rd_T30 l2 x130_4).f1)) := (blk_cell BK198.out 1).trans rfl; have hfz147_0 := blk_frozen BK198.out 0; have hfz147_1 := blk_frozen BK198.out 1) | (go_at_call 8; (with_reducible refine (msg_Bound.calls t199 false _ A114.out).mono ?_); rintro e w148 ⟨rfl, hb⟩; have n0_ := Aside0.mk (MRI_below (by with_reducible repeat (first | exact HO_9.out | apply MRI_alloc | apply MRI_drewN | apply MRI_drew | apply MRI_set)) hb); have n1_ := Aside0.mk (Kd.R_below (by (with_reducible repeat (first | apply Kd.R_alloc | apply Kd.R_drewN | apply Kd.R_drew)); exact (Kd.R_mono (Kd.R_far (p := ⟨gb198, 0, none⟩) (Kd.R_mono HO_185004.out (fun k_ hk => (⟨hk, hk.2⟩ : _ ∧ k_ ≠ gb198))) (fun _ hk => hk.2) (.string t199)) (fun _ h_ => h_.1))) hb); have n2_ := Aside0.mk (blk_below (g := gb165) (o := .cells #[.string x166000_1, .string x166001_1, .string x166002_1, .string x166003_1, .slice none 0 0, .string x166005_1, .slice none 0 0] 24 (0, 0)) (by (with_reducible repeat (first | refine blk_drewN ?_ _ | refine blk_drew ?_ | refine blk_alloc ?_ _)); refine blk_far ?_ NB165_198.out _; (with_reducible repeat (first | refine blk_drewN ?_ _ | refine blk_drew ?_ | refine blk_alloc ?_ _)); exact BK165.out) hb); have n3_ := Aside0.mk (blk_below (g := gb184) (o := .cells #[.string a0, .string x185001_83, .string x185002_83, .string t187, u185004, .string (⟨#[]⟩ : ByteArray), .slice none 0 0] 24 (0, 0)) (by (with_reducible repeat (first | refine blk_drewN ?_ _ | refine blk_drew ?_ | refine blk_alloc ?_ _)); refine blk_far ?_ NB184_198.out _; (with_reducible repeat (first | refine blk_drewN ?_ _ | refine blk_drew ?_ | refine blk_alloc ?_ _)); exact BK184.out) hb); have n4_ := Aside0.mk (blk_below (g := gb198) (o := .cells #[.string t199, .string ((rd_T30 l2 x130_4).f1)] 30 (0, 0)) (by (with_reducible repeat (first | refine blk_drewN ?_ _ | refine blk_drew ?_ | refine blk_alloc ?_ _)); refine blk_put (cs := #[.string ((rd_T30 l2 x130_4).f0), .string ((rd_T30 l2 x130_4).f1)]) ?_ 0 _ rfl; (with_reducible repeat (first | refine blk_drewN ?_ _ | refine blk_drew ?_ | refine blk_alloc ?_ _)); exact BK198.out) hb); have n5_ := Aside0.mk (below_step (by repeat (first | (with_reducible first | exact HB.out | apply below_alloc | apply pw_below_drewN | apply below_drew1 | refine below_set ?_ GE165.out | refine below_set ?_ GE184.out | refine below_set ?_ GE198.out) | exact HB.out)) hb); clear HO_9; clear HO_185004; clear BK165; clear BK184; clear BK198; clear HB; have HO_9 := n0_; have HO_185004 := n1_; have BK165 := n2_; have BK184 := n3_; have BK198 := n4_; have HB := n5_; clear n0_ n1_ n2_ n3_ n4_ n5_; (try clear hb); (try clear hb2); (try clear hk); (try clear hi); have hcz149_0 : w148.cell? ⟨gb198, 0, none⟩ = some (.string t199) := (blk_cell BK198.out 0).trans rfl; have hcz149_1 : w148.cell? ⟨gb198, 1, none⟩ = some (.string ((rd_T30 l2 x130_4).f1)) := (blk_cell BK198.out 1).trans rfl; have hfz149_0 := blk_frozen BK198.out 0; have hfz149_1 := blk_frozen BK198.out 1) | ((with_reducible refine gate_dst (N := 156) rfl ?_); refine gate_guard (by rfl) ?_; dsimp only; refine matIL 156 rfl rfl _ _ rfl _ rfl rfl (by with_reducible repeat (first | exact HO_9.out | apply MRI_alloc | apply MRI_drewN | apply MRI_drew | apply MRI_set)) A123.out ?_; intro w151 hb; have n0_ := Aside0.mk (MRI_below (by with_reducible repeat (first | exact HO_9.out | apply MRI_alloc | apply MRI_drewN | apply MRI_drew | apply MRI_set)) hb); have n1_ := Aside0.mk (Kd.R_below (by (with_reducible repeat (first | apply Kd.R_alloc | apply Kd.R_drewN | apply Kd.R_drew)); exact HO_185004.out) hb); have n2_ := Aside0.mk (blk_below (g := gb165) (o := .cells #[.string x166000_1, .string x166001_1, .string x166002_1, .string x166003_1, .slice none 0 0, .string x166005_1, .slice none 0 0] 24 (0, 0)) (by (with_reducible repeat (first | refine blk_drewN ?_ _ | refine blk_drew ?_ | refine blk_alloc ?_ _)); exact BK165.out) hb); have n3_ := Aside0.mk (blk_below (g := gb184) (o := .cells #[.string a0, .string x185001_83, .string x185002_83, .string t187, u185004, .string (⟨#[]⟩ : ByteArray), .slice none 0 0] 24 (0, 0)) (by (with_reducible repeat (first | refine blk_drewN ?_ _ | refine blk_drew ?_ | refine blk_alloc ?_ _)); exact BK184.out) hb); have n4_ := Aside0.mk (blk_below (g := gb198) (o := .cells #[.string t199, .string ((rd_T30 l2 x130_4).f1)] 30 (0, 0)) (by (with_reducible repeat (first | refine blk_drewN ?_ _ | refine blk_drew ?_ | refine blk_alloc ?_ _)); exact BK198.out) hb); have n5_ := Aside0.mk (below_step (by repeat (first | (with_reducible first | exact HB.out | apply below_alloc | apply pw_below_drewN | apply below_drew1 | refine below_set ?_ GE165.out | refine below_set ?_ GE184.out | refine below_set ?_ GE198.out) | exact HB.out)) hb); clear HO_9; clear HO_185004; clear BK165; clear BK184; clear BK198; clear HB; have HO_9 := n0_; have HO_185004 := n1_; have BK165 := n2_; have BK184 := n3_; have BK198 := n4_; have HB := n5_; clear n0_ n1_ n2_ n3_ n4_ n5_; (try clear hb); (try clear hb2); (try clear hk); (try clear hi)))
                     go_roundg k4
                     case measure => have := HK1.out; have := HJ55.out; have := HJ83.out; have := HK4.out; omega
                     case rel => exact ⟨(wrap64 (x130_4 + 1)), (x185004_4), (u185004), (by first | rfl | (simp; done) | (simp [*]; done) | (simp [bne_nil_]; done) | (simp only [ByteArray.size_append, Int.natCast_add]; rfl)), H', ⟨by have := HK1.out; have := HJ55.out; have := HJ83.out; have := HK4.out; omega⟩, ⟨by with_reducible repeat (first | exact HO_9.out | apply MRI_alloc | apply MRI_drewN | apply MRI_drew | apply MRI_set)⟩, ⟨by (with_reducible repeat (first | apply Kd.R_alloc | apply Kd.R_drewN | apply Kd.R_drew)); exact Kd.R_mono HO_185004.out (fun _ _ => trivial)⟩, ⟨by (with_reducible repeat (first | refine blk_drewN ?_ _ | refine blk_drew ?_ | refine blk_alloc ?_ _)); exact BK165.out⟩, ⟨by (with_reducible repeat (first | refine blk_drewN ?_ _ | refine blk_drew ?_ | refine blk_alloc ?_ _)); exact BK184.out⟩, ⟨by repeat (first | (with_reducible first | exact HB.out | apply below_alloc | apply pw_below_drewN | apply below_drew1 | refine below_set ?_ GE165.out | refine below_set ?_ GE184.out | refine below_set ?_ GE198.out) | exact HB.out)⟩⟩
                ·
                 rw [if_neg c98] at H
                 exact absurd H (by simp)
               ·
                rw [if_neg c97] at H
                exact absurd H (by simp)
              ·
               rw [if_neg c96] at H
               have c96b0 : decide (x130_4 < (l2.length : Int)) = false := decide_eq_false c96
               clear c96
               simp only [Option.some.injEq, Prod.mk.injEq] at H
               obtain ⟨rfl, rfl, rfl, rfl, rfl, rfl, rfl, rfl⟩ := H
               have hnb152 := NB184_165.out
               have hnc152 := NB165_184.out
               have hcz153_0 : wr.cell? ⟨gb184, 0, none⟩ = some (.string a0) := (blk_cell BK184.out 0).trans rfl
               have hcz153_1 : wr.cell? ⟨gb184, 1, none⟩ = some (.string x185001_83) := (blk_cell BK184.out 1).trans rfl
               have hcz153_2 : wr.cell? ⟨gb184, 2, none⟩ = some (.string x185002_83) := (blk_cell BK184.out 2).trans rfl
               have hcz153_3 : wr.cell? ⟨gb184, 3, none⟩ = some (.string t187) := (blk_cell BK184.out 3).trans rfl
               have hcz153_4 : wr.cell? ⟨gb184, 4, none⟩ = some (u185004) := (blk_cell BK184.out 4).trans rfl
               have hcz153_5 : wr.cell? ⟨gb184, 5, none⟩ = some (.string (⟨#[]⟩ : ByteArray)) := (blk_cell BK184.out 5).trans rfl
               have hcz153_6 : wr.cell? ⟨gb184, 6, none⟩ = some (.slice none 0 0) := (blk_cell BK184.out 6).trans rfl
               have hfz153_0 := blk_frozen BK184.out 0
               have hfz153_1 := blk_frozen BK184.out 1
               have hfz153_2 := blk_frozen BK184.out 2
               have hfz153_3 := blk_frozen BK184.out 3
               have hfz153_4 := blk_frozen BK184.out 4
               have hfz153_5 := blk_frozen BK184.out 5
               have hfz153_6 := blk_frozen BK184.out 6
               have hcz154_0 : wr.cell? ⟨gb165, 0, none⟩ = some (.string x166000_1) := (blk_cell BK165.out 0).trans rfl
               have hcz154_1 : wr.cell? ⟨gb165, 1, none⟩ = some (.string x166001_1) := (blk_cell BK165.out 1).trans rfl
               have hcz154_2 : wr.cell? ⟨gb165, 2, none⟩ = some (.string x166002_1) := (blk_cell BK165.out 2).trans rfl
               have hcz154_3 : wr.cell? ⟨gb165, 3, none⟩ = some (.string x166003_1) := (blk_cell BK165.out 3).trans rfl
               have hcz154_4 : wr.cell? ⟨gb165, 4, none⟩ = some (.slice none 0 0) := (blk_cell BK165.out 4).trans rfl
               have hcz154_5 : wr.cell? ⟨gb165, 5, none⟩ = some (.string x166005_1) := (blk_cell BK165.out 5).trans rfl
               have hcz154_6 : wr.cell? ⟨gb165, 6, none⟩ = some (.slice none 0 0) := (blk_cell BK165.out 6).trans rfl
               have hfz154_0 := blk_frozen BK165.out 0
               have hfz154_1 := blk_frozen BK165.out 1
               have hfz154_2 := blk_frozen BK165.out 2
               have hfz154_3 := blk_frozen BK165.out 3
               have hfz154_4 := blk_frozen BK165.out 4
               have hfz154_5 := blk_frozen BK165.out 5
               have hfz154_6 := blk_frozen BK165.out 6
               obtain ⟨Ao155, co155, eo155⟩ := Kd.R_slice HO_185004.out
               subst eo155
               go_wp2
               refine bodyPost_ret (results_ct rfl _ _ gb165 24 #[.string a0, .string x185001_83, .string x185002_83, .string t187, .slice Ao155 x185004_4.length co155, .string (⟨#[]⟩ : ByteArray), .slice none 0 0] (0, 0) _ rfl (by (with_reducible repeat (first | refine blk_drewN ?_ _ | refine blk_drew ?_ | refine blk_alloc ?_ _)); refine blk_put (cs := #[.string a0, .string x185001_83, .string x185002_83, .string t187, .slice Ao155 x185004_4.length co155, .string (⟨#[]⟩ : ByteArray), .slice none 0 0]) ?_ 6 _ rfl; (with_reducible repeat (first | refine blk_drewN ?_ _ | refine blk_drew ?_ | refine blk_alloc ?_ _)); refine blk_put (cs := #[.string a0, .string x185001_83, .string x185002_83, .string t187, .slice Ao155 x185004_4.length co155, .string x166005_1, .slice none 0 0]) ?_ 5 _ rfl; (with_reducible repeat (first | refine blk_drewN ?_ _ | refine blk_drew ?_ | refine blk_alloc ?_ _)); refine blk_put (cs := #[.string a0, .string x185001_83, .string x185002_83, .string t187, .slice none 0 0, .string x166005_1, .slice none 0 0]) ?_ 4 _ rfl; (with_reducible repeat (first | refine blk_drewN ?_ _ | refine blk_drew ?_ | refine blk_alloc ?_ _)); refine blk_put (cs := #[.string a0, .string x185001_83, .string x185002_83, .string x166003_1, .slice none 0 0, .string x166005_1, .slice none 0 0]) ?_ 3 _ rfl; (with_reducible repeat (first | refine blk_drewN ?_ _ | refine blk_drew ?_ | refine blk_alloc ?_ _)); refine blk_put (cs := #[.string a0, .string x185001_83, .string x166002_1, .string x166003_1, .slice none 0 0, .string x166005_1, .slice none 0 0]) ?_ 2 _ rfl; (with_reducible repeat (first | refine blk_drewN ?_ _ | refine blk_drew ?_ | refine blk_alloc ?_ _)); refine blk_put (cs := #[.string a0, .string x166001_1, .string x166002_1, .string x166003_1, .slice none 0 0, .string x166005_1, .slice none 0 0]) ?_ 1 _ rfl; (with_reducible repeat (first | refine blk_drewN ?_ _ | refine blk_drew ?_ | refine blk_alloc ?_ _)); refine blk_put (cs := #[.string x166000_1, .string x166001_1, .string x166002_1, .string x166003_1, .slice none 0 0, .string x166005_1, .slice none 0 0]) ?_ 0 _ rfl; (with_reducible repeat (first | refine blk_drewN ?_ _ | refine blk_drew ?_ | refine blk_alloc ?_ _)); exact BK165.out) Tryd.underlying24 rfl (by kernel_rfl)) rfl ?_
               exact ⟨_, _, by first | rfl | (simp [errW_none, errW_some] <;> rfl) | (simp [*, errW_none, errW_some] <;> rfl), by (with_reducible repeat (first | apply Kd.R_alloc | apply Kd.R_drewN | apply Kd.R_drew)); exact Kd.R_mono (Kd.R_far (p := ⟨gb165, 6, none⟩) (Kd.R_far (p := ⟨gb165, 5, none⟩) (Kd.R_far (p := ⟨gb165, 4, none⟩) (Kd.R_far (p := ⟨gb165, 3, none⟩) (Kd.R_far (p := ⟨gb165, 2, none⟩) (Kd.R_far (p := ⟨gb165, 1, none⟩) (Kd.R_far (p := ⟨gb165, 0, none⟩) (Kd.R_types HO_185004.out BK165.out (by decide)) (fun _ hk => hk.2) (.string a0)) (fun _ hk => hk.2) (.string x185001_83)) (fun _ hk => hk.2) (.string x185002_83)) (fun _ hk => hk.2) (.string t187)) (fun _ hk => hk.2) (.slice Ao155 x185004_4.length co155)) (fun _ hk => hk.2) (.string (⟨#[]⟩ : ByteArray))) (fun _ hk => hk.2) (.slice none 0 0)) (fun _ hk => (by simp [Value.ownBlock])), by first | exact Kd.R_nil _ _ _ _ _ | exact Kd.N_nil _ _ _ _ _ | exact Kd.V_nil _ _ _ _ _ | exact Kd.Q_nil _ _ _ _ _ | exact Kd.S_nil _ _ _ _ _, by repeat (first | (with_reducible first | exact HB.out | apply below_alloc | apply pw_below_drewN | apply below_drew1 | refine below_set ?_ GE165.out | refine below_set ?_ GE184.out) | exact HB.out)⟩
         ·
          rw [if_neg c83] at H
          have c83b0 : (t192 == 0) = false := beq_eq_false_iff_ne.mpr c83
          have c83b1 : (t192 != 0) = true := bne_iff_ne.mpr c83
          simp only [Option.some.injEq, Prod.mk.injEq] at H
          obtain ⟨rfl, rfl, rfl, rfl, rfl, rfl, rfl, rfl⟩ := H
          go_wp2_with (first | ((with_reducible refine gate_callee (f := 19) rfl ?_); refine goesL_ (some 111) rfl rfl Tryd.func19 (by kernel_rfl) rfl #[.slice A2 l2.length c2] rfl (by (try simp only [List.map_toArray, List.map_cons, List.map_nil]); first | done | rfl | (simp only [List.length_drop, List.length_take]; rfl)) ?_; (with_reducible refine (msg_Length.calls kj55 _ _ l2 t190 t191 t192 _ ?side1 ?side2 ?side3 A82.out).mono ?_); (case side1 => exact GI.below HG.out (by repeat (first | (with_reducible first | exact HB.out | apply below_alloc | apply pw_below_drewN | apply below_drew1 | refine below_set ?_ GE165.out | refine below_set ?_ GE184.out) | exact HB.out))); (case side2 => repeat (first | exact (Kd.C_below HR2.out HB.out) | (with_reducible refine Kd.C_alloc ?_ _) | (with_reducible refine Kd.C_drewN ?_ _) | (with_reducible refine Kd.C_drew ?_))); (case side3 => exact HC2.out); rintro e w156 ⟨rfl, hb⟩; refine ⟨_, rfl, ?_⟩; have n0_ := Aside0.mk (Kd.R_below (by (with_reducible repeat (first | apply Kd.R_alloc | apply Kd.R_drewN | apply Kd.R_drew)); exact HO_8.out) hb); have n1_ := Aside0.mk (MRI_below (by with_reducible repeat (first | exact HO_9.out | apply MRI_alloc | apply MRI_drewN | apply MRI_drew | apply MRI_set)) hb); have n2_ := Aside0.mk (blk_below (g := gb165) (o := .cells #[.string x166000_1, .string x166001_1, .string x166002_1, .string x166003_1, .slice none 0 0, .string x166005_1, .slice none 0 0] 24 (0, 0)) (by (with_reducible repeat (first | refine blk_drewN ?_ _ | refine blk_drew ?_ | refine blk_alloc ?_ _)); exact BK165.out) hb); have n3_ := Aside0.mk (blk_below (g := gb184) (o := .cells #[.string a0, .string t185, .string t186, .string t187, .slice none 0 0, .string (⟨#[]⟩ : ByteArray), .slice none 0 0] 24 (0, 0)) (by (with_reducible repeat (first | refine blk_drewN ?_ _ | refine blk_drew ?_ | refine blk_alloc ?_ _)); exact BK184.out) hb); have n4_ := Aside0.mk (below_step (by repeat (first | (with_reducible first | exact HB.out | apply below_alloc | apply pw_below_drewN | apply below_drew1 | refine below_set ?_ GE165.out | refine below_set ?_ GE184.out) | exact HB.out)) hb); clear HO_8; clear HO_9; clear BK165; clear BK184; clear HB; have HO_8 := n0_; have HO_9 := n1_; have BK165 := n2_; have BK184 := n3_; have HB := n4_; clear n0_ n1_ n2_ n3_ n4_; (try clear hb); (try clear hb2); (try clear hk); (try clear hi); have hnb157 := NB165_184.out; have hnc157 := NB184_165.out; have hcz158_0 : w156.cell? ⟨gb165, 0, none⟩ = some (.string x166000_1) := (blk_cell BK165.out 0).trans rfl; have hcz158_1 : w156.cell? ⟨gb165, 1, none⟩ = some (.string x166001_1) := (blk_cell BK165.out 1).trans rfl; have hcz158_2 : w156.cell? ⟨gb165, 2, none⟩ = some (.string x166002_1) := (blk_cell BK165.out 2).trans rfl; have hcz158_3 : w156.cell? ⟨gb165, 3, none⟩ = some (.string x166003_1) := (blk_cell BK165.out 3).trans rfl; have hcz158_4 : w156.cell? ⟨gb165, 4, none⟩ = some (.slice none 0 0) := (blk_cell BK165.out 4).trans rfl; have hcz158_5 : w156.cell? ⟨gb165, 5, none⟩ = some (.string x166005_1) := (blk_cell BK165.out 5).trans rfl; have hcz158_6 : w156.cell? ⟨gb165, 6, none⟩ = some (.slice none 0 0) := (blk_cell BK165.out 6).trans rfl; have hfz158_0 := blk_frozen BK165.out 0; have hfz158_1 := blk_frozen BK165.out 1; have hfz158_2 := blk_frozen BK165.out 2; have hfz158_3 := blk_frozen BK165.out 3; have hfz158_4 := blk_frozen BK165.out 4; have hfz158_5 := blk_frozen BK165.out 5; have hfz158_6 := blk_frozen BK165.out 6))
          refine bodyPost_ret (results_ct rfl _ _ gb165 24 #[.string (⟨#[]⟩ : ByteArray), .string (⟨#[]⟩ : ByteArray), .string (⟨#[]⟩ : ByteArray), .string (⟨#[]⟩ : ByteArray), .slice none 0 0, .string (⟨#[]⟩ : ByteArray), .slice none 0 0] (0, 0) _ rfl (by (with_reducible repeat (first | refine blk_drewN ?_ _ | refine blk_drew ?_ | refine blk_alloc ?_ _)); refine blk_put (cs := #[.string (⟨#[]⟩ : ByteArray), .string (⟨#[]⟩ : ByteArray), .string (⟨#[]⟩ : ByteArray), .string (⟨#[]⟩ : ByteArray), .slice none 0 0, .string (⟨#[]⟩ : ByteArray), .slice none 0 0]) ?_ 6 _ rfl; (with_reducible repeat (first | refine blk_drewN ?_ _ | refine blk_drew ?_ | refine blk_alloc ?_ _)); refine blk_put (cs := #[.string (⟨#[]⟩ : ByteArray), .string (⟨#[]⟩ : ByteArray), .string (⟨#[]⟩ : ByteArray), .string (⟨#[]⟩ : ByteArray), .slice none 0 0, .string x166005_1, .slice none 0 0]) ?_ 5 _ rfl; (with_reducible repeat (first | refine blk_drewN ?_ _ | refine blk_drew ?_ | refine blk_alloc ?_ _)); refine blk_put (cs := #[.string (⟨#[]⟩ : ByteArray), .string (⟨#[]⟩ : ByteArray), .string (⟨#[]⟩ : ByteArray), .string (⟨#[]⟩ : ByteArray), .slice none 0 0, .string x166005_1, .slice none 0 0]) ?_ 4 _ rfl; (with_reducible repeat (first | refine blk_drewN ?_ _ | refine blk_drew ?_ | refine blk_alloc ?_ _)); refine blk_put (cs := #[.string (⟨#[]⟩ : ByteArray), .string (⟨#[]⟩ : ByteArray), .string (⟨#[]⟩ : ByteArray), .string x166003_1, .slice none 0 0, .string x166005_1, .slice none 0 0]) ?_ 3 _ rfl; (with_reducible repeat (first | refine blk_drewN ?_ _ | refine blk_drew ?_ | refine blk_alloc ?_ _)); refine blk_put (cs := #[.string (⟨#[]⟩ : ByteArray), .string (⟨#[]⟩ : ByteArray), .string x166002_1, .string x166003_1, .slice none 0 0, .string x166005_1, .slice none 0 0]) ?_ 2 _ rfl; (with_reducible repeat (first | refine blk_drewN ?_ _ | refine blk_drew ?_ | refine blk_alloc ?_ _)); refine blk_put (cs := #[.string (⟨#[]⟩ : ByteArray), .string x166001_1, .string x166002_1, .string x166003_1, .slice none 0 0, .string x166005_1, .slice none 0 0]) ?_ 1 _ rfl; (with_reducible repeat (first | refine blk_drewN ?_ _ | refine blk_drew ?_ | refine blk_alloc ?_ _)); refine blk_put (cs := #[.string x166000_1, .string x166001_1, .string x166002_1, .string x166003_1, .slice none 0 0, .string x166005_1, .slice none 0 0]) ?_ 0 _ rfl; (with_reducible repeat (first | refine blk_drewN ?_ _ | refine blk_drew ?_ | refine blk_alloc ?_ _)); exact BK165.out) Tryd.underlying24 rfl (by kernel_rfl)) rfl ?_
          exact ⟨_, _, by first | rfl | (simp [errW_none, errW_some] <;> rfl) | (simp [*, errW_none, errW_some] <;> rfl), by first | exact Kd.R_nil _ _ _ _ _ | exact Kd.N_nil _ _ _ _ _ | exact Kd.V_nil _ _ _ _ _ | exact Kd.Q_nil _ _ _ _ _ | exact Kd.S_nil _ _ _ _ _, by first | exact Kd.R_nil _ _ _ _ _ | exact Kd.N_nil _ _ _ _ _ | exact Kd.V_nil _ _ _ _ _ | exact Kd.Q_nil _ _ _ _ _ | exact Kd.S_nil _ _ _ _ _, by repeat (first | (with_reducible first | exact HB.out | apply below_alloc | apply pw_below_drewN | apply below_drew1 | refine below_set ?_ GE165.out | refine below_set ?_ GE184.out) | exact HB.out)⟩
     ·
      rw [if_neg c54] at H
      have c54b0 : ((x8_1.length : Int) == 1) = false := beq_eq_false_iff_ne.mpr c54
      have c54b1 : ((x8_1.length : Int) != 1) = true := bne_iff_ne.mpr c54
      simp only [Option.some.injEq, Prod.mk.injEq] at H
      obtain ⟨rfl, rfl, rfl, rfl, rfl, rfl, rfl, rfl⟩ := H
      obtain ⟨Ao159, co159, eo159⟩ := Kd.R_slice HO_8.out
      subst eo159
      have hcz160_0 : wr.cell? ⟨gb165, 0, none⟩ = some (.string x166000_1) := (blk_cell BK165.out 0).trans rfl
      have hcz160_1 : wr.cell? ⟨gb165, 1, none⟩ = some (.string x166001_1) := (blk_cell BK165.out 1).trans rfl
      have hcz160_2 : wr.cell? ⟨gb165, 2, none⟩ = some (.string x166002_1) := (blk_cell BK165.out 2).trans rfl
      have hcz160_3 : wr.cell? ⟨gb165, 3, none⟩ = some (.string x166003_1) := (blk_cell BK165.out 3).trans rfl
      have hcz160_4 : wr.cell? ⟨gb165, 4, none⟩ = some (.slice none 0 0) := (blk_cell BK165.out 4).trans rfl
      have hcz160_5 : wr.cell? ⟨gb165, 5, none⟩ = some (.string x166005_1) := (blk_cell BK165.out 5).trans rfl
      have hcz160_6 : wr.cell? ⟨gb165, 6, none⟩ = some (.slice none 0 0) := (blk_cell BK165.out 6).trans rfl
      have hfz160_0 := blk_frozen BK165.out 0
      have hfz160_1 := blk_frozen BK165.out 1
      have hfz160_2 := blk_frozen BK165.out 2
      have hfz160_3 := blk_frozen BK165.out 3
      have hfz160_4 := blk_frozen BK165.out 4
      have hfz160_5 := blk_frozen BK165.out 5
      have hfz160_6 := blk_frozen BK165.out 6
      go_wp2
      refine bodyPost_ret (results_ct rfl _ _ gb165 24 #[.string (⟨#[]⟩ : ByteArray), .string (⟨#[]⟩ : ByteArray), .string (⟨#[]⟩ : ByteArray), .string (⟨#[]⟩ : ByteArray), .slice none 0 0, .string (⟨#[]⟩ : ByteArray), .slice none 0 0] (0, 0) _ rfl (by (with_reducible repeat (first | refine blk_drewN ?_ _ | refine blk_drew ?_ | refine blk_alloc ?_ _)); refine blk_put (cs := #[.string (⟨#[]⟩ : ByteArray), .string (⟨#[]⟩ : ByteArray), .string (⟨#[]⟩ : ByteArray), .string (⟨#[]⟩ : ByteArray), .slice none 0 0, .string (⟨#[]⟩ : ByteArray), .slice none 0 0]) ?_ 6 _ rfl; (with_reducible repeat (first | refine blk_drewN ?_ _ | refine blk_drew ?_ | refine blk_alloc ?_ _)); refine blk_put (cs := #[.string (⟨#[]⟩ : ByteArray), .string (⟨#[]⟩ : ByteArray), .string (⟨#[]⟩ : ByteArray), .string (⟨#[]⟩ : ByteArray), .slice none 0 0, .string x166005_1, .slice none 0 0]) ?_ 5 _ rfl; (with_reducible repeat (first | refine blk_drewN ?_ _ | refine blk_drew ?_ | refine blk_alloc ?_ _)); refine blk_put (cs := #[.string (⟨#[]⟩ : ByteArray), .string (⟨#[]⟩ : ByteArray), .string (⟨#[]⟩ : ByteArray), .string (⟨#[]⟩ : ByteArray), .slice none 0 0, .string x166005_1, .slice none 0 0]) ?_ 4 _ rfl; (with_reducible repeat (first | refine blk_drewN ?_ _ | refine blk_drew ?_ | refine blk_alloc ?_ _)); refine blk_put (cs := #[.string (⟨#[]⟩ : ByteArray), .string (⟨#[]⟩ : ByteArray), .string (⟨#[]⟩ : ByteArray), .string x166003_1, .slice none 0 0, .string x166005_1, .slice none 0 0]) ?_ 3 _ rfl; (with_reducible repeat (first | refine blk_drewN ?_ _ | refine blk_drew ?_ | refine blk_alloc ?_ _)); refine blk_put (cs := #[.string (⟨#[]⟩ : ByteArray), .string (⟨#[]⟩ : ByteArray), .string x166002_1, .string x166003_1, .slice none 0 0, .string x166005_1, .slice none 0 0]) ?_ 2 _ rfl; (with_reducible repeat (first | refine blk_drewN ?_ _ | refine blk_drew ?_ | refine blk_alloc ?_ _)); refine blk_put (cs := #[.string (⟨#[]⟩ : ByteArray), .string x166001_1, .string x166002_1, .string x166003_1, .slice none 0 0, .string x166005_1, .slice none 0 0]) ?_ 1 _ rfl; (with_reducible repeat (first | refine blk_drewN ?_ _ | refine blk_drew ?_ | refine blk_alloc ?_ _)); refine blk_put (cs := #[.string x166000_1, .string x166001_1, .string x166002_1, .string x166003_1, .slice none 0 0, .string x166005_1, .slice none 0 0]) ?_ 0 _ rfl; (with_reducible repeat (first | refine blk_drewN ?_ _ | refine blk_drew ?_ | refine blk_alloc ?_ _)); exact BK165.out) Tryd.underlying24 rfl (by kernel_rfl)) rfl ?_
      exact ⟨_, _, by first | rfl | (simp [errW_none, errW_some] <;> rfl) | (simp [*, errW_none, errW_some] <;> rfl), by first | exact Kd.R_nil _ _ _ _ _ | exact Kd.N_nil _ _ _ _ _ | exact Kd.V_nil _ _ _ _ _ | exact Kd.Q_nil _ _ _ _ _ | exact Kd.S_nil _ _ _ _ _, by first | exact Kd.R_nil _ _ _ _ _ | exact Kd.N_nil _ _ _ _ _ | exact Kd.V_nil _ _ _ _ _ | exact Kd.Q_nil _ _ _ _ _ | exact Kd.S_nil _ _ _ _ _, by repeat (first | (with_reducible first | exact HB.out | apply below_alloc | apply pw_below_drewN | apply below_drew1 | refine below_set ?_ GE165.out) | exact HB.out)⟩
 ·
  replace c5 := Bool.eq_false_iff.mpr c5
  subst c5
  have H1 : (some ((⟨#[]⟩ : ByteArray), (⟨#[]⟩ : ByteArray), (⟨#[]⟩ : ByteArray), (⟨#[]⟩ : ByteArray), ([] : List (S30)), (⟨#[]⟩ : ByteArray), ([] : List (S30)), 140)) = some (r1, r2, r3, r4, r5, r6, r7, r8) := by rw [if_neg (show ¬ (false = true) by decide)] at H; exact H
  clear H
  have H := H1
  clear H1
  simp only [Option.some.injEq, Prod.mk.injEq] at H
  obtain ⟨rfl, rfl, rfl, rfl, rfl, rfl, rfl, rfl⟩ := H
  go_enter Tryd.func21, Tryd.ntmps21
  go_wp2_with (first | ((with_reducible refine gate_dst (N := 6) rfl ?_); refine box_event ?hg (N := 6) ?hd (cs := #[.string (⟨#[]⟩ : ByteArray), .string (⟨#[]⟩ : ByteArray), .string (⟨#[]⟩ : ByteArray), .string (⟨#[]⟩ : ByteArray), .slice none 0 0, .string (⟨#[]⟩ : ByteArray), .slice none 0 0]) (t := 24) ?hr ?_; (case hd => rfl); (case hg => rfl); (case hr => first | (go_simp; done) | (go_simp; rfl)); intro gb165 hg w161 hbox hb; have n0_ := Aside0.mk (below_step (by repeat (first | (with_reducible first | exact HB.out | apply below_alloc | apply pw_below_drewN | apply below_drew1) | exact HB.out)) hb); have n1_ := Aside0.mk (hbox); have n2_ := Aside0.mk ((by rw [hg]; exact (below_size (by repeat (first | (with_reducible first | exact HB.out | apply below_alloc | apply pw_below_drewN | apply below_drew1) | exact HB.out))) : w.heap.size ≤ gb165)); have n3_ := Aside0.mk ((by rw [hg]; exact (below_size (by repeat (first | (with_reducible first | exact HB.out | apply below_alloc | apply pw_below_drewN | apply below_drew1) | exact HB.out))) : w.heap.size ≤ gb165)); clear HB; have HB := n0_; have BK165 := n1_; have GW165 := n2_; have GE165 := n3_; clear n0_ n1_ n2_ n3_; clear hb hbox hg) | ((with_reducible refine gate_callee (f := 17) rfl ?_); refine goesL_ (some 21) rfl rfl Tryd.func17 (by kernel_rfl) rfl #[.string a0] rfl (by (try simp only [List.map_toArray, List.map_cons, List.map_nil]); first | done | rfl | (simp only [List.length_drop, List.length_take]; rfl)) ?_; (with_reducible refine (text_Token.calls k a0 false _ A4.out).mono ?_); rintro e w' ⟨rfl, ⟨nd, rfl⟩⟩; refine ⟨_, rfl, ?_⟩; (try (rw [drewN_self w161]; generalize hq_ : World.drewN w161 _ = w161; have n0_ : Aside0 (w161.heap[gb165]? = some (.cells #[.string (⟨#[]⟩ : ByteArray), .string (⟨#[]⟩ : ByteArray), .string (⟨#[]⟩ : ByteArray), .string (⟨#[]⟩ : ByteArray), .slice none 0 0, .string (⟨#[]⟩ : ByteArray), .slice none 0 0] 24 (0, 0))) := ⟨by rw [← hq_]; exact (by (with_reducible repeat (first | refine blk_drewN ?_ _ | refine blk_drew ?_ | refine blk_alloc ?_ _)); exact BK165.out)⟩; have n1_ : Aside0 (Below w.heap.size w w161) := ⟨by rw [← hq_]; exact (by repeat (first | (with_reducible first | exact HB.out | apply below_alloc | apply pw_below_drewN | apply below_drew1 | refine below_set ?_ GE165.out) | exact HB.out))⟩; clear BK165 HB hq_; have BK165 := n0_; have HB := n1_; clear n0_ n1_)); have hcz162_0 : w161.cell? ⟨gb165, 0, none⟩ = some (.string (⟨#[]⟩ : ByteArray)) := (blk_cell BK165.out 0).trans rfl; have hcz162_1 : w161.cell? ⟨gb165, 1, none⟩ = some (.string (⟨#[]⟩ : ByteArray)) := (blk_cell BK165.out 1).trans rfl; have hcz162_2 : w161.cell? ⟨gb165, 2, none⟩ = some (.string (⟨#[]⟩ : ByteArray)) := (blk_cell BK165.out 2).trans rfl; have hcz162_3 : w161.cell? ⟨gb165, 3, none⟩ = some (.string (⟨#[]⟩ : ByteArray)) := (blk_cell BK165.out 3).trans rfl; have hcz162_4 : w161.cell? ⟨gb165, 4, none⟩ = some (.slice none 0 0) := (blk_cell BK165.out 4).trans rfl; have hcz162_5 : w161.cell? ⟨gb165, 5, none⟩ = some (.string (⟨#[]⟩ : ByteArray)) := (blk_cell BK165.out 5).trans rfl; have hcz162_6 : w161.cell? ⟨gb165, 6, none⟩ = some (.slice none 0 0) := (blk_cell BK165.out 6).trans rfl; have hfz162_0 := blk_frozen BK165.out 0; have hfz162_1 := blk_frozen BK165.out 1; have hfz162_2 := blk_frozen BK165.out 2; have hfz162_3 := blk_frozen BK165.out 3; have hfz162_4 := blk_frozen BK165.out 4; have hfz162_5 := blk_frozen BK165.out 5; have hfz162_6 := blk_frozen BK165.out 6))
  refine bodyPost_ret (results_ct rfl _ _ gb165 24 #[.string (⟨#[]⟩ : ByteArray), .string (⟨#[]⟩ : ByteArray), .string (⟨#[]⟩ : ByteArray), .string (⟨#[]⟩ : ByteArray), .slice none 0 0, .string (⟨#[]⟩ : ByteArray), .slice none 0 0] (0, 0) _ rfl (by (with_reducible repeat (first | refine blk_drewN ?_ _ | refine blk_drew ?_ | refine blk_alloc ?_ _)); refine blk_put (cs := #[.string (⟨#[]⟩ : ByteArray), .string (⟨#[]⟩ : ByteArray), .string (⟨#[]⟩ : ByteArray), .string (⟨#[]⟩ : ByteArray), .slice none 0 0, .string (⟨#[]⟩ : ByteArray), .slice none 0 0]) ?_ 6 _ rfl; (with_reducible repeat (first | refine blk_drewN ?_ _ | refine blk_drew ?_ | refine blk_alloc ?_ _)); refine blk_put (cs := #[.string (⟨#[]⟩ : ByteArray), .string (⟨#[]⟩ : ByteArray), .string (⟨#[]⟩ : ByteArray), .string (⟨#[]⟩ : ByteArray), .slice none 0 0, .string (⟨#[]⟩ : ByteArray), .slice none 0 0]) ?_ 5 _ rfl; (with_reducible repeat (first | refine blk_drewN ?_ _ | refine blk_drew ?_ | refine blk_alloc ?_ _)); refine blk_put (cs := #[.string (⟨#[]⟩ : ByteArray), .string (⟨#[]⟩ : ByteArray), .string (⟨#[]⟩ : ByteArray), .string (⟨#[]⟩ : ByteArray), .slice none 0 0, .string (⟨#[]⟩ : ByteArray), .slice none 0 0]) ?_ 4 _ rfl; (with_reducible repeat (first | refine blk_drewN ?_ _ | refine blk_drew ?_ | refine blk_alloc ?_ _)); refine blk_put (cs := #[.string (⟨#[]⟩ : ByteArray), .string (⟨#[]⟩ : ByteArray), .string (⟨#[]⟩ : ByteArray), .string (⟨#[]⟩ : ByteArray), .slice none 0 0, .string (⟨#[]⟩ : ByteArray), .slice none 0 0]) ?_ 3 _ rfl; (with_reducible repeat (first | refine blk_drewN ?_ _ | refine blk_drew ?_ | refine blk_alloc ?_ _)); refine blk_put (cs := #[.string (⟨#[]⟩ : ByteArray), .string (⟨#[]⟩ : ByteArray), .string (⟨#[]⟩ : ByteArray), .string (⟨#[]⟩ : ByteArray), .slice none 0 0, .string (⟨#[]⟩ : ByteArray), .slice none 0 0]) ?_ 2 _ rfl; (with_reducible repeat (first | refine blk_drewN ?_ _ | refine blk_drew ?_ | refine blk_alloc ?_ _)); refine blk_put (cs := #[.string (⟨#[]⟩ : ByteArray), .string (⟨#[]⟩ : ByteArray), .string (⟨#[]⟩ : ByteArray), .string (⟨#[]⟩ : ByteArray), .slice none 0 0, .string (⟨#[]⟩ : ByteArray), .slice none 0 0]) ?_ 1 _ rfl; (with_reducible repeat (first | refine blk_drewN ?_ _ | refine blk_drew ?_ | refine blk_alloc ?_ _)); refine blk_put (cs := #[.string (⟨#[]⟩ : ByteArray), .string (⟨#[]⟩ : ByteArray), .string (⟨#[]⟩ : ByteArray), .string (⟨#[]⟩ : ByteArray), .slice none 0 0, .string (⟨#[]⟩ : ByteArray), .slice none 0 0]) ?_ 0 _ rfl; (with_reducible repeat (first | refine blk_drewN ?_ _ | refine blk_drew ?_ | refine blk_alloc ?_ _)); exact BK165.out) Tryd.underlying24 rfl (by kernel_rfl)) rfl ?_
  exact ⟨_, _, by first | rfl | (simp [errW_none, errW_some] <;> rfl) | (simp [*, errW_none, errW_some] <;> rfl), by first | exact Kd.R_nil _ _ _ _ _ | exact Kd.N_nil _ _ _ _ _ | exact Kd.V_nil _ _ _ _ _ | exact Kd.Q_nil _ _ _ _ _ | exact Kd.S_nil _ _ _ _ _, by first | exact Kd.R_nil _ _ _ _ _ | exact Kd.N_nil _ _ _ _ _ | exact Kd.V_nil _ _ _ _ _ | exact Kd.Q_nil _ _ _ _ _ | exact Kd.S_nil _ _ _ _ _, by repeat (first | (with_reducible first | exact HB.out | apply below_alloc | apply pw_below_drewN | apply below_drew1 | refine below_set ?_ GE165.out) | exact HB.out)⟩


end Go.Proofs.YtgeekchnolahhaaDoor.PP
