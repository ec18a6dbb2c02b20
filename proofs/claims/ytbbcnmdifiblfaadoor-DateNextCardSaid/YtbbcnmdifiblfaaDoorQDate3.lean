/- Both Parses: what they find is written as it was; what is written is found. -/
import Derived.Test.YtbbcnmdifiblfaaDoorQDate2
import Derived.Lib.IndexMore
import Derived.Test.YtbbcnmdifiblfaaDoorPPx15
namespace Go.Proofs.YtbbcnmdifiblfaaDoor.Q
set_option linter.unusedVariables false
set_option linter.unusedSimpArgs false
open Go.RowKit Go.Proofs.YtbbcnmdifiblfaaDoorW.PrintWords Go.Proofs.YtbbcnmdifiblfaaDoorW.PrintLast Go.Proofs.YtbbcnmdifiblfaaDoorW.PrintMore
open PP

theorem number_any (s : ByteArray) (h : s.size ≤ 140737488355328) : ∃ n e, text_Number.f s = some (n, e) := by
  unfold text_Number.f text_parse.f
  rw [if_pos h, if_pos (.inl rfl)]
  split
  · exact ⟨_, _, rfl⟩
  · split
    · split <;> exact ⟨_, _, rfl⟩
    · exact ⟨_, _, rfl⟩
theorem dg_dig (n : Nat) (h : n < 10) : digOf 10 (dg n) = some n := by
  have key : ∀ m : Fin 10, digOf 10 (dg m.val) = some m.val := by decide +kernel
  exact key ⟨n, h⟩
theorem number_two (n : Nat) (h : n < 100) : text_Number.f (B (two n)) = some ((n : Int), 0) := by
  unfold text_Number.f text_parse.f
  have d1 := dg_dig (n / 10) (by omega); have d2 := dg_dig (n % 10) (by omega)
  rw [if_pos (by rw [B_size, two_len]; decide), if_pos (.inl rfl), B_toList, if_neg (by simp [two])]
  have hn : numOf (10 : Int).toNat 0 (two n) = n := by
    show (0 * 10 + (digOf 10 (dg (n / 10))).getD 0) * 10 + (digOf 10 (dg (n % 10))).getD 0 = n
    rw [d1, d2]; simp only [Option.getD_some]; omega
  have ha : (two n).all (fun c => (digOf (10 : Int).toNat c).isSome) = true := by
    show (((digOf 10 (dg (n / 10))).isSome) && ((digOf 10 (dg (n % 10))).isSome && true)) = true
    rw [d1, d2]; rfl
  rw [if_pos ha, hn, if_pos (by omega)]; rfl
theorem number_four (n : Nat) (h : n < 10000) : text_Number.f (B (four n)) = some ((n : Int), 0) := by
  unfold text_Number.f text_parse.f
  have d1 := dg_dig (n / 1000) (by omega); have d2 := dg_dig (n / 100 % 10) (by omega); have d3 := dg_dig (n / 10 % 10) (by omega); have d4 := dg_dig (n % 10) (by omega)
  rw [if_pos (by rw [B_size, four_len]; decide), if_pos (.inl rfl), B_toList, if_neg (by simp [four])]
  have hn : numOf (10 : Int).toNat 0 (four n) = n := by
    show (((0 * 10 + (digOf 10 (dg (n / 1000))).getD 0) * 10 + (digOf 10 (dg (n / 100 % 10))).getD 0) * 10 + (digOf 10 (dg (n / 10 % 10))).getD 0) * 10 + (digOf 10 (dg (n % 10))).getD 0 = n
    rw [d1, d2, d3, d4]; simp only [Option.getD_some]; omega
  have ha : (four n).all (fun c => (digOf (10 : Int).toNat c).isSome) = true := by
    show (((digOf 10 (dg (n / 1000))).isSome) && (((digOf 10 (dg (n / 100 % 10))).isSome) && (((digOf 10 (dg (n / 10 % 10))).isSome) && ((digOf 10 (dg (n % 10))).isSome && true)))) = true
    rw [d1, d2, d3, d4]; rfl
  rw [if_pos ha, hn, if_pos (by omega)]; rfl
/-- the text of a second, byte for byte -/
theorem shape29 (a b c d1 d2 e f g y1 y2 y3 y4 h1 h2 i1 i2 s1 s2 : UInt8) (L : List UInt8) (hL : L = [a, b, c] ++ [44, 32] ++ [d1, d2] ++ [32] ++ [e, f, g] ++ [32] ++ [y1, y2, y3, y4] ++ [32] ++ [h1, h2] ++ [58] ++ [i1, i2] ++ [58] ++ [s1, s2] ++ [32, 71, 77, 84]) :
    L.length = 29 ∧ (L.drop 12).take 4 = [y1, y2, y3, y4] ∧ (L.drop 5).take 2 = [d1, d2] ∧ (L.drop 17).take 2 = [h1, h2] ∧ (L.drop 20).take 2 = [i1, i2] ∧ (L.drop 23).take 2 = [s1, s2] ∧ (L.drop 8).take 3 = [e, f, g] ∧ L.take 3 = [a, b, c] ∧ L.drop 17 = [h1, h2] ++ [58] ++ [i1, i2] ++ [58] ++ [s1, s2] ++ [32, 71, 77, 84] ∧ (L.drop 5).take 11 = [d1, d2] ++ [32] ++ [e, f, g] ++ [32] ++ [y1, y2, y3, y4] := by
  subst hL
  refine ⟨?_, ?_, ?_, ?_, ?_, ?_, ?_, ?_, ?_, ?_⟩ <;> simp
theorem fmt_shape (wk : List UInt8) (hwk : wk.length = 3) (y m d r : Nat) (hm : m < 12) :
    (fmt wk y m d r).length = 29 ∧ ((fmt wk y m d r).drop 12).take 4 = four y ∧ ((fmt wk y m d r).drop 5).take 2 = two (d + 1) ∧ ((fmt wk y m d r).drop 17).take 2 = two (r / 3600) ∧ ((fmt wk y m d r).drop 20).take 2 = two (r / 60 % 60) ∧ ((fmt wk y m d r).drop 23).take 2 = two (r % 60) ∧ ((fmt wk y m d r).drop 8).take 3 = moOf m ∧ (fmt wk y m d r).take 3 = wk ∧ (fmt wk y m d r).drop 17 = two (r / 3600) ++ [58] ++ two (r / 60 % 60) ++ [58] ++ two (r % 60) ++ [32, 71, 77, 84] ∧ ((fmt wk y m d r).drop 5).take 11 = two (d + 1) ++ [32] ++ moOf m ++ [32] ++ four y := by
  have hmo := moOf_len hm
  obtain ⟨L, hL⟩ : ∃ L, L = fmt wk y m d r := ⟨_, rfl⟩
  rw [← hL]
  unfold fmt at hL
  generalize moOf m = mo at hmo hL ⊢
  match wk, hwk with
  | [a, b, c], _ =>
    match mo, hmo with
    | [e, f, g], _ => exact shape29 a b c _ _ e f g _ _ _ _ _ _ _ _ _ _ L hL
theorem month_index (m : Nat) (h : m < 12) : strings_Index.f monthsB (B (moOf m)) = some ((3 * m : Nat) : Int) := by
  have key : ∀ i : Fin 12, Lib.index monthsL (moOf i.val) = ((3 * i.val : Nat) : Int) := by decide +kernel
  unfold strings_Index.f
  rw [if_pos (by decide)]
  exact congrArg some (key ⟨m, h⟩)
theorem Format_any (n : Int) {k : Nat} (hk : 9000 ≤ k) : (∃ s, date_Format.f k n = some (s, 5) ∧ (n < 0 ∨ 253402300799 < n)) ∨ ∃ N y m d r : Nat, n = N ∧ Pt N y m d r ∧ date_Format.f k n = some (B (fmt (wkOf (N / 86400)) y m d r), 0) := by
  by_cases h : 0 ≤ n ∧ n ≤ 253402300799
  · obtain ⟨N, y, m, d, r, rfl, hp⟩ := pt_exist n h.1 h.2
    exact .inr ⟨N, y, m, d, r, rfl, hp, Format_is hp hk⟩
  · exact .inl ⟨_, Format_out n (by omega) (by omega), by omega⟩
theorem toList_eq {s t : ByteArray} (h : s.toList = t.toList) : s = t := ba_ext (by rw [← Lib.toList_data, ← Lib.toList_data, h])
/-- what the last test of both Parses says -/
theorem last_test {k : Nat} (hk : 9000 ≤ k) (n : Int) (s : ByteArray) : ∃ x : Int × Int, ((date_Format.f k n).bind fun bt => (if bt.2 = 0 then (if bt.1.toList = s.toList then some (n, 0) else some (0, 20)) else some (0, 20))) = some x ∧ (x = (0, 20) ∨ ∃ N y m d r : Nat, x = ((N : Int), 0) ∧ Pt N y m d r ∧ s = B (fmt (wkOf (N / 86400)) y m d r)) := by
  rcases Format_any n hk with ⟨b, h, _⟩ | ⟨N, y, m, d, r, rfl, hp, h⟩
  · rw [h, Option.bind_some, if_neg (show ¬ ((5 : Int) = 0) by decide)]; exact ⟨_, rfl, .inl rfl⟩
  · rw [h, Option.bind_some, if_pos rfl]
    by_cases he : (B (fmt (wkOf (N / 86400)) y m d r)).toList = s.toList
    · rw [if_pos he]; exact ⟨_, rfl, .inr ⟨N, y, m, d, r, rfl, hp, (toList_eq he).symm⟩⟩
    · rw [if_neg he]; exact ⟨_, rfl, .inl rfl⟩
theorem Parse_any (s : ByteArray) {k : Nat} (hk : 9000 ≤ k) : ∃ x : Int × Int, date_Parse.f k s = some x ∧ (x = (0, 20) ∨ ∃ N y m d r : Nat, x = ((N : Int), 0) ∧ Pt N y m d r ∧ s = B (fmt (wkOf (N / 86400)) y m d r)) := by
  unfold date_Parse.f
  by_cases h : s.size = 29
  case neg => rw [if_neg h]; exact ⟨_, rfl, .inl rfl⟩
  rw [if_pos h]
  have hsz : ∀ a b, (s.extract a b).size ≤ 140737488355328 := fun a b => by rw [ByteArray.size_extract]; omega
  obtain ⟨n0, e0, h0⟩ := number_any _ (hsz 12 16)
  obtain ⟨n1, e1, h1⟩ := number_any _ (hsz 5 7)
  obtain ⟨n2, e2, h2⟩ := number_any _ (hsz 17 19)
  obtain ⟨n3, e3, h3⟩ := number_any _ (hsz 20 22)
  obtain ⟨n4, e4, h4⟩ := number_any _ (hsz 23 25)
  rw [h0, Option.bind_some]; dsimp only
  by_cases q0 : e0 = 0
  case neg => rw [if_neg q0]; exact ⟨_, rfl, .inl rfl⟩
  rw [if_pos q0, h1, Option.bind_some]; dsimp only
  by_cases q1 : e1 = 0
  case neg => rw [if_neg q1]; exact ⟨_, rfl, .inl rfl⟩
  rw [if_pos q1, h2, Option.bind_some]; dsimp only
  by_cases q2 : e2 = 0
  case neg => rw [if_neg q2]; exact ⟨_, rfl, .inl rfl⟩
  rw [if_pos q2, h3, Option.bind_some]; dsimp only
  by_cases q3 : e3 = 0
  case neg => rw [if_neg q3]; exact ⟨_, rfl, .inl rfl⟩
  rw [if_pos q3, h4, Option.bind_some]; dsimp only
  by_cases q4 : e4 = 0
  case neg => rw [if_neg q4]; exact ⟨_, rfl, .inl rfl⟩
  rw [if_pos q4]
  unfold date_Parse.tail strings_Index.f
  rw [if_pos (by decide), Option.bind_some]
  have hr := Lib.index_room monthsB.data.toList (s.extract 8 11).data.toList
  rw [sz, sz, ByteArray.size_extract, h] at hr
  generalize Lib.index monthsB.data.toList (s.extract 8 11).data.toList = mo at hr ⊢
  have hm36 : monthsB.size = 36 := rfl
  by_cases hm : mo < 0
  · rw [if_pos hm]; exact ⟨_, rfl, .inl rfl⟩
  rw [if_neg hm]
  split
  · split
    · exact ⟨_, rfl, .inl rfl⟩
    · have hu : ∃ u, date_until.f n0 = some u := ⟨_, rfl⟩
      obtain ⟨u, hu⟩ := hu
      obtain ⟨l, hl⟩ := leap_any n0
      have hq : ∃ q : Nat, wrap64 (Int.tdiv mo 3) = (q : Int) ∧ q ≤ 12 := by
        refine ⟨(mo / 3).toNat, ?_, by omega⟩
        rw [Int.tdiv_eq_ediv_of_nonneg (by omega), wrap64_of_fits (by omega) (by omega)]; omega
      obtain ⟨q, hq, hq12⟩ := hq
      rw [hu, Option.bind_some, hl, Option.bind_some, hq, ahead_is q l hq12, Option.bind_some]
      exact last_test hk _ s
  · exact ⟨_, rfl, .inl rfl⟩
/-- the sum of a second's parts -/
theorem sec_sum {n y m d r : Nat} (h : Pt n y m d r) : 86400 * (Cal.U y + Cal.ah m (Cal.lp y) + d) + 3600 * ((r / 3600 : Nat) : Int) + 60 * ((r / 60 % 60 : Nat) : Int) + ((r % 60 : Nat) : Int) = n := by
  have := h.n1; omega
theorem sec_bd {n y m d r : Nat} (h : Pt n y m d r) : 0 ≤ Cal.U y ∧ Cal.U y ≤ 3000000 ∧ 0 ≤ Cal.ah m (Cal.lp y) ∧ Cal.ah m (Cal.lp y) ≤ 372 := by
  obtain ⟨b0, b1, b2, b3, b4, b5⟩ := pt_bd h
  have ha := Cal.ah_31 ⟨m, b2⟩ (Cal.lp y)
  dsimp only at ha
  have h1 := h.day_lt; have h2 := h.day
  have h3 := Cal.U_le (show (1970 : Int) ≤ y by omega); rw [Cal.U_1970] at h3
  refine ⟨by omega, by omega, by omega, by omega⟩
theorem Parse_fmt {n y m d r : Nat} (h : Pt n y m d r) {k : Nat} (hk : 9000 ≤ k) : date_Parse.f k (B (fmt (wkOf (n / 86400)) y m d r)) = some ((n : Int), 0) := by
  obtain ⟨b0, b1, b2, b3, b4, b5⟩ := pt_bd h
  obtain ⟨f0, f1, f2, f3, f4, f5, f6, f7, f8, f9⟩ := fmt_shape (wkOf (n / 86400)) (wkOf_len _) y m d r b2
  unfold date_Parse.f
  have hsz : (B (fmt (wkOf (n / 86400)) y m d r)).size = 29 := by rw [B_size, f0]
  rw [if_pos hsz, B_extract, B_extract, B_extract, B_extract, B_extract]
  simp only [Nat.reduceSub]
  rw [f1, f2, f3, f4, f5]
  rw [number_four _ (by omega), Option.bind_some, if_pos rfl, number_two _ (by omega), Option.bind_some, if_pos rfl, number_two _ (by omega), Option.bind_some, if_pos rfl, number_two _ (by omega), Option.bind_some, if_pos rfl, number_two _ (by omega), Option.bind_some, if_pos rfl]
  unfold date_Parse.tail
  rw [B_extract, show (11 - 8 : Nat) = 3 from rfl, f6, month_index m b2, Option.bind_some, if_neg (by omega), if_pos (show Int.tmod ((3 * m : Nat) : Int) 3 = 0 by have e := tmodN (3 * m) 3; rw [show ((3 : Nat) : Int) = 3 from rfl] at e; rw [e]; omega), if_neg (by omega), until_is _ (by omega) (by omega), Option.bind_some, leap_is _ (by omega), Option.bind_some]
  have e0 : wrap64 (Int.tdiv ((3 * m : Nat) : Int) 3) = (m : Int) := by have := tdivN (3 * m) 3 (by omega); rw [show 3 * m / 3 = m by omega] at this; exact this
  rw [e0, ahead_is m _ (by omega), Option.bind_some]
  clear e0
  have hb := sec_bd h
  have hs := sec_sum h
  have hsec : date_secOf (Cal.U y) (Cal.ah m (Cal.lp y)) ((d + 1 : Nat) : Int) ((r / 3600 : Nat) : Int) ((r / 60 % 60 : Nat) : Int) ((r % 60 : Nat) : Int) = n := by
    have c2 : r / 3600 ≤ 24 := by omega
    have c3 : r / 60 % 60 ≤ 60 := by omega
    have c4 : r % 60 ≤ 60 := by omega
    generalize r / 3600 = p2 at *
    generalize r / 60 % 60 = p3 at *
    generalize r % 60 = p4 at *
    generalize Cal.U y = u at *
    generalize Cal.ah m (Cal.lp y) = a at *
    unfold date_secOf
    rw [wrap64_of_fits (n := u + a) (by omega) (by omega), wrap64_of_fits (n := u + a + ((d + 1 : Nat) : Int)) (by omega) (by omega), wrap64_of_fits (n := u + a + ((d + 1 : Nat) : Int) - 1) (by omega) (by omega), wrap64_of_fits (n := (u + a + ((d + 1 : Nat) : Int) - 1) * 86400) (by omega) (by omega), wrap64_of_fits (n := (p2 : Int) * 3600) (by omega) (by omega), wrap64_of_fits (n := (p3 : Int) * 60) (by omega) (by omega), wrap64_of_fits (n := (u + a + ((d + 1 : Nat) : Int) - 1) * 86400 + (p2 : Int) * 3600) (by omega) (by omega), wrap64_of_fits (n := (u + a + ((d + 1 : Nat) : Int) - 1) * 86400 + (p2 : Int) * 3600 + (p3 : Int) * 60) (by omega) (by omega), wrap64_of_fits (by omega) (by omega)]
    omega
  rw [hsec, Format_is h hk, Option.bind_some, if_pos rfl, if_pos rfl]
end Go.Proofs.YtbbcnmdifiblfaaDoor.Q
