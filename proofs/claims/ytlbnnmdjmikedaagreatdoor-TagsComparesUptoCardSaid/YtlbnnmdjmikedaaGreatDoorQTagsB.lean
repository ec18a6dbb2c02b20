/- Tags: what Decide and Same come to where at most one field is there; the chapter's example holds. -/
import Derived.Test.YtlbnnmdjmikedaaGreatDoorQTagsA
namespace Go.Proofs.YtlbnnmdjmikedaaGreatDoor.Q
set_option linter.unusedVariables false
set_option linter.unusedSimpArgs false
open Go.RowKit Go.Proofs.YtlbnnmdjmikedaaGreatDoorW.PrintWords Go.Proofs.YtlbnnmdjmikedaaGreatDoorW.PrintLast Go.Proofs.YtlbnnmdjmikedaaGreatDoorW.PrintMore
open PP

theorem ne_of {l m : List UInt8} (h : l ≠ m) : ¬ (B l).toList = (B m).toList := by rw [B_toL, B_toL]; exact h
theorem all_nil (name : ByteArray) {k : Nat} (hk : 1 ≤ k) : tags_all.f k [] name = some (⟨#[]⟩, false) := by
  obtain ⟨j, rfl⟩ : ∃ j, k = j + 1 := ⟨k - 1, by omega⟩
  unfold tags_all.f
  rw [tags_all.l0, if_neg (by simp)]; rfl
theorem wz : wrap64 ((0 : Int) + 1) = 1 := by unfold wrap64; omega
theorem all_one (f : Fd) (name : ByteArray) {k : Nat} (hk : 2 ≤ k) : tags_all.f k [f] name = some (if f.f0.toList = name.toList then (f.f1, true) else (⟨#[]⟩, false)) := by
  obtain ⟨j, rfl⟩ : ∃ j, k = j + 1 + 1 := ⟨k - 2, by omega⟩
  unfold tags_all.f
  have e : rd_T48 [f] 0 = f := rfl
  rw [tags_all.l0, if_pos (by simp), if_pos (by omega), if_pos (by simp), e, wz]
  by_cases h : f.f0.toList = name.toList
  · rw [if_pos h, if_pos h, if_pos (by simp), tags_all.l0, if_neg (by simp)]; rfl
  · rw [if_neg h, if_neg h, tags_all.l0, if_neg (by simp)]; rfl
theorem all_hit (l m v : List UInt8) (h : l = m) {k : Nat} (hk : 2 ≤ k) : tags_all.f k [(⟨B l, B v⟩ : Fd)] (B m) = some (B v, true) := by
  rw [all_one _ _ hk, if_pos (by rw [h])]
theorem all_miss (l m : List UInt8) (v : ByteArray) (h : l ≠ m) {k : Nat} (hk : 2 ≤ k) : tags_all.f k [(⟨B l, v⟩ : Fd)] (B m) = some (⟨#[]⟩, false) := by
  rw [all_one _ _ hk, if_neg (ne_of h)]
theorem when_miss (l m : List UInt8) (v : ByteArray) (h : l ≠ m) {k : Nat} (hk : 2 ≤ k) : tags_when.f k [(⟨B l, v⟩ : Fd)] (B m) = some (0, false) := by
  unfold tags_when.f
  rw [all_miss l m v h hk, Option.bind_some, if_neg (by decide)]
theorem when_nil (m : ByteArray) {k : Nat} (hk : 1 ≤ k) : tags_when.f k [] m = some (0, false) := by
  unfold tags_when.f
  rw [all_nil m hk, Option.bind_some, if_neg (by decide)]
def IM : List UInt8 := [105, 102, 45, 109, 97, 116, 99, 104]
def INM : List UInt8 := [105, 102, 45, 110, 111, 110, 101, 45, 109, 97, 116, 99, 104]
def IUS : List UInt8 := [105, 102, 45, 117, 110, 109, 111, 100, 105, 102, 105, 101, 100, 45, 115, 105, 110, 99, 101]
def IMS : List UInt8 := [105, 102, 45, 109, 111, 100, 105, 102, 105, 101, 100, 45, 115, 105, 110, 99, 101]
def IR : List UInt8 := [105, 102, 45, 114, 97, 110, 103, 101]
theorem tb_eq (v m : List UInt8) : ((B v).toList == (B m).toList) = decide (v = m) := by
  rw [B_toL, B_toL]
  by_cases h : v = m
  · rw [h, beq_self_eq_true, decide_eq_true rfl]
  · rw [decide_eq_false h]; exact beq_eq_false_iff_ne.2 h
section
variable {body : ByteArray} {time seq : Int} {v x m : List UInt8} {k : Nat}
theorem weak_one (hP : tags_Parse.f k (B v) = some ([(⟨false, B x⟩ : Tg)], false, 0)) (hM : tags_Make.f body time seq = some (B m)) (hk : 3 ≤ k) : tags_has_Weak.f k (B v) body time seq true = some (decide (x = m)) := by
  obtain ⟨j, rfl⟩ : ∃ j, k = j + 1 + 1 + 1 := ⟨k - 3, by omega⟩
  have e : rd_T31 [(⟨false, B x⟩ : Tg)] 0 = ⟨false, B x⟩ := rfl
  unfold tags_has_Weak.f
  rw [hP, Option.bind_some, if_pos rfl, tags_has_Weak.j0, if_neg (by decide), hM, Option.bind_some, tags_has_Weak.l0, if_pos (by simp), if_pos (by omega), if_pos (by simp), if_neg (show ¬ (false = true) by decide), e, wz]
  unfold tags_Weak.f
  rw [Option.bind_some, tags_has_Weak.l0, if_neg (by simp)]
  exact congrArg some (tb_eq x m)
theorem strong_one (hP : tags_Parse.f k (B v) = some ([(⟨false, B x⟩ : Tg)], false, 0)) (hM : tags_Make.f body time seq = some (B m)) (hk : 3 ≤ k) : tags_has_Strong.f k (B v) body time seq true = some (decide (x = m)) := by
  obtain ⟨j, rfl⟩ : ∃ j, k = j + 1 + 1 + 1 := ⟨k - 3, by omega⟩
  have e : rd_T31 [(⟨false, B x⟩ : Tg)] 0 = ⟨false, B x⟩ := rfl
  unfold tags_has_Strong.f
  rw [hP, Option.bind_some, if_pos rfl, tags_has_Strong.j0, if_neg (by decide), hM, Option.bind_some, tags_has_Strong.l0, if_pos (by simp), if_pos (by omega), if_pos (by simp), if_neg (show ¬ (false = true) by decide), e, wz]
  unfold tags_Strong.f
  rw [if_neg (show ¬ (false = true) by decide), Option.bind_some, tags_has_Strong.l0, if_neg (by simp)]
  exact congrArg some (tb_eq x m)
/-- if-none-match, and nothing else -/
theorem decide_inm (meth : List UInt8) (rd : Bool) (hr : ∀ l x3, tags_Decide.j0 (k + 1) (B meth) l x3 body time seq = tags_Decide.j1 k l x3 rd body time seq)
    (hP : tags_Parse.f (k - 1) (B v) = some ([(⟨false, B x⟩ : Tg)], false, 0)) (hM : tags_Make.f body time seq = some (B m)) (hk : 4 ≤ k) :
    tags_Decide.f (k + 1) (B meth) [(⟨B INM, B v⟩ : Fd)] body time seq true = some (if x = m then (if rd = true then 304 else 412) else 0) := by
  obtain ⟨j, rfl⟩ : ∃ j, k = j + 1 := ⟨k - 1, by omega⟩
  rw [Nat.add_sub_cancel] at hP
  unfold tags_Decide.f
  rw [show (⟨#[105, 102, 45, 109, 97, 116, 99, 104]⟩ : ByteArray) = B IM from rfl, all_miss INM IM _ (by decide) (by omega), Option.bind_some, if_neg (by decide)]
  rw [show (⟨#[105, 102, 45, 117, 110, 109, 111, 100, 105, 102, 105, 101, 100, 45, 115, 105, 110, 99, 101]⟩ : ByteArray) = B IUS from rfl, when_miss INM IUS _ (by decide) (by omega), Option.bind_some, if_neg (by decide), hr, tags_Decide.j1]
  rw [show (⟨#[105, 102, 45, 110, 111, 110, 101, 45, 109, 97, 116, 99, 104]⟩ : ByteArray) = B INM from rfl, all_hit INM INM v rfl (by omega), Option.bind_some, if_pos rfl, weak_one hP hM (by omega), Option.bind_some]
  by_cases h : x = m
  · rw [if_pos (decide_eq_true h), if_pos h]
    by_cases h2 : rd = true
    · rw [if_pos h2, if_pos h2]
    · rw [if_neg h2, if_neg h2]
  · rw [if_neg (by simp [h]), if_neg h]
/-- if-match, and nothing else -/
theorem decide_im (meth : List UInt8) (rd : Bool) (hr : ∀ l x3, tags_Decide.j0 (k + 1) (B meth) l x3 body time seq = tags_Decide.j1 k l x3 rd body time seq)
    (hP : tags_Parse.f (k + 1) (B v) = some ([(⟨false, B x⟩ : Tg)], false, 0)) (hM : tags_Make.f body time seq = some (B m)) (hk : 4 ≤ k) :
    tags_Decide.f (k + 1) (B meth) [(⟨B IM, B v⟩ : Fd)] body time seq true = some (if x = m then 0 else 412) := by
  obtain ⟨j, rfl⟩ : ∃ j, k = j + 1 := ⟨k - 1, by omega⟩
  unfold tags_Decide.f
  rw [show (⟨#[105, 102, 45, 109, 97, 116, 99, 104]⟩ : ByteArray) = B IM from rfl, all_hit IM IM v rfl (by omega), Option.bind_some, if_pos rfl, strong_one hP hM (by omega), Option.bind_some]
  by_cases h : x = m
  · rw [if_pos (decide_eq_true h), if_pos h, hr, tags_Decide.j1]
    rw [show (⟨#[105, 102, 45, 110, 111, 110, 101, 45, 109, 97, 116, 99, 104]⟩ : ByteArray) = B INM from rfl, all_miss IM INM _ (by decide) (by omega), Option.bind_some, if_neg (by decide)]
    rw [show (⟨#[105, 102, 45, 109, 111, 100, 105, 102, 105, 101, 100, 45, 115, 105, 110, 99, 101]⟩ : ByteArray) = B IMS from rfl, when_miss IM IMS _ (by decide) (by omega), Option.bind_some, if_neg (by decide)]
  · rw [if_neg (by simp [h]), if_neg h]
/-- no field -/
theorem decide_nil (meth : List UInt8) (rd : Bool) (hr : ∀ l x3, tags_Decide.j0 (k + 1) (B meth) l x3 body time seq = tags_Decide.j1 k l x3 rd body time seq) (hk : 4 ≤ k) :
    tags_Decide.f (k + 1) (B meth) [] body time seq true = some 0 := by
  obtain ⟨j, rfl⟩ : ∃ j, k = j + 1 := ⟨k - 1, by omega⟩
  unfold tags_Decide.f
  rw [all_nil _ (by omega), Option.bind_some, if_neg (by decide), when_nil _ (by omega), Option.bind_some, if_neg (by decide), hr, tags_Decide.j1, all_nil _ (by omega), Option.bind_some, if_neg (by decide), when_nil _ (by omega), Option.bind_some, if_neg (by decide)]
/-- if-range -/
theorem same_ir (hN : nextL v = some (false, x, [])) (hl : v.length ≤ 140737488355328) (hM : tags_Make.f body time seq = some (B m)) (hk : v.length + 2 ≤ k) : tags_Same.f k [(⟨B IR, B v⟩ : Fd)] body time seq = some (decide (x = m)) := by
  obtain ⟨j, rfl⟩ : ∃ j, k = j + 1 := ⟨k - 1, by omega⟩
  unfold tags_Same.f
  rw [show (⟨#[105, 102, 45, 114, 97, 110, 103, 101]⟩ : ByteArray) = B IR from rfl, all_hit IR IR v rfl (by omega), Option.bind_some, if_pos rfl, next_is v hl (by omega), Option.bind_some, hN]
  show (if true = true then tags_Same.j0 (j + 1) (B v) ((B []).toList == []) body time seq false (B x) else _) = _
  rw [if_pos rfl, tags_Same.j0, B_toL, if_pos (by decide), hM, Option.bind_some]
  unfold tags_Strong.f
  rw [if_neg (by decide), Option.bind_some]
  exact congrArg some (tb_eq x m)
theorem same_nil (hk : 1 ≤ k) : tags_Same.f k [] body time seq = some true := by
  unfold tags_Same.f
  rw [all_nil _ hk, Option.bind_some, if_neg (by decide)]
theorem get_j0 (body : ByteArray) (time seq : Int) (k : Nat) : ∀ l x3, tags_Decide.j0 (k + 1) (B [71, 69, 84]) l x3 body time seq = tags_Decide.j1 k l x3 true body time seq := fun l x3 => by
  rw [tags_Decide.j0, B_toL, if_pos rfl]
theorem put_j0 (body : ByteArray) (time seq : Int) (k : Nat) : ∀ l x3, tags_Decide.j0 (k + 1) (B [80, 85, 84]) l x3 body time seq = tags_Decide.j1 k l x3 false body time seq := fun l x3 => by
  rw [tags_Decide.j0, B_toL, if_neg (by decide)]; rfl
end
theorem awake15 {k : Nat} (hk : 100 ≤ k) : ostlerlaw15_awake.f k = some true := by
  obtain ⟨k, rfl⟩ : ∃ j, k = j + 1 + 1 + 1 + 1 := ⟨k - 4, by omega⟩
  have d3 : Lib.decDigits 3 = [51] := by rw [Lib.decDigits, dif_pos (by decide)]; rfl
  have d5 : Lib.decDigits 5 = [53] := by rw [Lib.decDigits, dif_pos (by decide)]; rfl
  have p1 := Parse_is [34, 97, 34, 44, 32, 87, 47, 34, 98, 34, 32, 44] (by decide) (k := k + 1 + 1 + 1 + 1) (by simp; omega)
  have q1 : ParseT [34, 97, 34, 44, 32, 87, 47, 34, 98, 34, 32, 44] = ([⟨false, B [34, 97, 34]⟩, ⟨true, B [34, 98, 34]⟩], false, 0) := by kernel_rfl
  have p2 := Parse_is [97] (by decide) (k := k + 1 + 1 + 1 + 1) (by simp)
  have q2 : ParseT [97] = ([], false, 150) := by kernel_rfl
  have et : tagL 3 5 = [34, 51, 45, 53, 34] := by unfold tagL; rw [d3, d5]; rfl
  have hM := Make_is (⟨#[104, 101, 108, 108, 111]⟩ : ByteArray) 784111777 3 (by decide) (by decide)
  rw [show (3 : Int).toNat = 3 from rfl, show (⟨#[104, 101, 108, 108, 111]⟩ : ByteArray).size = 5 from rfl, et] at hM
  have hP : ∀ j, 12 ≤ j → tags_Parse.f j (B [34, 51, 45, 53, 34]) = some ([(⟨false, B [34, 51, 45, 53, 34]⟩ : Tg)], false, 0) := fun j hj => by
    rw [Parse_is _ (by decide) (by simp; omega)]
    have := parse_tag 3 5
    rw [et] at this; rw [this]
  unfold ostlerlaw15_awake.f
  rw [show (⟨#[34, 97, 34, 44, 32, 87, 47, 34, 98, 34, 32, 44]⟩ : ByteArray) = B [34, 97, 34, 44, 32, 87, 47, 34, 98, 34, 32, 44] from rfl, p1, q1, Option.bind_some, show (⟨#[97]⟩ : ByteArray) = B [97] from rfl, p2, q2, Option.bind_some, if_pos rfl, if_neg (by decide), if_pos rfl, ostlerlaw15_awake.j0, if_neg (by decide)]
  unfold ostlerlaw15_file.f
  have er : rd_T31 [(⟨false, B [34, 97, 34]⟩ : Tg), ⟨true, B [34, 98, 34]⟩] 1 = ⟨true, B [34, 98, 34]⟩ := rfl
  have D1 := decide_inm (k := k + 1 + 1) [71, 69, 84] true (get_j0 _ _ _ _) (hP (k + 1) (by omega)) hM (by omega)
  have D2 := decide_inm (k := k + 1 + 1) [80, 85, 84] false (put_j0 _ _ _ _) (hP (k + 1) (by omega)) hM (by omega)
  rw [if_pos rfl] at D1 D2
  rw [if_pos rfl] at D1
  rw [if_neg (by decide)] at D2
  rw [Option.bind_some, Option.bind_some, hM, Option.bind_some, B_toL, if_pos rfl, if_pos (by simp), er, B_toL, if_pos (by decide), Option.bind_some]
  rw [show (⟨#[105, 102, 45, 110, 111, 110, 101, 45, 109, 97, 116, 99, 104]⟩ : ByteArray) = B INM from rfl, show (⟨#[34, 51, 45, 53, 34]⟩ : ByteArray) = B [34, 51, 45, 53, 34] from rfl, show (⟨#[71, 69, 84]⟩ : ByteArray) = B [71, 69, 84] from rfl, show (⟨#[80, 85, 84]⟩ : ByteArray) = B [80, 85, 84] from rfl]
  rw [D1, Option.bind_some, if_pos rfl, Option.bind_some, D2, Option.bind_some, if_pos rfl, Option.bind_some, same_nil (by omega), Option.bind_some]
end Go.Proofs.YtlbnnmdjmikedaaGreatDoor.Q
