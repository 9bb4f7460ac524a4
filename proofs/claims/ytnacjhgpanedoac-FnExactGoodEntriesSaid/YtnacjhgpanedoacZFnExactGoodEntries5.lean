/- Texts of a row. -/
import Derived.Test.YtnacjhgpanedoacZFnExactGoodEntries4
import Derived.Lib.IndexLaws
namespace Go.Proofs.Ytnacjhgpanedoac.Pure
open Go.RowKit Go.Proofs.Ytnacjhgpanedoac.PFnExactGoodEntries Go.Proofs.Ytnacjhgpanedoac.OFnExactGoodEntries Go.Proofs.YtnacjhgpanedoacW.PrintWords Go.Proofs.YtnacjhgpanedoacW.PrintLast Go.Proofs.YtnacjhgpanedoacW.PrintMore Go.Proofs.YtnacjhgpanedoacO
set_option linter.unusedVariables false
set_option linter.unusedSimpArgs false
theorem st_spec_FormsOf_j0 {r : (List Int)} {x3 : ByteArray} {x4 : Bool} (h : Ev (fun k => if x4 = true then (some (([1, 5] : List Int))) else (if x3.toList = ([106, 97] : List UInt8) then (some (([5] : List Int))) else (if x3.toList = ([99, 115] : List UInt8) then (some (([1, 3, 5] : List Int))) else (if x3.toList = ([112, 108] : List UInt8) then (spec_FormsOf.j1 k x3 true) else (spec_FormsOf.j1 k x3 (x3.toList == ([114, 117] : List UInt8))))))) r) : Ev (fun k => spec_FormsOf.j0 k x3 x4) r := Ev.step (fun k => by rw [spec_FormsOf.j0]) h
theorem st_spec_FormsOf_j1 {r : (List Int)} {x3 : ByteArray} {x14 : Bool} (h : Ev (fun _ => if x14 = true then (some (([1, 3, 4] : List Int))) else (if x3.toList = ([97, 114] : List UInt8) then (some (([1, 2, 3, 4, 5] : List Int))) else (some ([] : List Int)))) r) : Ev (fun k => spec_FormsOf.j1 k x3 x14) r := Ev.step (fun k => by rw [spec_FormsOf.j1]) h
theorem st_spec_GoodName_j0 {r : (Bool)} {x0 : ByteArray} {x16 : Bool} (h : Ev (fun k => if x16 = true then (some false) else (spec_GoodName.l0 k x0 0)) r) : Ev (fun k => spec_GoodName.j0 k x0 x16) r := Ev.step (fun k => by rw [spec_GoodName.j0]) h
theorem st_spec_GoodName_l0 {r : (Bool)} {x0 : ByteArray} {x3 : Int} (h : Ev (fun k => if x3 < (x0.size : Int) then (if 0 ≤ x3 then ((spec_l1Letter.f (bt x0 x3)).bind fun t122 => (if t122 = true then (spec_GoodName.l0 k x0 (wrap64 (x3 + 1))) else ((spec_l1Digit.f (bt x0 x3)).bind fun t123 => (if t123 = true then (spec_GoodName.l0 k x0 (wrap64 (x3 + 1))) else (some false))))) else (none)) else (some true)) r) : Ev (fun k => spec_GoodName.l0 k x0 x3) r := Ev.step (fun k => by rw [spec_GoodName.l0]) h
theorem st_spec_l19Keys_l0 {r : (Bool)} {x0 : List (S36)} {x8 : List (S36)} {x9 : Int} {x10 : Int} (h : Ev (fun k => if x10 < x9 then (if 0 ≤ x10 then (if x10 < (x8.length : Int) then ((spec_GoodName.f k ((rd_T36 x8 x10).f0)).bind fun t126 => (if t126 = true then (if x10 > 0 then (if 0 ≤ (wrap64 (x10 - 1)) then (if (wrap64 (x10 - 1)) < (x0.length : Int) then (if ((Op.bytesLess (((rd_T36 x0 (wrap64 (x10 - 1))).f0).toList) (((rd_T36 x8 x10).f0).toList)) = true) then (spec_l19Keys.l0 k x0 x8 x9 (wrap64 (x10 + 1))) else (some false)) else (none)) else (none)) else (spec_l19Keys.l0 k x0 x8 x9 (wrap64 (x10 + 1)))) else (some false))) else (none)) else (none)) else (some true)) r) : Ev (fun k => spec_l19Keys.l0 k x0 x8 x9 x10) r := Ev.step (fun k => by rw [spec_l19Keys.l0]) h
theorem st_spec_l19Fill_l0 {r : (ByteArray × Bool)} {x0 : ByteArray} {x1 : List (S46)} {x6 : ByteArray} {x7 : Int} (h : Ev (fun k => if x7 < (x0.size : Int) then (if 0 ≤ x7 then (if (bt x0 x7) = 125 then (some ((⟨#[]⟩ : ByteArray), false)) else (if (bt x0 x7) = 123 then (spec_l19Fill.l1 k x0 x1 x6 x7 (wrap64 (x7 + 1))) else (if x7 ≤ (wrap64 (x7 + 1)) then (if (wrap64 (x7 + 1)) ≤ (x0.size : Int) then (if x6.size + (x0.extract (x7 : Int).toNat ((wrap64 (x7 + 1)) : Int).toNat).size ≤ 9223372036854775807 then (spec_l19Fill.l0 k x0 x1 (x6 ++ (x0.extract (x7 : Int).toNat ((wrap64 (x7 + 1)) : Int).toNat)) (wrap64 (x7 + 1))) else (none)) else (none)) else (none)))) else (none)) else (some (x6, true))) r) : Ev (fun k => spec_l19Fill.l0 k x0 x1 x6 x7) r := Ev.step (fun k => by rw [spec_l19Fill.l0]) h
theorem st_spec_l19Fill_j2 {r : (ByteArray × Bool)} {x0 : ByteArray} {x1 : List (S46)} {x6 : ByteArray} {x7 : Int} {x8 : Int} (h : Ev (fun k => if x8 = (x0.size : Int) then (spec_l19Fill.j3 k x0 x1 x6 x7 x8 true) else (if 0 ≤ (wrap64 (x7 + 1)) then (if (wrap64 (x7 + 1)) ≤ x8 then (if x8 ≤ (x0.size : Int) then ((spec_GoodName.f k (x0.extract ((wrap64 (x7 + 1)) : Int).toNat (x8 : Int).toNat)).bind fun t128 => (spec_l19Fill.j3 k x0 x1 x6 x7 x8 (!t128))) else (none)) else (none)) else (none))) r) : Ev (fun k => spec_l19Fill.j2 k x0 x1 x6 x7 x8) r := Ev.step (fun k => by rw [spec_l19Fill.j2]) h
theorem st_spec_l19Fill_j3 {r : (ByteArray × Bool)} {x0 : ByteArray} {x1 : List (S46)} {x6 : ByteArray} {x7 : Int} {x8 : Int} {x62 : Bool} (h : Ev (fun k => if x62 = true then (some ((⟨#[]⟩ : ByteArray), false)) else (if 0 ≤ x7 then (if x7 ≤ (wrap64 (x8 + 1)) then (if (wrap64 (x8 + 1)) ≤ (x0.size : Int) then (spec_l19Fill.l2 k x0 x1 x6 x7 x8 (x0.extract (x7 : Int).toNat ((wrap64 (x8 + 1)) : Int).toNat) x1 (x1.length : Int) 0) else (none)) else (none)) else (none))) r) : Ev (fun k => spec_l19Fill.j3 k x0 x1 x6 x7 x8 x62) r := Ev.step (fun k => by rw [spec_l19Fill.j3]) h
theorem st_spec_l19Fill_l2 {r : (ByteArray × Bool)} {x0 : ByteArray} {x1 : List (S46)} {x6 : ByteArray} {x7 : Int} {x8 : Int} {x9 : ByteArray} {x68 : List (S46)} {x69 : Int} {x70 : Int} (h : Ev (fun k => if x70 < x69 then (if 0 ≤ x70 then (if x70 < (x68.length : Int) then (if 0 ≤ (wrap64 (x7 + 1)) then (if (wrap64 (x7 + 1)) ≤ x8 then (if x8 ≤ (x0.size : Int) then (if ((rd_T46 x68 x70).f0).toList = (x0.extract ((wrap64 (x7 + 1)) : Int).toNat (x8 : Int).toNat).toList then (spec_l19Fill.l2 k x0 x1 x6 x7 x8 ((rd_T46 x68 x70).f1) x68 x69 (wrap64 (x70 + 1))) else (spec_l19Fill.l2 k x0 x1 x6 x7 x8 x9 x68 x69 (wrap64 (x70 + 1)))) else (none)) else (none)) else (none)) else (none)) else (none)) else (if x6.size + x9.size ≤ 9223372036854775807 then (spec_l19Fill.l0 k x0 x1 (x6 ++ x9) (wrap64 (x8 + 1))) else (none))) r) : Ev (fun k => spec_l19Fill.l2 k x0 x1 x6 x7 x8 x9 x68 x69 x70) r := Ev.step (fun k => by rw [spec_l19Fill.l2]) h
theorem st_spec_l19Fill_l1 {r : (ByteArray × Bool)} {x0 : ByteArray} {x1 : List (S46)} {x6 : ByteArray} {x7 : Int} {x8 : Int} (h : Ev (fun k => if x8 < (x0.size : Int) then (if 0 ≤ x8 then (if (bt x0 x8) = 125 then (spec_l19Fill.j2 k x0 x1 x6 x7 x8) else (spec_l19Fill.l1 k x0 x1 x6 x7 (wrap64 (x8 + 1)))) else (none)) else (spec_l19Fill.j2 k x0 x1 x6 x7 x8)) r) : Ev (fun k => spec_l19Fill.l1 k x0 x1 x6 x7 x8) r := Ev.step (fun k => by rw [spec_l19Fill.l1]) h
theorem st_spec_GoodEntries_j0 {r : (Bool)} {x1 : List (S36)} {x5 : Int} {x22 : Bool} (h : Ev (fun k => if x22 = true then (some false) else (spec_GoodEntries.l0 k x5 x1 (x1.length : Int) 0)) r) : Ev (fun k => spec_GoodEntries.j0 k x1 x5 x22) r := Ev.step (fun k => by rw [spec_GoodEntries.j0]) h
theorem st_spec_GoodEntries_l0 {r : (Bool)} {x5 : Int} {x23 : List (S36)} {x24 : Int} {x25 : Int} (h : Ev (fun k => if x25 < x24 then (if 0 ≤ x25 then (if x25 < (x23.length : Int) then (if (rd_T36 x23 x25).f2 = true then (spec_GoodEntries.j2 k x5 x5 x23 x24 x25 ((rd_T36 x23 x25).f0) ((rd_T36 x23 x25).f1) true) else (spec_GoodEntries.j2 k x5 1 x23 x24 x25 ((rd_T36 x23 x25).f0) ((rd_T36 x23 x25).f1) false)) else (none)) else (none)) else (some true)) r) : Ev (fun k => spec_GoodEntries.l0 k x5 x23 x24 x25) r := Ev.step (fun k => by rw [spec_GoodEntries.l0]) h
theorem st_spec_GoodEntries_j2 {r : (Bool)} {x5 : Int} {x8 : Int} {x23 : List (S36)} {x24 : Int} {x25 : Int} {x137000 : ByteArray} {x137001 : List ByteArray} {x137002 : Bool} (h : Ev (fun k => if (x137001.length : Int) = x8 then (spec_GoodEntries.l1 k x5 x23 x24 x25 x137001 (x137001.length : Int) 0) else (some false)) r) : Ev (fun k => spec_GoodEntries.j2 k x5 x8 x23 x24 x25 x137000 x137001 x137002) r := Ev.step (fun k => by rw [spec_GoodEntries.j2]) h
theorem st_spec_GoodEntries_l1 {r : (Bool)} {x5 : Int} {x23 : List (S36)} {x24 : Int} {x25 : Int} {x38 : List ByteArray} {x39 : Int} {x40 : Int} (h : Ev (fun k => if x40 < x39 then (if 0 ≤ x40 then (if x40 < (x38.length : Int) then ((spec_l19Fill.f k (rdOf ByteArray.empty x38 x40) ([] : List (S46))).bind fun bt138 => (if bt138.2 = true then (spec_GoodEntries.l1 k x5 x23 x24 x25 x38 x39 (wrap64 (x40 + 1))) else (some false))) else (none)) else (none)) else (spec_GoodEntries.l0 k x5 x23 x24 (wrap64 (x25 + 1)))) r) : Ev (fun k => spec_GoodEntries.l1 k x5 x23 x24 x25 x38 x39 x40) r := Ev.step (fun k => by rw [spec_GoodEntries.l1]) h
theorem st_impl_FormsOf_j0 {r : (List Int)} {x3 : ByteArray} {x4 : Bool} (h : Ev (fun k => if x4 = true then (some (([1, 5] : List Int))) else (if x3.toList = ([106, 97] : List UInt8) then (some (([5] : List Int))) else (if x3.toList = ([99, 115] : List UInt8) then (some (([1, 3, 5] : List Int))) else (if x3.toList = ([112, 108] : List UInt8) then (impl_FormsOf.j1 k x3 true) else (impl_FormsOf.j1 k x3 (x3.toList == ([114, 117] : List UInt8))))))) r) : Ev (fun k => impl_FormsOf.j0 k x3 x4) r := Ev.step (fun k => by rw [impl_FormsOf.j0]) h
theorem st_impl_FormsOf_j1 {r : (List Int)} {x3 : ByteArray} {x14 : Bool} (h : Ev (fun _ => if x14 = true then (some (([1, 3, 4] : List Int))) else (if x3.toList = ([97, 114] : List UInt8) then (some (([1, 2, 3, 4, 5] : List Int))) else (some ([] : List Int)))) r) : Ev (fun k => impl_FormsOf.j1 k x3 x14) r := Ev.step (fun k => by rw [impl_FormsOf.j1]) h
theorem st_impl_GoodName_l0 {r : (Bool)} {x0 : ByteArray} {x5 : Int} {x6 : Int} (h : Ev (fun k => if x6 < x5 then (if 0 ≤ x6 then (if x6 < (x0.size : Int) then ((impl_isLetter.f (bt x0 x6)).bind fun t177 => (if t177 = true then (impl_GoodName.l0 k x0 x5 (wrap64 (x6 + 1))) else (if (bt x0 x6) = 95 then (impl_GoodName.l0 k x0 x5 (wrap64 (x6 + 1))) else (if x6 = 0 then (some false) else ((impl_isDigit.f (bt x0 x6)).bind fun t178 => (if t178 = true then (impl_GoodName.l0 k x0 x5 (wrap64 (x6 + 1))) else (some false))))))) else (none)) else (none)) else ((impl_inRange.f (x0.size : Int) 1 20).bind fun t176 => (some t176))) r) : Ev (fun k => impl_GoodName.l0 k x0 x5 x6) r := Ev.step (fun k => by rw [impl_GoodName.l0]) h
theorem st_impl_areKeyed_l0 {r : (Bool)} {x0 : List (S36)} {x5 : List (S36)} {x6 : Int} {x7 : Int} (h : Ev (fun k => if x7 < x6 then (if 0 ≤ x7 then (if x7 < (x5.length : Int) then ((impl_GoodName.f k ((rd_T36 x5 x7).f0)).bind fun t181 => (if t181 = true then (if x7 > 0 then (if 0 ≤ (wrap64 (x7 - 1)) then (if (wrap64 (x7 - 1)) < (x0.length : Int) then (if ((Op.bytesLess (((rd_T36 x0 (wrap64 (x7 - 1))).f0).toList) (((rd_T36 x5 x7).f0).toList)) = true) then (impl_areKeyed.l0 k x0 x5 x6 (wrap64 (x7 + 1))) else (some false)) else (none)) else (none)) else (impl_areKeyed.l0 k x0 x5 x6 (wrap64 (x7 + 1)))) else (some false))) else (none)) else (none)) else (some (decide ((x0.length : Int) ≤ 60)))) r) : Ev (fun k => impl_areKeyed.l0 k x0 x5 x6 x7) r := Ev.step (fun k => by rw [impl_areKeyed.l0]) h
theorem st_impl_isPattern_l0 {r : (Bool)} {x0 : ByteArray} (h : Ev (fun k => if x0.toList = ([] : List UInt8) then (some true) else ((impl_field.f k x0).bind fun bt187 => (if bt187.2.1.toList = ([] : List UInt8) then (if bt187.2.2.toList = ([] : List UInt8) then (impl_isPattern.l0 k bt187.2.2) else (some false)) else (impl_isPattern.l0 k bt187.2.2)))) r) : Ev (fun k => impl_isPattern.l0 k x0) r := Ev.step (fun k => by rw [impl_isPattern.l0]) h
theorem st_impl_GoodEntries_j0 {r : (Bool)} {x1 : List (S36)} {x5 : List Int} {x16 : Bool} (h : Ev (fun k => if x16 = true then (some false) else (impl_GoodEntries.l0 k x5 x1 (x1.length : Int) 0)) r) : Ev (fun k => impl_GoodEntries.j0 k x1 x5 x16) r := Ev.step (fun k => by rw [impl_GoodEntries.j0]) h
theorem st_impl_GoodEntries_l0 {r : (Bool)} {x5 : List Int} {x17 : List (S36)} {x18 : Int} {x19 : Int} (h : Ev (fun k => if x19 < x18 then (if 0 ≤ x19 then (if x19 < (x17.length : Int) then (if (rd_T36 x17 x19).f2 = true then (if (((rd_T36 x17 x19).f1).length : Int) = (x5.length : Int) then (if ((rd_T36 x17 x19).f2 = true) then (impl_GoodEntries.j2 k x5 x17 x18 x19 false ((rd_T36 x17 x19).f0) ((rd_T36 x17 x19).f1) ((rd_T36 x17 x19).f2)) else (impl_GoodEntries.j2 k x5 x17 x18 x19 ((((rd_T36 x17 x19).f1).length : Int) != 1) ((rd_T36 x17 x19).f0) ((rd_T36 x17 x19).f1) ((rd_T36 x17 x19).f2))) else (impl_GoodEntries.j2 k x5 x17 x18 x19 true ((rd_T36 x17 x19).f0) ((rd_T36 x17 x19).f1) ((rd_T36 x17 x19).f2))) else (if ((rd_T36 x17 x19).f2 = true) then (impl_GoodEntries.j2 k x5 x17 x18 x19 false ((rd_T36 x17 x19).f0) ((rd_T36 x17 x19).f1) ((rd_T36 x17 x19).f2)) else (impl_GoodEntries.j2 k x5 x17 x18 x19 ((((rd_T36 x17 x19).f1).length : Int) != 1) ((rd_T36 x17 x19).f0) ((rd_T36 x17 x19).f1) ((rd_T36 x17 x19).f2)))) else (none)) else (none)) else (some true)) r) : Ev (fun k => impl_GoodEntries.l0 k x5 x17 x18 x19) r := Ev.step (fun k => by rw [impl_GoodEntries.l0]) h
theorem st_impl_GoodEntries_j2 {r : (Bool)} {x5 : List Int} {x17 : List (S36)} {x18 : Int} {x19 : Int} {x43 : Bool} {x200000 : ByteArray} {x200001 : List ByteArray} {x200002 : Bool} (h : Ev (fun k => if x43 = true then (some false) else ((slices_ContainsFunc_w17.f k x200001).bind fun t200 => (if t200 = true then (some false) else (impl_GoodEntries.l0 k x5 x17 x18 (wrap64 (x19 + 1)))))) r) : Ev (fun k => impl_GoodEntries.j2 k x5 x17 x18 x19 x43 x200000 x200001 x200002) r := Ev.step (fun k => by rw [impl_GoodEntries.j2]) h
theorem inr_some (a b c : Int) : impl_inRange.f a b c = some (decide (b ≤ a ∧ a ≤ c)) := by
  unfold impl_inRange.f
  split <;> simp_all <;> omega
def nameChar (c : Int) : Bool := decide (97 ≤ c ∧ c ≤ 122) || decide (65 ≤ c ∧ c ≤ 90) || decide (c = 95)
def digitChar (c : Int) : Bool := decide (48 ≤ c ∧ c ≤ 57)
def CharOk (s : ByteArray) (i : Nat) : Prop := nameChar (bt s (i : Int)) = true ∨ 0 < i ∧ digitChar (bt s (i : Int)) = true
def NameOk (s : ByteArray) : Prop := (1 ≤ s.size ∧ s.size ≤ 20) ∧ ∀ i, i < s.size → CharOk s i
theorem letter_spec (c : Int) : spec_l1Letter.f c = some (nameChar c) := by
  unfold spec_l1Letter.f nameChar
  repeat' split
  all_goals (congr 1; rw [Bool.eq_iff_iff]; simp; try omega)
theorem digit_spec (c : Int) : spec_l1Digit.f c = some (digitChar c) := by
  unfold spec_l1Digit.f digitChar
  repeat' split
  all_goals (congr 1; rw [Bool.eq_iff_iff]; simp; try omega)
theorem digit_impl (c : Int) : impl_isDigit.f c = some (digitChar c) := by
  unfold impl_isDigit.f digitChar
  repeat' split
  all_goals (congr 1; rw [Bool.eq_iff_iff]; simp; try omega)
theorem letter_impl (c : Int) : ∃ b, impl_isLetter.f c = some b ∧ (nameChar c = true ↔ b = true ∨ c = 95) := by
  unfold impl_isLetter.f nameChar
  repeat' split
  all_goals (refine ⟨_, rfl, ?_⟩; simp; try omega)
theorem name_impl (s : ByteArray) (hs : s.size ≤ 140737488351232) (b : Bool) (hb : b = true ↔ NameOk s) : Ev (fun k => impl_GoodName.f k s) b := by
  refine ev_all s.size (fun k i => impl_GoodName.l0 k s (s.size : Int) (i : Int)) (CharOk s) (decide (1 ≤ (s.size : Int) ∧ (s.size : Int) ≤ 20)) b ?_ ?_ ?_ ?_
  · rw [hb]; unfold NameOk; simp; omega
  · exact st_impl_GoodName_l0 (ev_neg (by omega) (ev_bindc (inr_some _ _ _) (ev_some rfl)))
  · intro i hi _ ho r hr
    refine st_impl_GoodName_l0 (ev_pos (by omega) (ev_pos (by omega) (ev_pos (by omega) ?_)))
    obtain ⟨q, hq, hn⟩ := letter_impl (bt s (i : Int))
    rw [w64s i (by omega)]
    refine ev_bindc hq (ev_ite (fun _ => hr) fun h1 => ev_ite (fun _ => hr) fun h2 => ?_)
    rcases ho with ho | ⟨ho, hd⟩
    · rcases hn.1 ho with h | h
      · exact absurd h h1
      · exact absurd h h2
    · exact ev_neg (by omega) (ev_bindc (digit_impl _) (ev_pos hd hr))
  · intro i hi _ ho
    refine st_impl_GoodName_l0 (ev_pos (by omega) (ev_pos (by omega) (ev_pos (by omega) ?_)))
    obtain ⟨q, hq, hn⟩ := letter_impl (bt s (i : Int))
    refine ev_bindc hq (ev_ite (fun h => absurd (.inl (hn.2 (.inl h))) ho) fun h1 => ev_ite (fun h => absurd (.inl (hn.2 (.inr h))) ho) fun h2 => ev_ite (fun _ => ev_some rfl) fun h3 => ?_)
    exact ev_bindc (digit_impl _) (ev_neg (fun h => ho (.inr ⟨by omega, h⟩)) (ev_some rfl))
theorem name_spec (s : ByteArray) (b : Bool) (hb : b = true ↔ NameOk s) : Ev (fun k => spec_GoodName.f k s) b := by
  have j0t : Ev (fun k => spec_GoodName.j0 k s true) false := st_spec_GoodName_j0 (ev_pos rfl (ev_some rfl))
  by_cases h1 : (s.size : Int) < 1
  · rw [bool_false hb (fun h => by have := h.1; omega)]
    exact ev_pos h1 j0t
  · by_cases h2 : (s.size : Int) > 20
    · rw [bool_false hb (fun h => by have := h.1; omega)]
      exact ev_neg h1 (ev_pos h2 j0t)
    · refine ev_neg h1 (ev_neg h2 (ev_pos (by omega) (ev_bindc (digit_spec _) ?_)))
      cases hd : digitChar (bt s 0) with
      | true =>
        rw [bool_false hb (fun h => by
          have h0 : CharOk s 0 := h.2 0 (by omega)
          rcases h0 with h0 | h0
          · have h0 : nameChar (bt s 0) = true := h0
            generalize bt s 0 = c at hd h0
            simp [nameChar, digitChar] at hd h0; omega
          · omega)]
        exact j0t
      | false =>
        refine st_spec_GoodName_j0 (ev_neg (by decide) ?_)
        refine ev_all s.size (fun k i => spec_GoodName.l0 k s (i : Int)) (CharOk s) true b ?_ ?_ ?_ ?_
        · rw [hb]; unfold NameOk; constructor
          · exact fun h => ⟨rfl, h.2⟩
          · exact fun h => ⟨by omega, h.2⟩
        · exact st_spec_GoodName_l0 (ev_neg (by omega) (ev_some rfl))
        · intro i hi _ ho r hr
          refine st_spec_GoodName_l0 (ev_pos (by omega) (ev_pos (by omega) (ev_bindc (letter_spec _) (ev_ite (fun _ => by rw [w64s i (by omega)]; exact hr) fun hl => ev_bindc (digit_spec _) ?_))))
          rcases ho with ho | ⟨_, ho⟩
          · exact absurd ho hl
          · refine ev_pos ho ?_
            rw [w64s i (by omega)]; exact hr
        · intro i hi _ ho
          refine st_spec_GoodName_l0 (ev_pos (by omega) (ev_pos (by omega) (ev_bindc (letter_spec _) (ev_neg (fun h => ho (.inl h)) (ev_bindc (digit_spec _) (ev_neg (fun h => ho ?_) (ev_some rfl)))))))
          rcases Nat.eq_zero_or_pos i with rfl | hp
          · have h' : digitChar (bt s 0) = true := h
            rw [hd] at h'; cases h'
          · exact .inr ⟨hp, h⟩
theorem ext_tail (s : ByteArray) (a c : Nat) (h : a ≤ s.size) : (s.extract a s.size).extract c (s.extract a s.size).size = s.extract (a + c) s.size := by
  rw [ByteArray.extract_extract, ByteArray.size_extract]
  congr 1
  omega
theorem ext_mid (s : ByteArray) (a c d : Nat) (h : a + d ≤ s.size) : (s.extract a s.size).extract c d = s.extract (a + c) (a + d) := by
  rw [ByteArray.extract_extract]
  congr 1
  omega
theorem ext_size (s : ByteArray) (a b : Nat) (h : b ≤ s.size) : (s.extract a b).size = b - a := by
  rw [ByteArray.size_extract]; omega
theorem bt_get (s : ByteArray) (i : Nat) (h : i < s.size) : bt s (i : Int) = ((s[i]'h).toNat : Int) := by
  unfold bt
  rw [dif_pos (by simpa using h)]
  rfl
theorem bt_ext (s : ByteArray) (a j : Nat) (h : a + j < s.size) : bt (s.extract a s.size) (j : Int) = bt s ((a + j : Nat) : Int) := by
  have hs := ext_size s a s.size (Nat.le_refl _)
  rw [bt_get _ _ (by omega), bt_get _ _ h, ByteArray.getElem_extract]
theorem list_nil (s : ByteArray) : s.toList = [] ↔ s.size = 0 := by
  rw [Lib.toList_data, Lib.size_eq, List.length_eq_zero_iff]
def Br (s : ByteArray) (i : Nat) : Prop := bt s (i : Int) = 123 ∨ bt s (i : Int) = 125
theorem br_has (s : ByteArray) (i : Nat) (h : i < s.size) : braces.data.toList.contains (s[i]'h) = true ↔ Br s i := by
  unfold Br
  rw [bt_get s i h]
  have e : braces.data.toList = [123, 125] := rfl
  rw [e]
  constructor
  · intro hc
    have hc : s[i] = 123 ∨ s[i] = 125 := by simpa using hc
    rcases hc with hc | hc
    · left; rw [hc]; rfl
    · right; rw [hc]; rfl
  · intro hc
    have : s[i] = 123 ∨ s[i] = 125 := by
      rcases hc with hc | hc
      · left; exact UInt8.toNat_inj.1 (by show s[i].toNat = 123; omega)
      · right; exact UInt8.toNat_inj.1 (by show s[i].toNat = 125; omega)
    simpa using this
theorem first_of (P : Nat → Prop) : ∀ n, (∀ i, i < n → ¬ P i) ∨ ∃ p, p < n ∧ P p ∧ ∀ i, i < p → ¬ P i
  | 0 => .inl fun i hi => absurd hi (Nat.not_lt_zero i)
  | n + 1 => by
    rcases first_of P n with h | ⟨p, hp, h⟩
    · by_cases hn : P n
      · exact .inr ⟨n, Nat.lt_succ_self n, hn, h⟩
      · refine .inl fun i hi => ?_
        rcases Nat.lt_or_ge i n with h' | h'
        · exact h i h'
        · obtain rfl : i = n := by omega
          exact hn
    · exact .inr ⟨p, by omega, h⟩
theorem any_cases (s : ByteArray) : (Lib.indexAny s.data.toList braces.data.toList = -1 ∧ ∀ i, i < s.size → ¬ Br s i) ∨ ∃ p : Nat, p < s.size ∧ Lib.indexAny s.data.toList braces.data.toList = (p : Int) ∧ Br s p ∧ ∀ i, i < p → ¬ Br s i := by
  have no : ∀ n, n ≤ s.size → (∀ i, i < n → ¬ Br s i) → Lib.NoAny s.data.toList braces.data.toList n := by
    intro n hn h j b hj hb
    have hjs : j < s.size := by omega
    rw [Lib.data_getElem? s j hjs] at hb
    injection hb with hb
    rw [← hb]
    exact Bool.eq_false_iff.2 fun hc => h j hj ((br_has s j hjs).1 hc)
  rcases first_of (Br s) s.size with h | ⟨p, hp, hb, h⟩
  · refine .inl ⟨Lib.indexAny_none ?_, h⟩
    rw [← Lib.size_eq]
    exact no s.size (Nat.le_refl _) h
  · exact .inr ⟨p, hp, Lib.indexAny_hit (no p (by omega) h) (Lib.data_getElem? s p hp) ((br_has s p hp).2 hb), hb, h⟩
theorem byte_cases (s : ByteArray) : (Lib.indexByte s.data.toList 125 = -1 ∧ ∀ i, i < s.size → bt s (i : Int) ≠ 125) ∨ ∃ o : Nat, o < s.size ∧ Lib.indexByte s.data.toList 125 = (o : Int) ∧ bt s (o : Int) = 125 ∧ ∀ i, i < o → bt s (i : Int) ≠ 125 := by
  have at_ : ∀ i, i < s.size → bt s (i : Int) = 125 → s.data.toList[i]? = some 125 := by
    intro i hi h
    rw [bt_get s i hi] at h
    rw [Lib.data_getElem? s i hi]
    congr 1
    exact UInt8.toNat_inj.1 (by show s[i].toNat = 125; omega)
  by_cases hm : Lib.indexByte s.data.toList 125 = -1
  · exact .inl ⟨hm, fun i hi h => Lib.indexByte_none hm i (at_ i hi h)⟩
  · have hge := Lib.indexByte_ge s.data.toList 125
    obtain ⟨o, ho⟩ : ∃ o : Nat, Lib.indexByte s.data.toList 125 = (o : Int) := ⟨(Lib.indexByte s.data.toList 125).toNat, by omega⟩
    obtain ⟨h1, h2⟩ := Lib.indexByte_some ho
    have hos : o < s.size := by
      rw [Lib.size_eq]
      exact (List.getElem?_eq_some_iff.1 h1).1
    refine .inr ⟨o, hos, ho, ?_, fun i hi h => h2 i hi (at_ i (by omega) h)⟩
    rw [Lib.data_getElem? s o hos] at h1
    injection h1 with h1
    rw [bt_get s o hos, h1]
    rfl
theorem fill_run (s : ByteArray) (hs : s.size ≤ 200) : ∀ (n at_ : Nat) (acc : ByteArray), at_ + n ≤ s.size → acc.size ≤ at_ → (∀ i, at_ ≤ i → i < at_ + n → ¬ Br s i) →
    ∃ acc' : ByteArray, acc'.size ≤ at_ + n ∧ ∀ r, Ev (fun k => spec_l19Fill.l0 k s [] acc' ((at_ + n : Nat) : Int)) r → Ev (fun k => spec_l19Fill.l0 k s [] acc (at_ : Int)) r
  | 0, at_, acc, h, ha, hb => ⟨acc, ha, fun r hr => hr⟩
  | n + 1, at_, acc, h, ha, hb => by
    have e1 : wrap64 ((at_ : Int) + 1) = ((at_ + 1 : Nat) : Int) := w64s at_ (by omega)
    have hpz : (s.extract at_ (at_ + 1)).size = 1 := by rw [ext_size s _ _ (by omega)]; omega
    obtain ⟨acc', h1, h2⟩ := fill_run s hs n (at_ + 1) (acc ++ s.extract at_ (at_ + 1)) (by omega) (by rw [ByteArray.size_append, hpz]; omega) (fun i h1 h2 => hb i (by omega) (by omega))
    refine ⟨acc', by omega, fun r hr => st_spec_l19Fill_l0 (ev_pos (by omega) (ev_pos (by omega) (ev_neg ?_ (ev_neg ?_ ?_))))⟩
    · exact fun h => hb at_ (by omega) (by omega) (.inr h)
    · exact fun h => hb at_ (by omega) (by omega) (.inl h)
    · rw [e1]
      have t0 : ((at_ : Int)).toNat = at_ := rfl
      have t1 : (((at_ + 1 : Nat) : Int)).toNat = at_ + 1 := rfl
      rw [t0, t1]
      refine ev_pos (by omega) (ev_pos (by omega) (ev_pos (by rw [hpz]; omega) ?_))
      have e2 : at_ + (n + 1) = at_ + 1 + n := by omega
      rw [e2] at hr
      exact h2 r hr
theorem fill_end (s : ByteArray) (hs : s.size ≤ 200) (acc : ByteArray) (q : Nat) : ∀ (n i : Nat), i + n ≤ s.size → (∀ j, i ≤ j → j < i + n → bt s (j : Int) ≠ 125) → (i + n = s.size ∨ bt s ((i + n : Nat) : Int) = 125) →
    ∀ r, Ev (fun k => spec_l19Fill.j2 k s [] acc (q : Int) ((i + n : Nat) : Int)) r → Ev (fun k => spec_l19Fill.l1 k s [] acc (q : Int) (i : Int)) r
  | 0, i, h, hb, he, r, hr => by
    by_cases hi : i < s.size
    · refine st_spec_l19Fill_l1 (ev_pos (by omega) (ev_pos (by omega) (ev_pos ?_ hr)))
      rcases he with he | he
      · omega
      · exact he
    · exact st_spec_l19Fill_l1 (ev_neg (by omega) hr)
  | n + 1, i, h, hb, he, r, hr => by
    have e2 : i + (n + 1) = i + 1 + n := by omega
    rw [e2] at he hr
    refine st_spec_l19Fill_l1 (ev_pos (by omega) (ev_pos (by omega) (ev_neg (hb i (by omega) (by omega)) ?_)))
    rw [w64s i (by omega)]
    exact fill_end s hs acc q n (i + 1) (by omega) (fun j h1 h2 => hb j (by omega) (by omega)) he r hr
theorem empty_true : Ev (fun k => impl_isPattern.l0 k (⟨#[]⟩ : ByteArray)) true := st_impl_isPattern_l0 (ev_pos ((list_nil _).2 rfl) (ev_some rfl))
theorem any_call (t : ByteArray) (ht : t.size ≤ 200) (v : Int) (h : Lib.indexAny t.data.toList braces.data.toList = v) : strings_IndexAny.f t (⟨#[123, 125]⟩ : ByteArray) = some v := by
  unfold strings_IndexAny.f
  rw [if_pos (show (⟨#[123, 125]⟩ : ByteArray) = braces from rfl), if_pos (by clear h; omega), h]
theorem byte_call (t : ByteArray) (v : Int) (h : Lib.indexByte t.data.toList 125 = v) : strings_IndexByte.f t 125 = some v := by
  unfold strings_IndexByte.f
  rw [show (125 : Int).toNat.toUInt8 = 125 from rfl, h]
theorem no_name (t ahead rest : ByteArray) (h0 : t.size ≠ 0) (h1 : rest.size ≠ 0) (hf : Ev (fun k => impl_field.f k t) (ahead, (⟨#[]⟩ : ByteArray), rest)) : Ev (fun k => impl_isPattern.l0 k t) false :=
  st_impl_isPattern_l0 (ev_neg (fun h => h0 ((list_nil t).1 h)) (Ev.bind hf (ev_pos ((list_nil _).2 rfl) (ev_neg (fun h => h1 ((list_nil rest).1 h)) (ev_some rfl)))))
set_option maxHeartbeats 4000000 in
theorem pattern_same (s : ByteArray) (hs : s.size ≤ 200) : ∀ (d at_ : Nat), s.size - at_ ≤ d → at_ ≤ s.size → ∃ b : Bool, Ev (fun k => impl_isPattern.l0 k (s.extract at_ s.size)) b ∧ ∀ acc : ByteArray, acc.size ≤ at_ → ∃ r, Ev (fun k => spec_l19Fill.l0 k s [] acc (at_ : Int)) (r, b)
  | d, at_, hd, hat => by
    have hts := ext_size s at_ s.size (Nat.le_refl _)
    by_cases hz : at_ = s.size
    · refine ⟨true, st_impl_isPattern_l0 (ev_pos ((list_nil _).2 (by omega)) (ev_some rfl)), fun acc _ => ⟨acc, st_spec_l19Fill_l0 (ev_neg (by omega) (ev_some rfl))⟩⟩
    · obtain ⟨t, ht⟩ : ∃ t, s.extract at_ s.size = t := ⟨_, rfl⟩
      have bte : ∀ j, at_ + j < s.size → bt t (j : Int) = bt s ((at_ + j : Nat) : Int) := fun j hj => by rw [← ht]; exact bt_ext s at_ j hj
      rw [ht] at hts ⊢
      have ht0 : t.size ≠ 0 := by omega
      rcases any_cases t with ⟨hv, hno⟩ | ⟨p, hp, hv, hbr, hno⟩
      · refine ⟨true, st_impl_isPattern_l0 (ev_neg (fun h => ht0 ((list_nil t).1 h)) (Ev.bind (a := (t, (⟨#[]⟩ : ByteArray), (⟨#[]⟩ : ByteArray))) ?_ (ev_pos ((list_nil _).2 rfl) (ev_pos ((list_nil _).2 rfl) empty_true)))), fun acc ha => ?_⟩
        · exact ev_bindc (any_call t (by clear hv; omega) _ hv) (ev_pos (by decide) (ev_some rfl))
        · obtain ⟨acc', _, h2⟩ := fill_run s hs (s.size - at_) at_ acc (by omega) ha (fun i h1 h2 h => hno (i - at_) (by omega) (by
            unfold Br at h ⊢
            rw [bte (i - at_) (by omega), show at_ + (i - at_) = i by omega]; exact h))
          exact ⟨acc', h2 _ (st_spec_l19Fill_l0 (ev_neg (by omega) (ev_some rfl)))⟩
      · have hps : at_ + p < s.size := by omega
        have run := fun acc (ha : acc.size ≤ at_) => fill_run s hs p at_ acc (by omega) ha (fun i h1 h2 h => hno (i - at_) (by omega) (by
            unfold Br at h ⊢
            rw [bte (i - at_) (by omega), show at_ + (i - at_) = i by omega]; exact h))
        have e0 : ((p : Int)).toNat = p := rfl
        have hrest : (t.extract p t.size).size ≠ 0 := by rw [ext_size t _ _ (Nat.le_refl _)]; omega
        have hbp := bte p hps
        have hcall := any_call t (by clear hv; omega) _ hv
        clear hv
        by_cases h123 : bt t (p : Int) = 123
        · have hu : t.extract p t.size = s.extract (at_ + p) s.size := by rw [← ht]; exact ext_tail s at_ p (by omega)
          have hus := ext_size s (at_ + p) s.size (Nat.le_refl _)
          have bue : ∀ j, at_ + p + j < s.size → bt (t.extract p t.size) (j : Int) = bt s ((at_ + p + j : Nat) : Int) := fun j hj => by rw [hu]; exact bt_ext s (at_ + p) j hj
          have eW : Aside0 (wrap64 (((at_ + p : Nat) : Int) + 1) = ((at_ + p + 1 : Nat) : Int)) := ⟨w64s (at_ + p) (by omega)⟩
          have ep1 : Aside0 (wrap64 ((p : Int) + 1) = ((p + 1 : Nat) : Int)) := ⟨w64s p (by omega)⟩
          rcases byte_cases (t.extract p t.size) with ⟨hw, hnb⟩ | ⟨o, ho, hw, hbo, hnb⟩
          · have hbc := byte_call _ _ hw
            clear hw
            refine ⟨false, no_name t (t.extract 0 p) (t.extract p t.size) ht0 hrest ?_, fun acc ha => ?_⟩
            · refine ev_bindc hcall (ev_neg (by omega) (ev_pos (by omega) (ev_pos (by omega) (ev_pos h123 (ev_pos (by omega) ?_)))))
              rw [e0]
              exact ev_bindc hbc (ev_neg (by decide) (ev_some rfl))
            · obtain ⟨acc', h1, h2⟩ := run acc ha
              refine ⟨(⟨#[]⟩ : ByteArray), h2 _ (st_spec_l19Fill_l0 (ev_pos (by omega) (ev_pos (by omega) (ev_neg (by rw [← hbp]; omega) (ev_pos (by rw [← hbp]; exact h123) ?_)))))⟩
              rw [eW.out]
              refine fill_end s hs acc' (at_ + p) (s.size - (at_ + p + 1)) (at_ + p + 1) (by omega) (fun j h1 h2 h => ?_) (.inl (by omega)) _ ?_
              · have := hnb (j - (at_ + p)) (by rw [hu]; omega)
                rw [bue _ (by omega), show at_ + p + (j - (at_ + p)) = j by omega] at this
                exact this h
              · exact st_spec_l19Fill_j2 (ev_pos (by omega) (st_spec_l19Fill_j3 (ev_pos rfl (ev_some rfl))))
          · have hbc := byte_call _ _ hw
            clear hw
            rw [hu, hus] at ho
            have ho0 : o ≠ 0 := by
              rintro rfl
              have := bue 0 (by omega)
              rw [hbo] at this
              have h0 : bt s ((at_ + p + 0 : Nat) : Int) = 123 := by rw [← h123, hbp]; rfl
              omega
            obtain ⟨nm, hnm⟩ : ∃ nm, s.extract (at_ + p + 1) (at_ + p + o) = nm := ⟨_, rfl⟩
            have hnt : t.extract (p + 1) (p + o) = nm := by
              rw [← ht, ← hnm, ext_mid s at_ (p + 1) (p + o) (by omega)]
              congr 1 <;> omega
            have hnz : nm.size = o - 1 := by rw [← hnm, ext_size s _ _ (by omega)]; omega
            have epo : Aside0 (wrap64 ((p : Int) + (o : Int)) = ((p + o : Nat) : Int)) := ⟨by rw [w64 (by omega) (by omega)]; omega⟩
            have epo1 : Aside0 (wrap64 (((p + o : Nat) : Int) + 1) = ((p + o + 1 : Nat) : Int)) := ⟨w64s (p + o) (by omega)⟩
            have t1 : (((p + 1 : Nat) : Int)).toNat = p + 1 := rfl
            have t2 : (((p + o : Nat) : Int)).toNat = p + o := rfl
            have t3 : (((p + o + 1 : Nat) : Int)).toNat = p + o + 1 := rfl
            have t4 : (((at_ + p + 1 : Nat) : Int)).toNat = at_ + p + 1 := rfl
            have t5 : (((at_ + p + o : Nat) : Int)).toNat = at_ + p + o := rfl
            have t6 : (((at_ + p + o + 1 : Nat) : Int)).toNat = at_ + p + o + 1 := rfl
            have t7 : (((at_ + p : Nat) : Int)).toNat = at_ + p := rfl
            obtain ⟨g, hg⟩ := bool_of (NameOk nm)
            have g1 := name_impl nm (by omega) g hg
            have g2 := name_spec nm g hg
            have eo1 : Aside0 (wrap64 (((at_ + p + o : Nat) : Int) + 1) = ((at_ + p + o + 1 : Nat) : Int)) := ⟨w64s (at_ + p + o) (by omega)⟩
            -- the reference comes to the name's end
            have spec : ∀ acc (ha : acc.size ≤ at_) (b : Bool), (∀ acc' : ByteArray, acc'.size ≤ at_ + p → ∃ r, Ev (fun k => spec_l19Fill.j3 k s [] acc' ((at_ + p : Nat) : Int) ((at_ + p + o : Nat) : Int) (!g)) (r, b)) → ∃ r, Ev (fun k => spec_l19Fill.l0 k s [] acc (at_ : Int)) (r, b) := by
              intro acc ha b hj
              obtain ⟨acc', h1, h2⟩ := run acc ha
              obtain ⟨r, hr⟩ := hj acc' h1
              refine ⟨r, h2 _ (st_spec_l19Fill_l0 (ev_pos (by omega) (ev_pos (by omega) (ev_neg (by rw [← hbp]; omega) (ev_pos (by rw [← hbp]; exact h123) ?_)))))⟩
              rw [eW.out]
              have es : at_ + p + 1 + (o - 1) = at_ + p + o := by omega
              refine fill_end s hs acc' (at_ + p) (o - 1) (at_ + p + 1) (by omega) (fun j h1 h2 h => ?_) (.inr ?_) _ ?_
              · have := hnb (j - (at_ + p)) (by omega)
                rw [bue _ (by omega), show at_ + p + (j - (at_ + p)) = j by omega] at this
                exact this h
              · rw [es, ← bue o (by omega)]; exact hbo
              · rw [es]
                refine st_spec_l19Fill_j2 (ev_neg (by omega) ?_)
                rw [eW.out, t4, t5, hnm]
                exact ev_pos (by omega) (ev_pos (by omega) (ev_pos (by omega) (Ev.bind g2 hr)))
            have field : ∀ q : ByteArray × ByteArray × ByteArray, Ev (fun k => if g = true then (if 0 ≤ ((p + o + 1 : Nat) : Int) then (if ((p + o + 1 : Nat) : Int) ≤ (t.size : Int) then (some (t.extract 0 p, nm, t.extract (p + o + 1) t.size)) else (none)) else (none)) else (some (t.extract 0 p, (⟨#[]⟩ : ByteArray), t.extract p t.size))) q → Ev (fun k => impl_field.f k t) q := by
              intro q hq
              refine ev_bindc hcall (ev_neg (by omega) (ev_pos (by omega) (ev_pos (by omega) (ev_pos h123 (ev_pos (by omega) ?_)))))
              rw [e0]
              refine ev_bindc hbc (ev_pos (by omega) ?_)
              rw [ep1.out, epo.out, epo1.out, t1, t2, t3, hnt]
              exact ev_pos (by omega) (ev_pos (by omega) (ev_pos (by omega) (Ev.bind g1 hq)))
            cases g with
            | false =>
              refine ⟨false, no_name t (t.extract 0 p) (t.extract p t.size) ht0 hrest (field _ (ev_neg (by decide) (ev_some rfl))), fun acc ha => spec acc ha false fun acc' _ => ⟨(⟨#[]⟩ : ByteArray), st_spec_l19Fill_j3 (ev_pos rfl (ev_some rfl))⟩⟩
            | true =>
              have hok := (hg.1 rfl).1
              have hrt : t.extract (p + o + 1) t.size = s.extract (at_ + p + o + 1) s.size := by
                rw [← ht, ext_tail s at_ (p + o + 1) (by omega)]
                congr 1
                omega
              cases d with
              | zero => omega
              | succ d =>
                obtain ⟨b, h1, h2⟩ := pattern_same s hs d (at_ + p + o + 1) (by omega) (by omega)
                refine ⟨b, st_impl_isPattern_l0 (ev_neg (fun h => ht0 ((list_nil t).1 h)) (Ev.bind (field _ (ev_pos rfl (ev_pos (by omega) (ev_pos (by omega) (ev_some rfl))))) (ev_neg (fun h => by have := (list_nil nm).1 h; omega) ?_))), fun acc ha => spec acc ha b fun acc' ha' => ?_⟩
                · show Ev (fun k => impl_isPattern.l0 k (t.extract (p + o + 1) t.size)) b
                  rw [hrt]; exact h1
                · have hws : (s.extract (at_ + p) (at_ + p + o + 1)).size = o + 1 := by rw [ext_size s _ _ (by omega)]; omega
                  obtain ⟨r, hr⟩ := h2 (acc' ++ s.extract (at_ + p) (at_ + p + o + 1)) (by rw [ByteArray.size_append, hws]; omega)
                  refine ⟨r, st_spec_l19Fill_j3 (ev_neg (by decide) ?_)⟩
                  rw [eo1.out, t6, t7]
                  refine ev_pos (by omega) (ev_pos (by omega) (ev_pos (by omega) (st_spec_l19Fill_l2 (ev_neg (by simp) (ev_pos (by rw [hws]; omega) ?_)))))
                  rw [eo1.out]
                  exact hr
        · have h125 : bt t (p : Int) = 125 := by rcases hbr with h | h; exact absurd h h123; exact h
          refine ⟨false, no_name t (t.extract 0 p) (t.extract p t.size) ht0 hrest ?_, fun acc ha => ?_⟩
          · refine ev_bindc hcall (ev_neg (by omega) (ev_pos (by omega) (ev_pos (by omega) (ev_neg h123 (ev_pos (by omega) ?_)))))
            rw [e0]
            exact ev_some rfl
          · obtain ⟨acc', h1, h2⟩ := run acc ha
            exact ⟨(⟨#[]⟩ : ByteArray), h2 _ (st_spec_l19Fill_l0 (ev_pos (by omega) (ev_pos (by omega) (ev_pos (by rw [← hbp]; exact h125) (ev_some rfl)))))⟩
theorem szStringS_some (xs : List ByteArray) (g : xs.length * 16 ≤ 140737488351232 ∧ ∀ y ∈ xs, y.size ≤ 140737488351232) (left : Int) (h0 : 0 ≤ left) (h1 : left ≤ 1048576) : ∃ r, Ev (fun k => laws_szStringS.f k xs left) r ∧ (r < 0 ∨ 0 ≤ r ∧ r ≤ left ∧ (xs.length ≤ 1048576 ∧ ∀ y ∈ xs, y.size ≤ 1048576)) := by
  have g1 := g.1
  unfold laws_szStringS.f
  rw [w64 (n := left - (xs.length : Int)) (by omega) (by omega)]
  refine exev_ite (fun _ => exev_some (.inl (by omega))) fun hc => ?_
  have he : ∀ i : Nat, ∀ hi : i < xs.length, ∀ c : Int, 0 ≤ c → c ≤ left - (xs.length : Int) → ∃ r, Ev (fun k => some (wrap64 (c - ((rdOf ByteArray.empty xs (i : Int)).size : Int)))) r ∧ (r < 0 ∨ 0 ≤ r ∧ r ≤ c ∧ xs[i].size ≤ 1048576) := by
    intro i hi c h0 h1
    have e : rdOf ByteArray.empty xs (i : Int) = xs[i] := rdOf_get hi
    have gx := g.2 _ (List.getElem_mem hi)
    have ew : wrap64 (c - (xs[i].size : Int)) = c - (xs[i].size : Int) := w64 (by omega) (by omega)
    rw [e, ew]
    exact ⟨_, ev_some rfl, by by_cases hn : c - (xs[i].size : Int) < 0; exact .inl hn; exact .inr ⟨by omega, by omega, by omega⟩⟩
  obtain ⟨r, hr, hq⟩ := ev_size laws_szStringS.l0 (fun _ xs c i => some (wrap64 (c - ((rdOf ByteArray.empty xs i).size : Int)))) (fun y => y.size ≤ 1048576) (fun _ _ _ _ => rfl) xs (by omega) (left - (xs.length : Int)) (by omega) he
  refine ⟨r, hr, ?_⟩
  rcases hq with hq | ⟨q0, q1, q2⟩
  · exact .inl hq
  · exact .inr ⟨q0, by omega, by omega, q2⟩
def Fit32 (x : S32) : Prop := (x.f0.size ≤ 1048576) ∧ ((x.f1.length ≤ 1048576 ∧ ∀ y ∈ x.f1, y.size ≤ 1048576))
theorem szEntry_some (a0 : ByteArray) (l1 : List ByteArray) (a2 : Bool) (ga0 : a0.size ≤ 140737488351232) (gl1 : l1.length * 16 ≤ 140737488351232 ∧ ∀ y ∈ l1, y.size ≤ 140737488351232) (left : Int) (h0 : 0 ≤ left) (h1 : left ≤ 1048576) : ∃ r, Ev (fun k => laws_szEntry.f k a0 l1 a2 left) r ∧ (r < 0 ∨ 0 ≤ r ∧ r ≤ left ∧ (a0.size ≤ 1048576) ∧ ((l1.length ≤ 1048576 ∧ ∀ y ∈ l1, y.size ≤ 1048576))) := by
  unfold laws_szEntry.f
  have e0 : wrap64 (left - (a0.size : Int)) = left - (a0.size : Int) := w64 (by omega) (by omega)
  rw [e0]
  refine exev_ite (fun _ => exev_some (.inl (by omega))) fun c0 => ?_
  obtain ⟨r1, hr1, hq1⟩ := szStringS_some l1 gl1 ((left - (a0.size : Int))) (by omega) (by omega)
  refine exev_bind hr1 (exev_ite (fun _ => exev_some (.inl (by omega))) fun c1 => ?_)
  rcases hq1 with hq1 | ⟨u1, v1, w1⟩
  · omega
  exact exev_some (.inr ⟨by omega, by omega, (by omega), w1⟩)
theorem szEntryS_some (xs : List S32) (g : xs.length * 48 ≤ 140737488351232 ∧ ∀ y ∈ xs, Ok32 y) (left : Int) (h0 : 0 ≤ left) (h1 : left ≤ 1048576) : ∃ r, Ev (fun k => laws_szEntryS.f k xs left) r ∧ (r < 0 ∨ 0 ≤ r ∧ r ≤ left ∧ (xs.length ≤ 1048576 ∧ ∀ y ∈ xs, Fit32 y)) := by
  have g1 := g.1
  unfold laws_szEntryS.f
  rw [w64 (n := left - (xs.length : Int)) (by omega) (by omega)]
  refine exev_ite (fun _ => exev_some (.inl (by omega))) fun hc => ?_
  have he : ∀ i : Nat, ∀ hi : i < xs.length, ∀ c : Int, 0 ≤ c → c ≤ left - (xs.length : Int) → ∃ r, Ev (fun k => laws_szEntry.f k ((rd_T32 xs (i : Int)).f0) ((rd_T32 xs (i : Int)).f1) ((rd_T32 xs (i : Int)).f2) c) r ∧ (r < 0 ∨ 0 ≤ r ∧ r ≤ c ∧ Fit32 xs[i]) := by
    intro i hi c h0 h1
    have e : rd_T32 xs (i : Int) = xs[i] := getD_get hi
    rw [e]
    have gx := g.2 _ (List.getElem_mem hi)
    obtain ⟨r, hr, hq⟩ := szEntry_some _ _ _ (gx.1) (gx.2) c h0 (by omega)
    exact ⟨r, hr, hq⟩
  obtain ⟨r, hr, hq⟩ := ev_size laws_szEntryS.l0 (fun k xs c i => laws_szEntry.f k ((rd_T32 xs i).f0) ((rd_T32 xs i).f1) ((rd_T32 xs i).f2) c) (fun y => Fit32 y) (fun _ _ _ _ => rfl) xs (by omega) (left - (xs.length : Int)) (by omega) he
  refine ⟨r, hr, ?_⟩
  rcases hq with hq | ⟨q0, q1, q2⟩
  · exact .inl hq
  · exact .inr ⟨q0, by omega, by omega, q2⟩
theorem toStringS_ev (xs : List ByteArray) (h : (xs.length ≤ 1048576 ∧ ∀ y ∈ xs, y.size ≤ 1048576)) : Ev (fun k => laws_toStringS.f k xs) xs := by
  refine ev_pos (by omega) (ev_pos (by omega) ?_)
  have := ev_copy laws_toStringS.l0 (fun _ xs i => some (rdOf ByteArray.empty xs i)) id (fun _ _ _ _ => rfl) xs (by omega) (fun i hi => ev_some (rdOf_get hi)) (List.replicate (((xs.length : Int) : Int).toNat) (⟨#[]⟩ : ByteArray)) (by simp)
  rwa [List.map_id] at this
def cv32 (x : S32) : S36 := ⟨x.f0, x.f1, x.f2⟩
def Fit36 (x : S36) : Prop := (x.f0.size ≤ 1048576) ∧ ((x.f1.length ≤ 1048576 ∧ ∀ y ∈ x.f1, y.size ≤ 1048576))
theorem fit_cv32 {x : S32} (h : Fit32 x) : Fit36 (cv32 x) := by
  obtain ⟨h0, h1⟩ := h
  exact ⟨h0, h1⟩
theorem toEntry_ev (a0 : ByteArray) (l1 : List ByteArray) (a2 : Bool) (ha0 : a0.size ≤ 1048576) (hl1 : (l1.length ≤ 1048576 ∧ ∀ y ∈ l1, y.size ≤ 1048576)) : Ev (fun k => laws_toEntry.f k a0 l1 a2) (a0, l1, a2) := by
  unfold laws_toEntry.f
  repeat (first | exact ev_some rfl | refine Ev.bind (toStringS_ev _ hl1) ?_ | refine ev_bindc rfl ?_)
theorem toEntryS_ev (xs : List S32) (h : (xs.length ≤ 1048576 ∧ ∀ y ∈ xs, Fit32 y)) : Ev (fun k => laws_toEntryS.f k xs) (xs.map cv32) := by
  refine ev_pos (by omega) (ev_pos (by have := h.1; omega) ?_)
  refine ev_copy2 laws_toEntryS.l0 (fun k xs i => laws_toEntry.f k ((rd_T32 xs i).f0) ((rd_T32 xs i).f1) ((rd_T32 xs i).f2)) (fun t => (⟨t.1, t.2.1, t.2.2⟩ : S36)) cv32 (fun _ _ _ _ => rfl) xs (by have := h.1; omega) (fun i hi => ?_) _ (by simp)
  · have e : rd_T32 xs (i : Int) = xs[i] := getD_get hi
    rw [e]
    obtain ⟨hf0, hf1⟩ := h.2 _ (List.getElem_mem hi)
    exact ⟨_, toEntry_ev _ _ _ hf0 hf1, rfl⟩
theorem eqStringS_ev (xs : List ByteArray) (h : (xs.length ≤ 1048576 ∧ ∀ y ∈ xs, y.size ≤ 1048576)) : Ev (fun k => laws_eqStringS.f k xs xs) true := by
  refine ev_pos rfl ?_
  refine ev_for1 xs.length (fun k i (_ : Unit) => laws_eqStringS.l0 k xs xs (i : Int)) (fun _ _ => True) true ?_ ?_ 0 () (Nat.zero_le _) trivial
  · intro _ _
    exact Ev.step (fun _ => rfl) (ev_neg (by omega) (ev_some rfl))
  · intro i _ hi _
    refine .inr ⟨(), trivial, fun r hr => Ev.step (fun _ => rfl) (ev_pos (by omega) (ev_pos (by omega) (ev_pos (by omega) ?_)))⟩
    rw [w64s i (by have := h.1; omega)]
    exact ev_pos rfl hr
theorem eqEntry_ev (a0 : ByteArray) (l1 : List ByteArray) (a2 : Bool) (ha0 : a0.size ≤ 1048576) (hl1 : (l1.length ≤ 1048576 ∧ ∀ y ∈ l1, y.size ≤ 1048576)) : Ev (fun k => laws_eqEntry.f k a0 l1 a2 a0 l1 a2) true := by
  unfold laws_eqEntry.f
  repeat (first | exact ev_some rfl | refine Ev.bind (eqStringS_ev l1 hl1) ?_ | refine ev_pos rfl ?_ | refine ev_neg (by simp) ?_)
theorem eqEntryS_ev (xs : List S36) (h : (xs.length ≤ 1048576 ∧ ∀ y ∈ xs, Fit36 y)) : Ev (fun k => laws_eqEntryS.f k xs xs) true := by
  refine ev_pos rfl (ev_alike_self laws_eqEntryS.l0 (fun k xs ys i => laws_eqEntry.f k ((rd_T36 xs i).f0) ((rd_T36 xs i).f1) ((rd_T36 xs i).f2) ((rd_T36 ys i).f0) ((rd_T36 ys i).f1) ((rd_T36 ys i).f2)) (fun _ _ _ _ => rfl) xs (by have := h.1; omega) (fun i hi => ?_))
  · have e : rd_T36 xs (i : Int) = xs[i] := getD_get hi
    rw [e]
    obtain ⟨hf0, hf1⟩ := h.2 _ (List.getElem_mem hi)
    exact eqEntry_ev _ _ _ hf0 hf1
theorem forms_same (a : ByteArray) : ∃ l : List Int, Ev (fun k => impl_FormsOf.f k a) l ∧ Ev (fun k => spec_FormsOf.f k a) l ∧ l.length ≤ 5 := by
  have i1 : ∀ (b : Bool) (l : List Int), (if b = true then l = [1, 3, 4] else if a.toList = [97, 114] then l = [1, 2, 3, 4, 5] else l = []) → Ev (fun k => impl_FormsOf.j1 k a b) l ∧ Ev (fun k => spec_FormsOf.j1 k a b) l := by
    intro b l h
    cases b with
    | true => obtain rfl : l = [1, 3, 4] := by simpa using h
              exact ⟨st_impl_FormsOf_j1 (ev_pos rfl (ev_some rfl)), st_spec_FormsOf_j1 (ev_pos rfl (ev_some rfl))⟩
    | false =>
      by_cases ha : a.toList = [97, 114]
      · obtain rfl : l = [1, 2, 3, 4, 5] := by simpa [ha] using h
        exact ⟨st_impl_FormsOf_j1 (ev_neg (by decide) (ev_pos ha (ev_some rfl))), st_spec_FormsOf_j1 (ev_neg (by decide) (ev_pos ha (ev_some rfl)))⟩
      · obtain rfl : l = [] := by simpa [ha] using h
        exact ⟨st_impl_FormsOf_j1 (ev_neg (by decide) (ev_neg ha (ev_some rfl))), st_spec_FormsOf_j1 (ev_neg (by decide) (ev_neg ha (ev_some rfl)))⟩
  have j1 : ∀ b : Bool, ∃ l : List Int, Ev (fun k => impl_FormsOf.j1 k a b) l ∧ Ev (fun k => spec_FormsOf.j1 k a b) l ∧ l.length ≤ 5 := by
    intro b
    cases b with
    | true => exact ⟨_, (i1 true [1, 3, 4] (by simp)).1, (i1 true [1, 3, 4] (by simp)).2, by decide⟩
    | false =>
      by_cases ha : a.toList = [97, 114]
      · exact ⟨_, (i1 false [1, 2, 3, 4, 5] (by simp [ha])).1, (i1 false [1, 2, 3, 4, 5] (by simp [ha])).2, by decide⟩
      · exact ⟨_, (i1 false [] (by simp [ha])).1, (i1 false [] (by simp [ha])).2, by decide⟩
  have j0 : ∀ b : Bool, ∃ l : List Int, Ev (fun k => impl_FormsOf.j0 k a b) l ∧ Ev (fun k => spec_FormsOf.j0 k a b) l ∧ l.length ≤ 5 := by
    intro b
    cases b with
    | true => exact ⟨[1, 5], st_impl_FormsOf_j0 (ev_pos rfl (ev_some rfl)), st_spec_FormsOf_j0 (ev_pos rfl (ev_some rfl)), by decide⟩
    | false =>
      by_cases h1 : a.toList = [106, 97]
      · exact ⟨[5], st_impl_FormsOf_j0 (ev_neg (by decide) (ev_pos h1 (ev_some rfl))), st_spec_FormsOf_j0 (ev_neg (by decide) (ev_pos h1 (ev_some rfl))), by decide⟩
      · by_cases h2 : a.toList = [99, 115]
        · exact ⟨[1, 3, 5], st_impl_FormsOf_j0 (ev_neg (by decide) (ev_neg h1 (ev_pos h2 (ev_some rfl)))), st_spec_FormsOf_j0 (ev_neg (by decide) (ev_neg h1 (ev_pos h2 (ev_some rfl)))), by decide⟩
        · by_cases h3 : a.toList = [112, 108]
          · obtain ⟨l, l1, l2, l3⟩ := j1 true
            exact ⟨l, st_impl_FormsOf_j0 (ev_neg (by decide) (ev_neg h1 (ev_neg h2 (ev_pos h3 l1)))), st_spec_FormsOf_j0 (ev_neg (by decide) (ev_neg h1 (ev_neg h2 (ev_pos h3 l2)))), l3⟩
          · obtain ⟨l, l1, l2, l3⟩ := j1 (a.toList == [114, 117])
            exact ⟨l, st_impl_FormsOf_j0 (ev_neg (by decide) (ev_neg h1 (ev_neg h2 (ev_neg h3 l1)))), st_spec_FormsOf_j0 (ev_neg (by decide) (ev_neg h1 (ev_neg h2 (ev_neg h3 l2)))), l3⟩
  unfold impl_FormsOf.f spec_FormsOf.f
  by_cases h : a.toList = [101, 110]
  · obtain ⟨l, l1, l2, l3⟩ := j0 true
    exact ⟨l, ev_pos h l1, ev_pos h l2, l3⟩
  · obtain ⟨l, l1, l2, l3⟩ := j0 (a.toList == [102, 114])
    exact ⟨l, ev_neg h l1, ev_neg h l2, l3⟩
theorem pattern_any (f : ByteArray) : ∃ b : Bool, Ev (fun k => impl_isPattern.f k f) b ∧ ∃ r, Ev (fun k => spec_l19Fill.f k f []) (r, b) := by
  by_cases h : (f.size : Int) > 200
  · exact ⟨false, ev_pos h (ev_some rfl), (⟨#[]⟩ : ByteArray), ev_pos h (ev_some rfl)⟩
  · obtain ⟨b, h1, h2⟩ := pattern_same f (by omega) f.size 0 (by omega) (by omega)
    obtain ⟨r, hr⟩ := h2 (⟨#[]⟩ : ByteArray) (Nat.le_refl _)
    rw [ByteArray.extract_zero_size] at h1
    exact ⟨b, ev_neg h h1, r, ev_neg h hr⟩
def en (l : List S36) (i : Nat) : S36 := rd_T36 l (i : Int)
theorem en_get {l : List S36} {i : Nat} (h : i < l.length) : en l i = l[i] := rdOf_get h
def KeyOk (l : List S36) (i : Nat) : Prop := NameOk (en l i).f0 ∧ (0 < i → Op.bytesLess (en l (i - 1)).f0.toList (en l i).f0.toList = true)
def Fits (l : List S36) : Prop := l.length ≤ 1048576 ∧ ∀ y ∈ l, Fit36 y
theorem keys_same (l : List S36) (hf : Fits l) : ∃ b : Bool, Ev (fun k => impl_areKeyed.f k l) b ∧ Ev (fun k => spec_l19Keys.f k l) b := by
  obtain ⟨b, hb⟩ := bool_of (l.length ≤ 60 ∧ ∀ i, i < l.length → KeyOk l i)
  have hlen := hf.1
  have sz : ∀ i, i < l.length → (en l i).f0.size ≤ 140737488351232 := fun i hi => by
    have := (hf.2 _ (List.getElem_mem hi)).1
    rw [en_get hi]; omega
  have prev : ∀ i : Nat, 0 < i → i < 1048577 → wrap64 ((i : Int) - 1) = ((i - 1 : Nat) : Int) := fun i h0 h1 => by rw [w64 (by omega) (by omega)]; omega
  refine ⟨b, ?_, ?_⟩
  · refine ev_all l.length (fun k i => impl_areKeyed.l0 k l l (l.length : Int) (i : Int)) (KeyOk l) (decide ((l.length : Int) ≤ 60)) b (by rw [hb]; simp; omega) ?_ ?_ ?_
    · exact st_impl_areKeyed_l0 (ev_neg (by omega) (ev_some rfl))
    · intro i hi _ ho r hr
      refine st_impl_areKeyed_l0 (ev_pos (by omega) (ev_pos (by omega) (ev_pos (by omega) (Ev.bind (name_impl _ (sz i hi) true ⟨fun _ => ho.1, fun _ => rfl⟩) (ev_pos rfl ?_)))))
      rw [w64s i (by omega)]
      by_cases h0 : 0 < i
      · rw [prev i h0 (by omega)]
        exact ev_pos (by omega) (ev_pos (by omega) (ev_pos (by omega) (ev_pos (ho.2 h0) hr)))
      · exact ev_neg (by omega) hr
    · intro i hi _ ho
      refine st_impl_areKeyed_l0 (ev_pos (by omega) (ev_pos (by omega) (ev_pos (by omega) ?_)))
      by_cases hn : NameOk (en l i).f0
      · refine Ev.bind (name_impl _ (sz i hi) true ⟨fun _ => hn, fun _ => rfl⟩) (ev_pos rfl ?_)
        have h0 : 0 < i := Classical.byContradiction fun h => ho ⟨hn, fun h' => absurd h' h⟩
        rw [prev i h0 (by omega)]
        exact ev_pos (by omega) (ev_pos (by omega) (ev_pos (by omega) (ev_neg (fun h => ho ⟨hn, fun _ => h⟩) (ev_some rfl))))
      · exact Ev.bind (name_impl _ (sz i hi) false ⟨fun h => (by cases h), fun h => absurd h hn⟩) (ev_neg (by decide) (ev_some rfl))
  · unfold spec_l19Keys.f
    by_cases h60 : (l.length : Int) > 60
    · exact ev_pos h60 (ev_some (bool_false hb fun h => by have := h.1; omega).symm)
    · refine ev_neg h60 ?_
      refine ev_all l.length (fun k i => spec_l19Keys.l0 k l l (l.length : Int) (i : Int)) (KeyOk l) true b (by rw [hb]; simp; omega) ?_ ?_ ?_
      · exact st_spec_l19Keys_l0 (ev_neg (by omega) (ev_some rfl))
      · intro i hi _ ho r hr
        refine st_spec_l19Keys_l0 (ev_pos (by omega) (ev_pos (by omega) (ev_pos (by omega) (Ev.bind (name_spec _ true ⟨fun _ => ho.1, fun _ => rfl⟩) (ev_pos rfl ?_)))))
        rw [w64s i (by omega)]
        by_cases h0 : 0 < i
        · rw [prev i h0 (by omega)]
          exact ev_pos (by omega) (ev_pos (by omega) (ev_pos (by omega) (ev_pos (ho.2 h0) hr)))
        · exact ev_neg (by omega) hr
      · intro i hi _ ho
        refine st_spec_l19Keys_l0 (ev_pos (by omega) (ev_pos (by omega) (ev_pos (by omega) ?_)))
        by_cases hn : NameOk (en l i).f0
        · refine Ev.bind (name_spec _ true ⟨fun _ => hn, fun _ => rfl⟩) (ev_pos rfl ?_)
          have h0 : 0 < i := Classical.byContradiction fun h => ho ⟨hn, fun h' => absurd h' h⟩
          rw [prev i h0 (by omega)]
          exact ev_pos (by omega) (ev_pos (by omega) (ev_pos (by omega) (ev_neg (fun h => ho ⟨hn, fun _ => h⟩) (ev_some rfl))))
        · exact Ev.bind (name_spec _ false ⟨fun h => (by cases h), fun h => absurd h hn⟩) (ev_neg (by decide) (ev_some rfl))
theorem forms_loop (fs : List ByteArray) (hl : fs.length ≤ 1048576) (n : Int) (l : List S36) (m i : Int) : ∃ b : Bool, Ev (fun k => slices_ContainsFunc_w17.f k fs) (!b) ∧
    ∀ r, (b = true → Ev (fun k => spec_GoodEntries.l0 k n l m (wrap64 (i + 1))) r) → (b = false → r = false) → Ev (fun k => spec_GoodEntries.l1 k n l m i fs (fs.length : Int) 0) r := by
  obtain ⟨P, hP⟩ : ∃ P : Nat → Bool, ∀ j : Nat, Ev (fun k => impl_isPattern.f k (rdOf ByteArray.empty fs (j : Int))) (P j) ∧ ∃ r, Ev (fun k => spec_l19Fill.f k (rdOf ByteArray.empty fs (j : Int)) []) (r, P j) :=
    ⟨fun j => Classical.choose (pattern_any (rdOf ByteArray.empty fs (j : Int))), fun j => Classical.choose_spec (pattern_any (rdOf ByteArray.empty fs (j : Int)))⟩
  obtain ⟨b, hb⟩ := bool_of (∀ j, j < fs.length → P j = true)
  refine ⟨b, ?_, ?_⟩
  · unfold slices_ContainsFunc_w17.f slices_IndexFunc_w17.f
    refine ev_contains (fun k xs n i => slices_IndexFunc_w17.l0 k xs n i) (fun k xs i => impl_GoodEntries_1.f k (rdOf ByteArray.empty xs i)) (fun k xs n i => by rw [slices_IndexFunc_w17.l0]) fs (by omega) (fun j => !P j) (fun j hj => Ev.bind (hP j).1 (ev_some rfl)) (!b) ?_
    cases b with
    | true => exact ⟨fun h => by simp at h, fun ⟨j, hj, h⟩ => by rw [hb.1 rfl j hj] at h; simp at h⟩
    | false =>
      refine ⟨fun _ => Classical.byContradiction fun hn => ?_, fun _ => rfl⟩
      have := hb.2 fun j hj => Classical.byContradiction fun h => hn ⟨j, hj, by simp at h; simp [h]⟩
      cases this
  · intro r hy hno
    refine ev_for1 fs.length (fun k j (_ : Unit) => spec_GoodEntries.l1 k n l m i fs (fs.length : Int) (j : Int)) (fun j _ => ∀ q, q < j → P q = true) r ?_ ?_ 0 () (Nat.zero_le _) (fun q hq => absurd hq (Nat.not_lt_zero q))
    · intro _ h
      exact st_spec_GoodEntries_l1 (ev_neg (by omega) (hy (hb.2 h)))
    · intro j _ hj h
      obtain ⟨_, q, hq⟩ := hP j
      cases hPj : P j with
      | true =>
        rw [hPj] at hq
        refine .inr ⟨(), fun q' hq' => ?_, fun r' hr' => st_spec_GoodEntries_l1 (ev_pos (by omega) (ev_pos (by omega) (ev_pos (by omega) (Ev.bind hq (ev_pos rfl ?_)))))⟩
        · rcases Nat.lt_or_ge q' j with h' | h'
          · exact h q' h'
          · obtain rfl : q' = j := by omega
            exact hPj
        · rw [w64s j (by omega)]; exact hr'
      | false =>
        rw [hPj] at hq
        have hbf : b = false := bool_false hb fun h' => by rw [h' j hj] at hPj; cases hPj
        rw [hno hbf]
        exact .inl (st_spec_GoodEntries_l1 (ev_pos (by omega) (ev_pos (by omega) (ev_pos (by omega) (Ev.bind hq (ev_neg (by simp) (ev_some rfl)))))))
theorem entries_loop (l : List S36) (hf : Fits l) (fo : List Int) (hfo : fo.length ≤ 5) : ∀ (d i : Nat), i + d = l.length → ∃ b : Bool, Ev (fun k => impl_GoodEntries.l0 k fo l (l.length : Int) (i : Int)) b ∧ Ev (fun k => spec_GoodEntries.l0 k (fo.length : Int) l (l.length : Int) (i : Int)) b
  | 0, i, hi => ⟨true, st_impl_GoodEntries_l0 (ev_neg (by omega) (ev_some rfl)), st_spec_GoodEntries_l0 (ev_neg (by omega) (ev_some rfl))⟩
  | d + 1, i, hi => by
    have hlen := hf.1
    have hlt : i < l.length := by omega
    have hfl : (en l i).f1.length ≤ 1048576 := by rw [en_get hlt]; exact (hf.2 _ (List.getElem_mem hlt)).2.1
    obtain ⟨b, b1, b2⟩ := entries_loop l hf fo hfo d (i + 1) (by omega)
    obtain ⟨c, c1, c2⟩ := forms_loop (en l i).f1 hfl (fo.length : Int) l (l.length : Int) (i : Int)
    have ei := w64s i (by omega)
    have good : ∀ z : Bool, Ev (fun k => impl_GoodEntries.j2 k fo l (l.length : Int) (i : Int) false (en l i).f0 (en l i).f1 z) (c && b) := by
      intro z
      refine st_impl_GoodEntries_j2 (ev_neg (by decide) (Ev.bind c1 ?_))
      cases c with
      | false => exact ev_pos rfl (ev_some rfl)
      | true => refine ev_neg (by decide) ?_; rw [ei]; simpa using b1
    have bad : ∀ z : Bool, Ev (fun k => impl_GoodEntries.j2 k fo l (l.length : Int) (i : Int) true (en l i).f0 (en l i).f1 z) false := fun z => st_impl_GoodEntries_j2 (ev_pos rfl (ev_some rfl))
    have sgood : ∀ (x : Int) (z : Bool), ((en l i).f1.length : Int) = x → Ev (fun k => spec_GoodEntries.j2 k (fo.length : Int) x l (l.length : Int) (i : Int) (en l i).f0 (en l i).f1 z) (c && b) := by
      intro x z hx
      refine st_spec_GoodEntries_j2 (ev_pos hx (c2 _ (fun hc => ?_) (fun hc => by rw [hc]; rfl)))
      rw [hc, ei]; simpa using b2
    have sbad : ∀ (x : Int) (z : Bool), ((en l i).f1.length : Int) ≠ x → Ev (fun k => spec_GoodEntries.j2 k (fo.length : Int) x l (l.length : Int) (i : Int) (en l i).f0 (en l i).f1 z) false := fun x z hx => st_spec_GoodEntries_j2 (ev_neg hx (ev_some rfl))
    by_cases hp : (en l i).f2 = true
    · by_cases hn : ((en l i).f1.length : Int) = (fo.length : Int)
      · exact ⟨c && b, st_impl_GoodEntries_l0 (ev_pos (by omega) (ev_pos (by omega) (ev_pos (by omega) (ev_pos hp (ev_pos hn (ev_pos hp (good _))))))), st_spec_GoodEntries_l0 (ev_pos (by omega) (ev_pos (by omega) (ev_pos (by omega) (ev_pos hp (sgood _ _ hn)))))⟩
      · exact ⟨false, st_impl_GoodEntries_l0 (ev_pos (by omega) (ev_pos (by omega) (ev_pos (by omega) (ev_pos hp (ev_neg hn (bad _)))))), st_spec_GoodEntries_l0 (ev_pos (by omega) (ev_pos (by omega) (ev_pos (by omega) (ev_pos hp (sbad _ _ hn)))))⟩
    · by_cases hn : ((en l i).f1.length : Int) = 1
      · have e1 : (((en l i).f1.length : Int) != 1) = false := by rw [hn]; rfl
        refine ⟨c && b, st_impl_GoodEntries_l0 (ev_pos (by omega) (ev_pos (by omega) (ev_pos (by omega) (ev_neg hp (ev_neg hp ?_))))), st_spec_GoodEntries_l0 (ev_pos (by omega) (ev_pos (by omega) (ev_pos (by omega) (ev_neg hp (sgood _ _ hn)))))⟩
        show Ev (fun k => impl_GoodEntries.j2 k fo l (l.length : Int) (i : Int) (((en l i).f1.length : Int) != 1) (en l i).f0 (en l i).f1 (en l i).f2) _
        rw [e1]; exact good _
      · have e1 : (((en l i).f1.length : Int) != 1) = true := by simpa using hn
        refine ⟨false, st_impl_GoodEntries_l0 (ev_pos (by omega) (ev_pos (by omega) (ev_pos (by omega) (ev_neg hp (ev_neg hp ?_))))), st_spec_GoodEntries_l0 (ev_pos (by omega) (ev_pos (by omega) (ev_pos (by omega) (ev_neg hp (sbad _ _ hn)))))⟩
        show Ev (fun k => impl_GoodEntries.j2 k fo l (l.length : Int) (i : Int) (((en l i).f1.length : Int) != 1) (en l i).f0 (en l i).f1 (en l i).f2) _
        rw [e1]; exact bad _
theorem entries_same (a : ByteArray) (l : List S36) (hf : Fits l) : ∃ b : Bool, Ev (fun k => impl_GoodEntries.f k a l) b ∧ Ev (fun k => spec_GoodEntries.f k a l) b := by
  obtain ⟨fo, f1, f2, f3⟩ := forms_same a
  have bi : Ev (fun k => impl_GoodEntries.j0 k l fo true) false := st_impl_GoodEntries_j0 (ev_pos rfl (ev_some rfl))
  have bs : Ev (fun k => spec_GoodEntries.j0 k l (fo.length : Int) true) false := st_spec_GoodEntries_j0 (ev_pos rfl (ev_some rfl))
  by_cases h0 : (fo.length : Int) = 0
  · exact ⟨false, Ev.bind f1 (ev_pos h0 bi), Ev.bind f2 (ev_pos h0 bs)⟩
  · obtain ⟨q, q1, q2⟩ := keys_same l hf
    cases q with
    | false => exact ⟨false, Ev.bind f1 (ev_neg h0 (Ev.bind q1 bi)), Ev.bind f2 (ev_neg h0 (Ev.bind q2 bs))⟩
    | true =>
      obtain ⟨b, b1, b2⟩ := entries_loop l hf fo f3 l.length 0 (by omega)
      exact ⟨b, Ev.bind f1 (ev_neg h0 (Ev.bind q1 (st_impl_GoodEntries_j0 (ev_neg (by decide) b1)))), Ev.bind f2 (ev_neg h0 (Ev.bind q2 (st_spec_GoodEntries_j0 (ev_neg (by decide) b2))))⟩
theorem FnExactGoodEntries : ∀ (a0 : ByteArray) (l1 : List (S32)), (a0.size ≤ 140737488351232) → (l1.length * 48 ≤ 140737488351232 ∧ ∀ y ∈ l1, Ok32 y) → ∃ k, laws_FnExactGoodEntries.f k a0 l1 = some true := by
  intro a xs ga gl
  refine Ev.rounds (g := fun k => laws_FnExactGoodEntries.f k a xs) ?_
  by_cases ha : (a.size : Int) > 1048576
  · exact ev_pos ha (ev_some rfl)
  · obtain ⟨r, hr, h | ⟨h0, h1, hx⟩⟩ := szEntryS_some xs gl 1048576 (by omega) (by omega)
    · exact ev_neg ha (Ev.bind hr (ev_pos h (ev_some rfl)))
    · have tx := toEntryS_ev xs hx
      have hx' : (xs.map cv32).length ≤ 1048576 ∧ ∀ y ∈ xs.map cv32, Fit36 y := ⟨by rw [List.length_map]; exact hx.1, fun y hy => by obtain ⟨z, hz, rfl⟩ := List.mem_map.1 hy; exact fit_cv32 (hx.2 z hz)⟩
      obtain ⟨t, hi, hs⟩ := entries_same a (xs.map cv32) hx'
      exact ev_neg ha (Ev.bind hr (ev_neg (by omega) (Ev.bind tx (Ev.bind hs (Ev.bind tx (Ev.bind hi (ev_neg (by simp) (Ev.bind tx (Ev.bind (eqEntryS_ev _ hx') (ev_pos rfl (ev_some rfl)))))))))))
end Go.Proofs.Ytnacjhgpanedoac.Pure
