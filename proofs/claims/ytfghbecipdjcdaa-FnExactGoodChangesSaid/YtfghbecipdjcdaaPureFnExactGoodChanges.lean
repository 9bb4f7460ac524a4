/- The law FnExactGoodChanges over a plain list: it answers true. No condition beyond the numbers' own kinds and what fits in memory. -/
import Derived.Test.YtfghbecipdjcdaaPFnExactGoodChangesx6
import Derived.Test.YtfghbecipdjcdaaOpenFnExactGoodChanges
import Derived.Test.YtfghbecipdjcdaaPlain
namespace Go.Proofs.Ytfghbecipdjcdaa.Pure
open Go.RowKit Go.Proofs.Ytfghbecipdjcdaa.PFnExactGoodChanges Go.Proofs.Ytfghbecipdjcdaa.OFnExactGoodChanges Go.Proofs.YtfghbecipdjcdaaW.PrintWords Go.Proofs.YtfghbecipdjcdaaW.PrintLast Go.Proofs.YtfghbecipdjcdaaW.PrintMore Go.Proofs.YtfghbecipdjcdaaO
set_option linter.unusedVariables false
set_option linter.unusedSimpArgs false

theorem st_laws_szChangeS_l0 {r : (Int)} {x0 : List (S158)} {x1 : Int} {x5 : Int} (h : Ev (fun k => if x5 < (x0.length : Int) then (if 0 ≤ x5 then ((laws_szChange.f ((rd_T158 x0 x5).f0) ((rd_T158 x0 x5).f1) ((rd_T158 x0 x5).f2) ((rd_T158 x0 x5).f3) ((rd_T158 x0 x5).f4) x1).bind fun t103 => (if t103 < 0 then (some (-1)) else (laws_szChangeS.l0 k x0 t103 (wrap64 (x5 + 1))))) else (none)) else (some x1)) r) : Ev (fun k => laws_szChangeS.l0 k x0 x1 x5) r := Ev.step (fun k => by rw [laws_szChangeS.l0]) h
theorem st_spec_GoodName_j0 {r : (Bool)} {x0 : ByteArray} {x16 : Bool} (h : Ev (fun k => if x16 = true then (some false) else (spec_GoodName.l0 k x0 0)) r) : Ev (fun k => spec_GoodName.j0 k x0 x16) r := Ev.step (fun k => by rw [spec_GoodName.j0]) h
theorem st_spec_GoodName_l0 {r : (Bool)} {x0 : ByteArray} {x3 : Int} (h : Ev (fun k => if x3 < (x0.size : Int) then (if 0 ≤ x3 then ((spec_l1Letter.f (bt x0 x3)).bind fun t105 => (if t105 = true then (spec_GoodName.l0 k x0 (wrap64 (x3 + 1))) else ((spec_l1Digit.f (bt x0 x3)).bind fun t106 => (if t106 = true then (spec_GoodName.l0 k x0 (wrap64 (x3 + 1))) else (some false))))) else (none)) else (some true)) r) : Ev (fun k => spec_GoodName.l0 k x0 x3) r := Ev.step (fun k => by rw [spec_GoodName.l0]) h
theorem st_spec_GoodChanges_l0 {r : (Bool)} {x0 : List (S159)} {x8 : List (S159)} {x9 : Int} {x10 : Int} (h : Ev (fun k => if x10 < x9 then (if 0 ≤ x10 then (if x10 < (x8.length : Int) then ((spec_l1In.f ((rd_T159 x8 x10).f0) 1 2).bind fun t109 => (if t109 = true then (if x10 > 0 then (if 0 ≤ (wrap64 (x10 - 1)) then (if (wrap64 (x10 - 1)) < (x0.length : Int) then (if ((rd_T159 x0 (wrap64 (x10 - 1))).f0) > ((rd_T159 x8 x10).f0) then (spec_GoodChanges.j1 k x0 x8 x9 x10 true ((rd_T159 x8 x10).f0) ((rd_T159 x8 x10).f1) ((rd_T159 x8 x10).f2) ((rd_T159 x8 x10).f3) ((rd_T159 x8 x10).f4)) else ((spec_l1In.f ((rd_T159 x8 x10).f1) 1 5).bind fun t111 => (if t111 = true then ((spec_GoodName.f k ((rd_T159 x8 x10).f2)).bind fun t112 => (if t112 = true then ((spec_l1In.f ((rd_T159 x8 x10).f4) (-1000000) 1000000).bind fun t113 => (spec_GoodChanges.j1 k x0 x8 x9 x10 (!t113) ((rd_T159 x8 x10).f0) ((rd_T159 x8 x10).f1) ((rd_T159 x8 x10).f2) ((rd_T159 x8 x10).f3) ((rd_T159 x8 x10).f4))) else (spec_GoodChanges.j1 k x0 x8 x9 x10 true ((rd_T159 x8 x10).f0) ((rd_T159 x8 x10).f1) ((rd_T159 x8 x10).f2) ((rd_T159 x8 x10).f3) ((rd_T159 x8 x10).f4)))) else (spec_GoodChanges.j1 k x0 x8 x9 x10 true ((rd_T159 x8 x10).f0) ((rd_T159 x8 x10).f1) ((rd_T159 x8 x10).f2) ((rd_T159 x8 x10).f3) ((rd_T159 x8 x10).f4))))) else (none)) else (none)) else ((spec_l1In.f ((rd_T159 x8 x10).f1) 1 5).bind fun t114 => (if t114 = true then ((spec_GoodName.f k ((rd_T159 x8 x10).f2)).bind fun t115 => (if t115 = true then ((spec_l1In.f ((rd_T159 x8 x10).f4) (-1000000) 1000000).bind fun t116 => (spec_GoodChanges.j1 k x0 x8 x9 x10 (!t116) ((rd_T159 x8 x10).f0) ((rd_T159 x8 x10).f1) ((rd_T159 x8 x10).f2) ((rd_T159 x8 x10).f3) ((rd_T159 x8 x10).f4))) else (spec_GoodChanges.j1 k x0 x8 x9 x10 true ((rd_T159 x8 x10).f0) ((rd_T159 x8 x10).f1) ((rd_T159 x8 x10).f2) ((rd_T159 x8 x10).f3) ((rd_T159 x8 x10).f4)))) else (spec_GoodChanges.j1 k x0 x8 x9 x10 true ((rd_T159 x8 x10).f0) ((rd_T159 x8 x10).f1) ((rd_T159 x8 x10).f2) ((rd_T159 x8 x10).f3) ((rd_T159 x8 x10).f4))))) else (spec_GoodChanges.j1 k x0 x8 x9 x10 true ((rd_T159 x8 x10).f0) ((rd_T159 x8 x10).f1) ((rd_T159 x8 x10).f2) ((rd_T159 x8 x10).f3) ((rd_T159 x8 x10).f4)))) else (none)) else (none)) else (some true)) r) : Ev (fun k => spec_GoodChanges.l0 k x0 x8 x9 x10) r := Ev.step (fun k => by rw [spec_GoodChanges.l0]) h
theorem st_spec_GoodChanges_j1 {r : (Bool)} {x0 : List (S159)} {x8 : List (S159)} {x9 : Int} {x10 : Int} {x51 : Bool} {x109000 : Int} {x109001 : Int} {x109002 : ByteArray} {x109003 : ByteArray} {x109004 : Int} (h : Ev (fun k => if x51 = true then (some false) else (if x109001 = 1 then ((spec_GoodName.f k x109003).bind fun t117 => (if t117 = true then (spec_GoodChanges.j2 k x0 x8 x9 x10 false x109000 x109001 x109002 x109003 x109004) else (spec_GoodChanges.j2 k x0 x8 x9 x10 true x109000 x109001 x109002 x109003 x109004))) else (spec_GoodChanges.j2 k x0 x8 x9 x10 (x109003.toList != ([] : List UInt8)) x109000 x109001 x109002 x109003 x109004))) r) : Ev (fun k => spec_GoodChanges.j1 k x0 x8 x9 x10 x51 x109000 x109001 x109002 x109003 x109004) r := Ev.step (fun k => by rw [spec_GoodChanges.j1]) h
theorem st_spec_GoodChanges_j2 {r : (Bool)} {x0 : List (S159)} {x8 : List (S159)} {x9 : Int} {x10 : Int} {x70 : Bool} {x109000 : Int} {x109001 : Int} {x109002 : ByteArray} {x109003 : ByteArray} {x109004 : Int} (h : Ev (fun k => if x70 = true then (some false) else (if x109001 = 1 then (if x109004 = 0 then (spec_GoodChanges.l0 k x0 x8 x9 (wrap64 (x10 + 1))) else (some false)) else (if x109001 = 4 then (if x109004 = 0 then (spec_GoodChanges.l0 k x0 x8 x9 (wrap64 (x10 + 1))) else (some false)) else (spec_GoodChanges.l0 k x0 x8 x9 (wrap64 (x10 + 1)))))) r) : Ev (fun k => spec_GoodChanges.j2 k x0 x8 x9 x10 x70 x109000 x109001 x109002 x109003 x109004) r := Ev.step (fun k => by rw [spec_GoodChanges.j2]) h
theorem st_laws_toChangeS_l0 {r : ((List (S159)))} {x0 : List (S158)} {x3 : List (S159)} {x4 : Int} (h : Ev (fun k => if x4 < (x0.length : Int) then (if 0 ≤ x4 then ((laws_toChange.f ((rd_T158 x0 x4).f0) ((rd_T158 x0 x4).f1) ((rd_T158 x0 x4).f2) ((rd_T158 x0 x4).f3) ((rd_T158 x0 x4).f4)).bind fun bt125 => (if x4 < (x3.length : Int) then (laws_toChangeS.l0 k x0 (x3.set (x4 : Int).toNat (⟨bt125.1, bt125.2.1, bt125.2.2.1, bt125.2.2.2.1, bt125.2.2.2.2⟩ : S159)) (wrap64 (x4 + 1))) else (none))) else (none)) else (some x3)) r) : Ev (fun k => laws_toChangeS.l0 k x0 x3 x4) r := Ev.step (fun k => by rw [laws_toChangeS.l0]) h
theorem st_impl_GoodName_l0 {r : (Bool)} {x0 : ByteArray} {x5 : Int} {x6 : Int} (h : Ev (fun k => if x6 < x5 then (if 0 ≤ x6 then (if x6 < (x0.size : Int) then ((impl_isLetter.f (bt x0 x6)).bind fun t132 => (if t132 = true then (impl_GoodName.l0 k x0 x5 (wrap64 (x6 + 1))) else (if (bt x0 x6) = 95 then (impl_GoodName.l0 k x0 x5 (wrap64 (x6 + 1))) else (if x6 = 0 then (some false) else ((impl_isDigit.f (bt x0 x6)).bind fun t133 => (if t133 = true then (impl_GoodName.l0 k x0 x5 (wrap64 (x6 + 1))) else (some false))))))) else (none)) else (none)) else ((impl_inRange.f (x0.size : Int) 1 20).bind fun t131 => (some t131))) r) : Ev (fun k => impl_GoodName.l0 k x0 x5 x6) r := Ev.step (fun k => by rw [impl_GoodName.l0]) h
theorem st_impl_isChange_j0 {r : (Bool)} {x3 : Bool} {x136000 : Int} {x136001 : Int} {x136002 : ByteArray} {x136003 : ByteArray} {x136004 : Int} (h : Ev (fun k => if x136001 = 1 then ((impl_GoodName.f k x136003).bind fun t136 => (if t136 = true then (if x3 = true then (impl_isChange.j1 k false x136000 x136001 x136002 x136003 x136004) else (impl_isChange.j1 k (x136004 != 0) x136000 x136001 x136002 x136003 x136004)) else (impl_isChange.j1 k true x136000 x136001 x136002 x136003 x136004))) else (if x136003.toList = ([] : List UInt8) then (if x3 = true then (impl_isChange.j1 k false x136000 x136001 x136002 x136003 x136004) else (impl_isChange.j1 k (x136004 != 0) x136000 x136001 x136002 x136003 x136004)) else (impl_isChange.j1 k true x136000 x136001 x136002 x136003 x136004))) r) : Ev (fun k => impl_isChange.j0 k x3 x136000 x136001 x136002 x136003 x136004) r := Ev.step (fun k => by rw [impl_isChange.j0]) h
theorem st_impl_isChange_j1 {r : (Bool)} {x44 : Bool} {x136000 : Int} {x136001 : Int} {x136002 : ByteArray} {x136003 : ByteArray} {x136004 : Int} (h : Ev (fun k => if x44 = true then (some false) else ((impl_inRange.f x136000 1 2).bind fun t137 => (if t137 = true then ((impl_inRange.f x136001 1 5).bind fun t138 => (if t138 = true then ((impl_GoodName.f k x136002).bind fun t139 => (if t139 = true then ((impl_isFar.f x136004).bind fun t140 => (some t140)) else (some false))) else (some false))) else (some false)))) r) : Ev (fun k => impl_isChange.j1 k x44 x136000 x136001 x136002 x136003 x136004) r := Ev.step (fun k => by rw [impl_isChange.j1]) h
theorem st_impl_GoodChanges_l0 {r : (Bool)} {x0 : List (S159)} {x5 : List (S159)} {x6 : Int} {x7 : Int} (h : Ev (fun k => if x7 < x6 then (if 0 ≤ x7 then (if x7 < (x5.length : Int) then ((impl_isChange.f k ((rd_T159 x5 x7).f0) ((rd_T159 x5 x7).f1) ((rd_T159 x5 x7).f2) ((rd_T159 x5 x7).f3) ((rd_T159 x5 x7).f4)).bind fun t143 => (if t143 = true then (if x7 > 0 then (if 0 ≤ (wrap64 (x7 - 1)) then (if (wrap64 (x7 - 1)) < (x0.length : Int) then (if ((rd_T159 x0 (wrap64 (x7 - 1))).f0) > ((rd_T159 x5 x7).f0) then (some false) else (impl_GoodChanges.l0 k x0 x5 x6 (wrap64 (x7 + 1)))) else (none)) else (none)) else (impl_GoodChanges.l0 k x0 x5 x6 (wrap64 (x7 + 1)))) else (some false))) else (none)) else (none)) else (some (decide ((x0.length : Int) ≤ 30)))) r) : Ev (fun k => impl_GoodChanges.l0 k x0 x5 x6 x7) r := Ev.step (fun k => by rw [impl_GoodChanges.l0]) h
theorem st_laws_eqChangeS_l0 {r : (Bool)} {x0 : List (S159)} {x1 : List (S159)} {x5 : Int} (h : Ev (fun k => if x5 < (x0.length : Int) then (if 0 ≤ x5 then (if x5 < (x1.length : Int) then ((laws_eqChange.f ((rd_T159 x0 x5).f0) ((rd_T159 x0 x5).f1) ((rd_T159 x0 x5).f2) ((rd_T159 x0 x5).f3) ((rd_T159 x0 x5).f4) ((rd_T159 x1 x5).f0) ((rd_T159 x1 x5).f1) ((rd_T159 x1 x5).f2) ((rd_T159 x1 x5).f3) ((rd_T159 x1 x5).f4)).bind fun t149 => (if t149 = true then (laws_eqChangeS.l0 k x0 x1 (wrap64 (x5 + 1))) else (some false))) else (none)) else (none)) else (some true)) r) : Ev (fun k => laws_eqChangeS.l0 k x0 x1 x5) r := Ev.step (fun k => by rw [laws_eqChangeS.l0]) h
theorem inr_some (a b c : Int) : impl_inRange.f a b c = some (decide (b ≤ a ∧ a ≤ c)) := by
  unfold impl_inRange.f
  split <;> simp_all <;> omega
theorem in_some (a b c : Int) : spec_l1In.f a b c = some (decide (b ≤ a ∧ a ≤ c)) := by
  unfold spec_l1In.f
  split <;> simp_all <;> omega
theorem in_same (a b c : Int) : impl_inRange.f a b c = spec_l1In.f a b c := rfl
/-! ### names -/
def nameChar (c : Int) : Bool := decide (97 ≤ c ∧ c ≤ 122) || decide (65 ≤ c ∧ c ≤ 90) || decide (c = 95)
def digitChar (c : Int) : Bool := decide (48 ≤ c ∧ c ≤ 57)
def CharOk (s : ByteArray) (i : Nat) : Prop := nameChar (bt s (i : Int)) = true ∨ 0 < i ∧ digitChar (bt s (i : Int)) = true
def NameOk (s : ByteArray) : Prop := (1 ≤ s.size ∧ s.size ≤ 20) ∧ ∀ i, i < s.size → CharOk s i
theorem letter_spec (c : Int) : spec_l1Letter.f c = some (nameChar c) := by
  unfold spec_l1Letter.f nameChar
  repeat' split
  all_goals (congr 1; rw [Bool.eq_iff_iff]; simp; try omega)
theorem digit_spec (c : Int) : spec_l1Digit.f c = some (digitChar c) := by
  unfold spec_l1Digit.f digitChar
  repeat' split
  all_goals (congr 1; rw [Bool.eq_iff_iff]; simp; try omega)
theorem digit_impl (c : Int) : impl_isDigit.f c = some (digitChar c) := by
  unfold impl_isDigit.f digitChar
  repeat' split
  all_goals (congr 1; rw [Bool.eq_iff_iff]; simp; try omega)
theorem letter_impl (c : Int) : ∃ b, impl_isLetter.f c = some b ∧ (nameChar c = true ↔ b = true ∨ c = 95) := by
  unfold impl_isLetter.f nameChar
  repeat' split
  all_goals (refine ⟨_, rfl, ?_⟩; simp; try omega)
theorem name_impl (s : ByteArray) (hs : s.size ≤ 140737488351232) (b : Bool) (hb : b = true ↔ NameOk s) : Ev (fun k => impl_GoodName.f k s) b := by
  refine ev_all s.size (fun k i => impl_GoodName.l0 k s (s.size : Int) (i : Int)) (CharOk s) (decide (1 ≤ (s.size : Int) ∧ (s.size : Int) ≤ 20)) b ?_ ?_ ?_ ?_
  · rw [hb]; unfold NameOk; simp; omega
  · exact st_impl_GoodName_l0 (ev_neg (by omega) (ev_bindc (inr_some _ _ _) (ev_some rfl)))
  · intro i hi _ ho r hr
    refine st_impl_GoodName_l0 (ev_pos (by omega) (ev_pos (by omega) (ev_pos (by omega) ?_)))
    obtain ⟨q, hq, hn⟩ := letter_impl (bt s (i : Int))
    rw [w64s i (by omega)]
    refine ev_bindc hq (ev_ite (fun _ => hr) fun h1 => ev_ite (fun _ => hr) fun h2 => ?_)
    rcases ho with ho | ⟨ho, hd⟩
    · rcases hn.1 ho with h | h
      · exact absurd h h1
      · exact absurd h h2
    · exact ev_neg (by omega) (ev_bindc (digit_impl _) (ev_pos hd hr))
  · intro i hi _ ho
    refine st_impl_GoodName_l0 (ev_pos (by omega) (ev_pos (by omega) (ev_pos (by omega) ?_)))
    obtain ⟨q, hq, hn⟩ := letter_impl (bt s (i : Int))
    refine ev_bindc hq (ev_ite (fun h => absurd (.inl (hn.2 (.inl h))) ho) fun h1 => ev_ite (fun h => absurd (.inl (hn.2 (.inr h))) ho) fun h2 => ev_ite (fun _ => ev_some rfl) fun h3 => ?_)
    exact ev_bindc (digit_impl _) (ev_neg (fun h => ho (.inr ⟨by omega, h⟩)) (ev_some rfl))
theorem name_spec (s : ByteArray) (b : Bool) (hb : b = true ↔ NameOk s) : Ev (fun k => spec_GoodName.f k s) b := by
  have j0t : Ev (fun k => spec_GoodName.j0 k s true) false := st_spec_GoodName_j0 (ev_pos rfl (ev_some rfl))
  by_cases h1 : (s.size : Int) < 1
  · rw [bool_false hb (fun h => by have := h.1; omega)]
    exact ev_pos h1 j0t
  · by_cases h2 : (s.size : Int) > 20
    · rw [bool_false hb (fun h => by have := h.1; omega)]
      exact ev_neg h1 (ev_pos h2 j0t)
    · refine ev_neg h1 (ev_neg h2 (ev_pos (by omega) (ev_bindc (digit_spec _) ?_)))
      cases hd : digitChar (bt s 0) with
      | true =>
        rw [bool_false hb (fun h => by
          have h0 : CharOk s 0 := h.2 0 (by omega)
          rcases h0 with h0 | h0
          · have h0 : nameChar (bt s 0) = true := h0
            generalize bt s 0 = c at hd h0
            simp [nameChar, digitChar] at hd h0; omega
          · omega)]
        exact j0t
      | false =>
        refine st_spec_GoodName_j0 (ev_neg (by decide) ?_)
        refine ev_all s.size (fun k i => spec_GoodName.l0 k s (i : Int)) (CharOk s) true b ?_ ?_ ?_ ?_
        · rw [hb]; unfold NameOk; constructor
          · exact fun h => ⟨rfl, h.2⟩
          · exact fun h => ⟨by omega, h.2⟩
        · exact st_spec_GoodName_l0 (ev_neg (by omega) (ev_some rfl))
        · intro i hi _ ho r hr
          refine st_spec_GoodName_l0 (ev_pos (by omega) (ev_pos (by omega) (ev_bindc (letter_spec _) (ev_ite (fun _ => by rw [w64s i (by omega)]; exact hr) fun hl => ev_bindc (digit_spec _) ?_))))
          rcases ho with ho | ⟨_, ho⟩
          · exact absurd ho hl
          · refine ev_pos ho ?_
            rw [w64s i (by omega)]; exact hr
        · intro i hi _ ho
          refine st_spec_GoodName_l0 (ev_pos (by omega) (ev_pos (by omega) (ev_bindc (letter_spec _) (ev_neg (fun h => ho (.inl h)) (ev_bindc (digit_spec _) (ev_neg (fun h => ho ?_) (ev_some rfl)))))))
          rcases Nat.eq_zero_or_pos i with rfl | hp
          · have h' : digitChar (bt s 0) = true := h
            rw [hd] at h'; cases h'
          · exact .inr ⟨hp, h⟩
theorem name_same (s : ByteArray) (hs : s.size ≤ 140737488351232) : ∃ b, Ev (fun k => spec_GoodName.f k s) b ∧ Ev (fun k => impl_GoodName.f k s) b ∧ (b = true ↔ NameOk s) := by
  obtain ⟨b, hb⟩ := bool_of (NameOk s)
  exact ⟨b, name_spec s b hb, name_impl s hs b hb, hb⟩
/-! ### the laws' own helpers (by helpgen.py) -/
def Fit158 (x : S158) : Prop := (x.f2.size ≤ 1048576) ∧ (x.f3.size ≤ 1048576)
theorem szChange_some (a0 : Int) (a1 : Int) (a2 : ByteArray) (a3 : ByteArray) (a4 : Int) (ga0 : In64 a0) (ga1 : In64 a1) (ga2 : a2.size ≤ 140737488351232) (ga3 : a3.size ≤ 140737488351232) (ga4 : In64 a4) (left : Int) (h0 : 0 ≤ left) (h1 : left ≤ 1048576) : ∃ r, Ev (fun _ => laws_szChange.f a0 a1 a2 a3 a4 left) r ∧ (r < 0 ∨ 0 ≤ r ∧ r ≤ left ∧ (a2.size ≤ 1048576) ∧ (a3.size ≤ 1048576)) := by
  unfold laws_szChange.f
  have e0 : wrap64 (left - (a2.size : Int)) = left - (a2.size : Int) := w64 (by omega) (by omega)
  rw [e0]
  refine exev_ite (fun _ => exev_some (.inl (by omega))) fun c0 => ?_
  have e1 : wrap64 ((left - (a2.size : Int)) - (a3.size : Int)) = (left - (a2.size : Int)) - (a3.size : Int) := w64 (by omega) (by omega)
  rw [e1]
  refine exev_ite (fun _ => exev_some (.inl (by omega))) fun c1 => ?_
  exact exev_some (.inr ⟨by omega, by omega, (by omega), (by omega)⟩)
theorem szChangeS_some (xs : List S158) (g : xs.length * 56 ≤ 140737488351232 ∧ ∀ y ∈ xs, Ok158 y) (left : Int) (h0 : 0 ≤ left) (h1 : left ≤ 1048576) : ∃ r, Ev (fun k => laws_szChangeS.f k xs left) r ∧ (r < 0 ∨ 0 ≤ r ∧ r ≤ left ∧ (xs.length ≤ 1048576 ∧ ∀ y ∈ xs, Fit158 y)) := by
  have g1 := g.1
  unfold laws_szChangeS.f
  rw [w64 (n := left - (xs.length : Int)) (by omega) (by omega)]
  refine exev_ite (fun _ => exev_some (.inl (by omega))) fun hc => ?_
  have he : ∀ i : Nat, ∀ hi : i < xs.length, ∀ c : Int, 0 ≤ c → c ≤ left - (xs.length : Int) → ∃ r, Ev (fun k => laws_szChange.f ((rd_T158 xs (i : Int)).f0) ((rd_T158 xs (i : Int)).f1) ((rd_T158 xs (i : Int)).f2) ((rd_T158 xs (i : Int)).f3) ((rd_T158 xs (i : Int)).f4) c) r ∧ (r < 0 ∨ 0 ≤ r ∧ r ≤ c ∧ Fit158 xs[i]) := by
    intro i hi c h0 h1
    have e : rd_T158 xs (i : Int) = xs[i] := getD_get hi
    rw [e]
    have gx := g.2 _ (List.getElem_mem hi)
    obtain ⟨r, hr, hq⟩ := szChange_some _ _ _ _ _ (gx.1) (gx.2.1) (gx.2.2.1) (gx.2.2.2.1) (gx.2.2.2.2) c h0 (by omega)
    exact ⟨r, hr, hq⟩
  obtain ⟨r, hr, hq⟩ := ev_size laws_szChangeS.l0 (fun _ xs c i => laws_szChange.f ((rd_T158 xs i).f0) ((rd_T158 xs i).f1) ((rd_T158 xs i).f2) ((rd_T158 xs i).f3) ((rd_T158 xs i).f4) c) (fun y => Fit158 y) (fun _ _ _ _ => rfl) xs (by omega) (left - (xs.length : Int)) (by omega) he
  refine ⟨r, hr, ?_⟩
  rcases hq with hq | ⟨q0, q1, q2⟩
  · exact .inl hq
  · exact .inr ⟨q0, by omega, by omega, q2⟩
def cv158 (x : S158) : S159 := ⟨x.f0, x.f1, x.f2, x.f3, x.f4⟩
def Fit159 (x : S159) : Prop := (x.f2.size ≤ 1048576) ∧ (x.f3.size ≤ 1048576)
theorem fit_cv158 {x : S158} (h : Fit158 x) : Fit159 (cv158 x) := by
  obtain ⟨h0, h1⟩ := h
  exact ⟨h0, h1⟩
theorem toChangeS_ev (xs : List S158) (h : (xs.length ≤ 1048576 ∧ ∀ y ∈ xs, Fit158 y)) : Ev (fun k => laws_toChangeS.f k xs) (xs.map cv158) := by
  refine ev_pos (by omega) (ev_pos (by have := h.1; omega) ?_)
  refine ev_copy2 laws_toChangeS.l0 (fun k xs i => laws_toChange.f ((rd_T158 xs i).f0) ((rd_T158 xs i).f1) ((rd_T158 xs i).f2) ((rd_T158 xs i).f3) ((rd_T158 xs i).f4)) (fun t => (⟨t.1, t.2.1, t.2.2.1, t.2.2.2.1, t.2.2.2.2⟩ : S159)) cv158 (fun _ _ _ _ => rfl) xs (by have := h.1; omega) (fun i hi => ?_) _ (by simp)
  · have e : rd_T158 xs (i : Int) = xs[i] := getD_get hi
    rw [e]
    exact ⟨_, ev_eq rfl, rfl⟩
theorem eqChange_self (a0 : Int) (a1 : Int) (a2 : ByteArray) (a3 : ByteArray) (a4 : Int) : laws_eqChange.f a0 a1 a2 a3 a4 a0 a1 a2 a3 a4 = some true := by
  simp [laws_eqChange.f]
theorem eqChangeS_ev (xs : List S159) (h : (xs.length ≤ 1048576 ∧ ∀ y ∈ xs, Fit159 y)) : Ev (fun k => laws_eqChangeS.f k xs xs) true := by
  refine ev_pos rfl (ev_alike_self laws_eqChangeS.l0 (fun k xs ys i => laws_eqChange.f ((rd_T159 xs i).f0) ((rd_T159 xs i).f1) ((rd_T159 xs i).f2) ((rd_T159 xs i).f3) ((rd_T159 xs i).f4) ((rd_T159 ys i).f0) ((rd_T159 ys i).f1) ((rd_T159 ys i).f2) ((rd_T159 ys i).f3) ((rd_T159 ys i).f4)) (fun _ _ _ _ => rfl) xs (by have := h.1; omega) (fun i hi => ?_))
  · exact ev_eq (eqChange_self _ _ _ _ _)

/-! ### good changes -/
def Rest (F K : Int) (N : ByteArray) (B : Int) : Prop := (1 ≤ F ∧ F ≤ 2) ∧ (1 ≤ K ∧ K ≤ 5) ∧ NameOk N ∧ (-1000000 ≤ B ∧ B ≤ 1000000)
def ToOk (K : Int) (T : ByteArray) : Prop := (K = 1 → NameOk T) ∧ (¬ K = 1 → T.toList = [])
def ByOk (K B : Int) : Prop := K = 1 ∨ K = 4 → B = 0
def ChangeOk (F K : Int) (N T : ByteArray) (B : Int) : Prop := Rest F K N B ∧ ToOk K T ∧ ByOk K B
theorem far_some (n : Int) : impl_isFar.f n = some (decide (-1000000 ≤ n ∧ n ≤ 1000000)) := by unfold impl_isFar.f; rw [inr_some]; rfl
theorem ic_j1t (F K : Int) (N T : ByteArray) (B : Int) : Ev (fun k => impl_isChange.j1 k true F K N T B) false := st_impl_isChange_j1 (ev_pos rfl (ev_some rfl))
theorem ic_j1f (F K : Int) (N T : ByteArray) (B : Int) (hN : N.size ≤ 140737488351232) (c : Bool) (hc : c = true ↔ Rest F K N B) : Ev (fun k => impl_isChange.j1 k false F K N T B) c := by
  have no : ¬ Rest F K N B → false = c := fun h => (bool_false hc h).symm
  refine st_impl_isChange_j1 (ev_neg (by decide) (ev_bindc (inr_some _ _ _) (ev_ite (fun h0 => ?_) fun h0 => ev_some (no fun h => h0 (decide_eq_true h.1)))))
  refine ev_bindc (inr_some _ _ _) (ev_ite (fun h1 => ?_) fun h1 => ev_some (no fun h => h1 (decide_eq_true h.2.1)))
  obtain ⟨b, hb⟩ := bool_of (NameOk N)
  refine Ev.bind (name_impl N hN b hb) (ev_ite (fun h2 => ?_) fun h2 => ev_some (no fun h => h2 (hb.2 h.2.2.1)))
  refine ev_bindc (far_some _) (ev_some ?_)
  rw [Bool.eq_iff_iff, hc, decide_eq_true_eq]
  exact ⟨fun h3 => ⟨of_decide_eq_true h0, of_decide_eq_true h1, hb.1 h2, h3⟩, fun h => h.2.2.2⟩
theorem ic_j0 (F K : Int) (N T : ByteArray) (B : Int) (hN : N.size ≤ 140737488351232) (hT : T.size ≤ 140737488351232) (x : Bool) (c : Bool) (hc : c = true ↔ Rest F K N B ∧ ToOk K T ∧ (x = true ∨ B = 0)) : Ev (fun k => impl_isChange.j0 k x F K N T B) c := by
  have no : ¬ (Rest F K N B ∧ ToOk K T ∧ (x = true ∨ B = 0)) → c = false := bool_false hc
  have tail : ToOk K T → Ev (fun k => if x = true then impl_isChange.j1 k false F K N T B else impl_isChange.j1 k (B != 0) F K N T B) c := by
    intro ht
    refine ev_ite (fun hx => ic_j1f F K N T B hN c (hc.trans ⟨fun h => h.1, fun h => ⟨h, ht, .inl hx⟩⟩)) fun hx => ?_
    by_cases hB : B = 0
    · rw [show (B != 0) = false by simpa using hB]
      exact ic_j1f F K N T B hN c (hc.trans ⟨fun h => h.1, fun h => ⟨h, ht, .inr hB⟩⟩)
    · rw [show (B != 0) = true by simpa using hB, no (fun h => by rcases h.2.2 with h | h; exact hx h; exact hB h)]
      exact ic_j1t F K N T B
  refine st_impl_isChange_j0 (ev_ite (fun hK => ?_) fun hK => ?_)
  · obtain ⟨b, hb⟩ := bool_of (NameOk T)
    refine Ev.bind (name_impl T hT b hb) (ev_ite (fun h2 => tail ⟨fun _ => hb.1 h2, fun h => absurd hK h⟩) fun h2 => ?_)
    rw [no (fun h => h2 (hb.2 (h.2.1.1 hK)))]
    exact ic_j1t F K N T B
  · refine ev_ite (fun h2 => tail ⟨fun h => absurd h hK, fun _ => h2⟩) fun h2 => ?_
    rw [no (fun h => h2 (h.2.1.2 hK))]
    exact ic_j1t F K N T B
theorem ic_impl (F K : Int) (N T : ByteArray) (B : Int) (hN : N.size ≤ 140737488351232) (hT : T.size ≤ 140737488351232) (c : Bool) (hc : c = true ↔ ChangeOk F K N T B) : Ev (fun k => impl_isChange.f k F K N T B) c := by
  unfold ChangeOk ByOk at hc
  refine ev_ite (fun hK => ?_) fun hK => ev_ite (fun hK3 => ?_) fun hK3 => ?_
  · exact ic_j0 F K N T B hN hT true c (hc.trans ⟨fun h => ⟨h.1, h.2.1, .inl rfl⟩, fun h => ⟨h.1, h.2.1, fun h' => by omega⟩⟩)
  · exact ic_j0 F K N T B hN hT true c (hc.trans ⟨fun h => ⟨h.1, h.2.1, .inl rfl⟩, fun h => ⟨h.1, h.2.1, fun h' => by omega⟩⟩)
  · refine ic_j0 F K N T B hN hT (K == 5) c (hc.trans ⟨fun h => ⟨h.1, h.2.1, ?_⟩, fun h => ⟨h.1, h.2.1, fun h' => ?_⟩⟩)
    · by_cases h5 : K = 5
      · exact .inl (by simpa using h5)
      · exact .inr (h.2.2 (by have := h.1.2.1; omega))
    · rcases h.2.2 with h5 | h5
      · have h5 : K = 5 := by simpa using h5
        omega
      · exact h5
def ItemOk (xs : List S159) (i : Nat) : Prop :=
  ChangeOk (rd_T159 xs i).f0 (rd_T159 xs i).f1 (rd_T159 xs i).f2 (rd_T159 xs i).f3 (rd_T159 xs i).f4 ∧ (0 < i → (rd_T159 xs ((i : Int) - 1)).f0 ≤ (rd_T159 xs i).f0)
def ChangesOk (xs : List S159) : Prop := xs.length ≤ 30 ∧ ∀ i, i < xs.length → ItemOk xs i
theorem changes_impl (xs : List S159) (hx : xs.length ≤ 1048576 ∧ ∀ y ∈ xs, Fit159 y) (b : Bool) (hb : b = true ↔ ChangesOk xs) : Ev (fun k => impl_GoodChanges.f k xs) b := by
  have hl := hx.1
  have hn : ∀ i : Nat, i < xs.length → (rd_T159 xs i).f2.size ≤ 140737488351232 ∧ (rd_T159 xs i).f3.size ≤ 140737488351232 := by
    intro i hi
    have e : rd_T159 xs (i : Int) = xs[i] := getD_get hi
    rw [e]
    have := hx.2 _ (List.getElem_mem hi)
    exact ⟨by have := this.1; omega, by have := this.2; omega⟩
  refine ev_all xs.length (fun k i => impl_GoodChanges.l0 k xs xs (xs.length : Int) (i : Int)) (ItemOk xs) (decide ((xs.length : Int) ≤ 30)) b ?_ ?_ ?_ ?_
  · rw [hb]; unfold ChangesOk; rw [decide_eq_true_eq]; constructor <;> (rintro ⟨h1, h2⟩; exact ⟨by omega, h2⟩)
  · exact Ev.step (fun _ => rfl) (ev_neg (by omega) (ev_some rfl))
  · intro i hi _ ⟨h0, h1⟩ r hr
    refine Ev.step (fun _ => rfl) (ev_pos (by omega) (ev_pos (by omega) (ev_pos (by omega) (Ev.bind (ic_impl _ _ _ _ _ (hn i hi).1 (hn i hi).2 true ⟨fun _ => h0, fun _ => rfl⟩) (ev_pos rfl ?_)))))
    rw [w64s i (by omega), w64 (n := (i : Int) - 1) (by omega) (by omega)]
    exact ev_ite (fun hp => ev_pos (by omega) (ev_pos (by omega) (ev_neg (by have := h1 (by omega); omega) hr))) fun _ => hr
  · intro i hi _ ho
    obtain ⟨c, hc⟩ := bool_of (ChangeOk (rd_T159 xs i).f0 (rd_T159 xs i).f1 (rd_T159 xs i).f2 (rd_T159 xs i).f3 (rd_T159 xs i).f4)
    refine Ev.step (fun _ => rfl) (ev_pos (by omega) (ev_pos (by omega) (ev_pos (by omega) (Ev.bind (ic_impl _ _ _ _ _ (hn i hi).1 (hn i hi).2 c hc) (ev_ite (fun h0 => ?_) fun _ => ev_some rfl)))))
    rw [w64 (n := (i : Int) - 1) (by omega) (by omega)]
    refine ev_ite (fun hp => ev_pos (by omega) (ev_pos (by omega) (ev_ite (fun _ => ev_some rfl) fun h2 => absurd ⟨hc.1 h0, fun _ => by omega⟩ ho))) fun hp => absurd ⟨hc.1 h0, fun h => by omega⟩ ho
section
variable {xs ys : List S159} {n i : Int} {F K : Int} {N T : ByteArray} {B : Int}
theorem gc_j1t : Ev (fun k => spec_GoodChanges.j1 k xs ys n i true F K N T B) false := st_spec_GoodChanges_j1 (ev_pos rfl (ev_some rfl))
theorem gc_j2t : Ev (fun k => spec_GoodChanges.j2 k xs ys n i true F K N T B) false := st_spec_GoodChanges_j2 (ev_pos rfl (ev_some rfl))
theorem gc_j2 (r : Bool) (hy : ByOk K B → Ev (fun k => spec_GoodChanges.l0 k xs ys n (wrap64 (i + 1))) r) (hn : ¬ ByOk K B → r = false) : Ev (fun k => spec_GoodChanges.j2 k xs ys n i false F K N T B) r := by
  refine st_spec_GoodChanges_j2 (ev_neg (by decide) (ev_ite (fun h1 => ev_ite (fun h => hy (fun _ => h)) fun h => ev_some (hn (fun h' => h (h' (.inl h1)))).symm) fun h1 => ev_ite (fun h4 => ev_ite (fun h => hy (fun _ => h)) fun h => ev_some (hn (fun h' => h (h' (.inr h4)))).symm) fun h4 => hy (fun h => by omega)))
theorem gc_j1 (r : Bool) (hy : ToOk K T ∧ ByOk K B → Ev (fun k => spec_GoodChanges.l0 k xs ys n (wrap64 (i + 1))) r) (hn : ¬ (ToOk K T ∧ ByOk K B) → r = false) : Ev (fun k => spec_GoodChanges.j1 k xs ys n i false F K N T B) r := by
  refine st_spec_GoodChanges_j1 (ev_neg (by decide) (ev_ite (fun h1 => ?_) fun h1 => ?_))
  · obtain ⟨b, hb⟩ := bool_of (NameOk T)
    refine Ev.bind (name_spec T b hb) (ev_ite (fun h => ?_) fun h => ?_)
    · have ht : ToOk K T := ⟨fun _ => hb.1 h, fun h' => absurd h1 h'⟩
      exact gc_j2 r (fun h => hy ⟨ht, h⟩) (fun h => hn (fun h' => h h'.2))
    · rw [hn (fun h' => h (hb.2 (h'.1.1 h1)))]
      exact gc_j2t
  · by_cases h : T.toList = []
    · rw [show (T.toList != ([] : List UInt8)) = false by simpa using h]
      exact gc_j2 r (fun h' => hy ⟨⟨fun h'' => absurd h'' h1, fun _ => h⟩, h'⟩) (fun h' => hn (fun h'' => h' h''.2))
    · rw [show (T.toList != ([] : List UInt8)) = true by simpa using h, hn (fun h' => h (h'.1.2 h1))]
      exact gc_j2t
end
theorem gc_item (xs : List S159) (hl : xs.length ≤ 30) (i : Nat) (hi : i < xs.length) (r : Bool) (hy : ItemOk xs i → Ev (fun k => spec_GoodChanges.l0 k xs xs (xs.length : Int) (wrap64 ((i : Int) + 1))) r) (hn : ¬ ItemOk xs i → r = false) : Ev (fun k => spec_GoodChanges.l0 k xs xs (xs.length : Int) (i : Int)) r := by
  have e : wrap64 ((i : Int) - 1) = (i : Int) - 1 := w64 (by omega) (by omega)
  refine st_spec_GoodChanges_l0 (ev_pos (by omega) (ev_pos (by omega) (ev_pos (by omega) (ev_bindc (in_some _ _ _) (ev_ite (fun h0 => ?_) fun h0 => ?_)))))
  · have rest : (0 < i → (rd_T159 xs ((i : Int) - 1)).f0 ≤ (rd_T159 xs i).f0) → Ev (fun k => (spec_l1In.f ((rd_T159 xs i).f1) 1 5).bind fun t111 => (if t111 = true then ((spec_GoodName.f k ((rd_T159 xs i).f2)).bind fun t112 => (if t112 = true then ((spec_l1In.f ((rd_T159 xs i).f4) (-1000000) 1000000).bind fun t113 => (spec_GoodChanges.j1 k xs xs (xs.length : Int) (i : Int) (!t113) ((rd_T159 xs i).f0) ((rd_T159 xs i).f1) ((rd_T159 xs i).f2) ((rd_T159 xs i).f3) ((rd_T159 xs i).f4))) else (spec_GoodChanges.j1 k xs xs (xs.length : Int) (i : Int) true ((rd_T159 xs i).f0) ((rd_T159 xs i).f1) ((rd_T159 xs i).f2) ((rd_T159 xs i).f3) ((rd_T159 xs i).f4)))) else (spec_GoodChanges.j1 k xs xs (xs.length : Int) (i : Int) true ((rd_T159 xs i).f0) ((rd_T159 xs i).f1) ((rd_T159 xs i).f2) ((rd_T159 xs i).f3) ((rd_T159 xs i).f4)))) r := by
      intro hp
      refine ev_bindc (in_some _ _ _) (ev_ite (fun h1 => ?_) fun h1 => by rw [hn (fun h => h1 (decide_eq_true h.1.1.2.1))]; exact gc_j1t)
      obtain ⟨b, hb⟩ := bool_of (NameOk (rd_T159 xs i).f2)
      refine Ev.bind (name_spec _ b hb) (ev_ite (fun h2 => ?_) fun h2 => by rw [hn (fun h => h2 (hb.2 h.1.1.2.2.1))]; exact gc_j1t)
      refine ev_bindc (in_some _ _ _) ?_
      by_cases h3 : -1000000 ≤ (rd_T159 xs i).f4 ∧ (rd_T159 xs i).f4 ≤ 1000000
      · rw [decide_eq_true h3]
        exact gc_j1 r (fun h => hy ⟨⟨⟨of_decide_eq_true h0, of_decide_eq_true h1, hb.1 h2, h3⟩, h.1, h.2⟩, hp⟩) (fun h => hn (fun h' => h ⟨h'.1.2.1, h'.1.2.2⟩))
      · rw [decide_eq_false h3, hn (fun h => h3 h.1.1.2.2.2)]
        exact gc_j1t
    rw [e]
    refine ev_ite (fun hp => ev_pos (by omega) (ev_pos (by omega) (ev_ite (fun h => ?_) fun h => rest (fun _ => by omega)))) fun hp => rest (fun h => by omega)
    rw [hn (fun h' => by have := h'.2 (by omega); omega)]
    exact gc_j1t
  · rw [hn (fun h => h0 (decide_eq_true h.1.1.1))]
    exact gc_j1t
theorem changes_spec (xs : List S159) (b : Bool) (hb : b = true ↔ ChangesOk xs) : Ev (fun k => spec_GoodChanges.f k xs) b := by
  refine ev_ite (fun h => ev_some (bool_false hb (fun h' => by have := h'.1; omega)).symm) fun h => ?_
  refine ev_all xs.length (fun k i => spec_GoodChanges.l0 k xs xs (xs.length : Int) (i : Int)) (ItemOk xs) true b ?_ ?_ ?_ ?_
  · rw [hb]; unfold ChangesOk; constructor
    · exact fun h => ⟨rfl, h.2⟩
    · exact fun h' => ⟨by omega, h'.2⟩
  · exact st_spec_GoodChanges_l0 (ev_neg (by omega) (ev_some rfl))
  · intro i hi _ ho r hr
    exact gc_item xs (by omega) i hi r (fun _ => by rw [w64s i (by omega)]; exact hr) (fun h => absurd ho h)
  · intro i hi _ ho
    exact gc_item xs (by omega) i hi false (fun h => absurd h ho) (fun _ => rfl)
theorem changes_same (xs : List S159) (hx : xs.length ≤ 1048576 ∧ ∀ y ∈ xs, Fit159 y) : ∃ b, Ev (fun k => spec_GoodChanges.f k xs) b ∧ Ev (fun k => impl_GoodChanges.f k xs) b ∧ (b = true ↔ ChangesOk xs) := by
  obtain ⟨b, hb⟩ := bool_of (ChangesOk xs)
  exact ⟨b, changes_spec xs b hb, changes_impl xs hx b hb, hb⟩
theorem FnExactGoodChanges : ∀ (l0 : List (S158)), (l0.length * 56 ≤ 140737488351232 ∧ ∀ y ∈ l0, Ok158 y) → ∃ k, laws_FnExactGoodChanges.f k l0 = some true := by
  intro xs gl
  refine Ev.rounds (g := fun k => laws_FnExactGoodChanges.f k xs) ?_
  obtain ⟨r, hr, h | ⟨h0, h1, hx⟩⟩ := szChangeS_some xs gl 1048576 (by omega) (by omega)
  · exact Ev.bind hr (ev_pos h (ev_some rfl))
  · have tx := toChangeS_ev xs hx
    have hx' : (xs.map cv158).length ≤ 1048576 ∧ ∀ y ∈ xs.map cv158, Fit159 y := ⟨by rw [List.length_map]; exact hx.1, fun y hy => by obtain ⟨z, hz, rfl⟩ := List.mem_map.1 hy; exact fit_cv158 (hx.2 z hz)⟩
    obtain ⟨t, hs, hi, _⟩ := changes_same (xs.map cv158) hx'
    exact Ev.bind hr (ev_neg (by omega) (Ev.bind tx (Ev.bind hs (Ev.bind tx (Ev.bind hi (ev_neg (by simp) (Ev.bind tx (Ev.bind (eqChangeS_ev _ hx') (ev_pos rfl (ev_some rfl))))))))))
end Go.Proofs.Ytfghbecipdjcdaa.Pure
