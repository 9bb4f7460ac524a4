/- The law FnExactWideAt over plain numbers and a text: it answers true. No condition beyond the numbers' own kinds and what fits in memory. -/
import Derived.Test.YtijfjlpoihhkbaaPFnExactWideAtx2
import Derived.Test.YtijfjlpoihhkbaaPlain
namespace Go.Proofs.Ytijfjlpoihhkbaa.Pure
open Go.RowKit Go.Proofs.Ytijfjlpoihhkbaa.PFnExactWideAt Go.Proofs.YtijfjlpoihhkbaaW.PrintWords Go.Proofs.YtijfjlpoihhkbaaW.PrintLast Go.Proofs.YtijfjlpoihhkbaaW.PrintMore Go.Proofs.YtijfjlpoihhkbaaO

theorem st_spec_GoodName_j0 {r : (Bool)} {x0 : ByteArray} {x16 : Bool} (h : Ev (fun k => if x16 = true then (some false) else (spec_GoodName.l0 k x0 0)) r) : Ev (fun k => spec_GoodName.j0 k x0 x16) r := Ev.step (fun k => by rw [spec_GoodName.j0]) h
theorem st_spec_GoodName_l0 {r : (Bool)} {x0 : ByteArray} {x3 : Int} (h : Ev (fun k => if x3 < (x0.size : Int) then (if 0 ≤ x3 then ((spec_l1Letter.f (bt x0 x3)).bind fun t103 => (if t103 = true then (spec_GoodName.l0 k x0 (wrap64 (x3 + 1))) else ((spec_l1Digit.f (bt x0 x3)).bind fun t104 => (if t104 = true then (spec_GoodName.l0 k x0 (wrap64 (x3 + 1))) else (some false))))) else (none)) else (some true)) r) : Ev (fun k => spec_GoodName.l0 k x0 x3) r := Ev.step (fun k => by rw [spec_GoodName.l0]) h
theorem st_impl_GoodName_l0 {r : (Bool)} {x0 : ByteArray} {x5 : Int} {x6 : Int} (h : Ev (fun k => if x6 < x5 then (if 0 ≤ x6 then (if x6 < (x0.size : Int) then ((impl_isLetter.f (bt x0 x6)).bind fun t118 => (if t118 = true then (impl_GoodName.l0 k x0 x5 (wrap64 (x6 + 1))) else (if (bt x0 x6) = 95 then (impl_GoodName.l0 k x0 x5 (wrap64 (x6 + 1))) else (if x6 = 0 then (some false) else ((impl_isDigit.f (bt x0 x6)).bind fun t119 => (if t119 = true then (impl_GoodName.l0 k x0 x5 (wrap64 (x6 + 1))) else (some false))))))) else (none)) else (none)) else ((impl_inRange.f (x0.size : Int) 1 20).bind fun t117 => (some t117))) r) : Ev (fun k => impl_GoodName.l0 k x0 x5 x6) r := Ev.step (fun k => by rw [impl_GoodName.l0]) h
theorem in_same (a b c : Int) : impl_inRange.f a b c = spec_l1In.f a b c := rfl
theorem in_some (a b c : Int) : spec_l1In.f a b c = some (decide (b ≤ a ∧ a ≤ c)) := by
  unfold spec_l1In.f
  split <;> simp_all <;> omega
/-! ### names -/
def nameChar (c : Int) : Bool := decide (97 ≤ c ∧ c ≤ 122) || decide (65 ≤ c ∧ c ≤ 90) || decide (c = 95)
def digitChar (c : Int) : Bool := decide (48 ≤ c ∧ c ≤ 57)
def CharOk (s : ByteArray) (i : Nat) : Prop := nameChar (bt s (i : Int)) = true ∨ 0 < i ∧ digitChar (bt s (i : Int)) = true
def NameOk (s : ByteArray) : Prop := (1 ≤ s.size ∧ s.size ≤ 20) ∧ ∀ i, i < s.size → CharOk s i
theorem letter_spec (c : Int) : spec_l1Letter.f c = some (nameChar c) := by
  unfold spec_l1Letter.f nameChar
  repeat' split
  all_goals (congr 1; rw [Bool.eq_iff_iff]; simp; try omega)
theorem digit_spec (c : Int) : spec_l1Digit.f c = some (digitChar c) := by
  unfold spec_l1Digit.f digitChar
  repeat' split
  all_goals (congr 1; rw [Bool.eq_iff_iff]; simp; try omega)
theorem digit_impl (c : Int) : impl_isDigit.f c = some (digitChar c) := by
  unfold impl_isDigit.f digitChar
  repeat' split
  all_goals (congr 1; rw [Bool.eq_iff_iff]; simp; try omega)
theorem letter_impl (c : Int) : ∃ b, impl_isLetter.f c = some b ∧ (nameChar c = true ↔ b = true ∨ c = 95) := by
  unfold impl_isLetter.f nameChar
  repeat' split
  all_goals (refine ⟨_, rfl, ?_⟩; simp; try omega)
theorem name_impl (s : ByteArray) (hs : s.size ≤ 140737488351232) (b : Bool) (hb : b = true ↔ NameOk s) : Ev (fun k => impl_GoodName.f k s) b := by
  refine ev_all s.size (fun k i => impl_GoodName.l0 k s (s.size : Int) (i : Int)) (CharOk s) (decide (1 ≤ (s.size : Int) ∧ (s.size : Int) ≤ 20)) b ?_ ?_ ?_ ?_
  · rw [hb]; unfold NameOk; simp; omega
  · exact st_impl_GoodName_l0 (ev_neg (by omega) (ev_bindc (in_some _ _ _) (ev_some rfl)))
  · intro i hi _ ho r hr
    refine st_impl_GoodName_l0 (ev_pos (by omega) (ev_pos (by omega) (ev_pos (by omega) ?_)))
    obtain ⟨q, hq, hn⟩ := letter_impl (bt s (i : Int))
    rw [w64s i (by omega)]
    refine ev_bindc hq (ev_ite (fun _ => hr) fun h1 => ev_ite (fun _ => hr) fun h2 => ?_)
    rcases ho with ho | ⟨ho, hd⟩
    · rcases hn.1 ho with h | h
      · exact absurd h h1
      · exact absurd h h2
    · exact ev_neg (by omega) (ev_bindc (digit_impl _) (ev_pos hd hr))
  · intro i hi _ ho
    refine st_impl_GoodName_l0 (ev_pos (by omega) (ev_pos (by omega) (ev_pos (by omega) ?_)))
    obtain ⟨q, hq, hn⟩ := letter_impl (bt s (i : Int))
    refine ev_bindc hq (ev_ite (fun h => absurd (.inl (hn.2 (.inl h))) ho) fun h1 => ev_ite (fun h => absurd (.inl (hn.2 (.inr h))) ho) fun h2 => ev_ite (fun _ => ev_some rfl) fun h3 => ?_)
    exact ev_bindc (digit_impl _) (ev_neg (fun h => ho (.inr ⟨by omega, h⟩)) (ev_some rfl))
theorem name_spec (s : ByteArray) (b : Bool) (hb : b = true ↔ NameOk s) : Ev (fun k => spec_GoodName.f k s) b := by
  have j0t : Ev (fun k => spec_GoodName.j0 k s true) false := st_spec_GoodName_j0 (ev_pos rfl (ev_some rfl))
  by_cases h1 : (s.size : Int) < 1
  · rw [bool_false hb (fun h => by have := h.1; omega)]
    exact ev_pos h1 j0t
  · by_cases h2 : (s.size : Int) > 20
    · rw [bool_false hb (fun h => by have := h.1; omega)]
      exact ev_neg h1 (ev_pos h2 j0t)
    · refine ev_neg h1 (ev_neg h2 (ev_pos (by omega) (ev_bindc (digit_spec _) ?_)))
      cases hd : digitChar (bt s 0) with
      | true =>
        rw [bool_false hb (fun h => by
          have h0 : CharOk s 0 := h.2 0 (by omega)
          rcases h0 with h0 | h0
          · have h0 : nameChar (bt s 0) = true := h0
            generalize bt s 0 = c at hd h0
            simp [nameChar, digitChar] at hd h0; omega
          · omega)]
        exact j0t
      | false =>
        refine st_spec_GoodName_j0 (ev_neg (by decide) ?_)
        refine ev_all s.size (fun k i => spec_GoodName.l0 k s (i : Int)) (CharOk s) true b ?_ ?_ ?_ ?_
        · rw [hb]; unfold NameOk; constructor
          · exact fun h => ⟨rfl, h.2⟩
          · exact fun h => ⟨by omega, h.2⟩
        · exact st_spec_GoodName_l0 (ev_neg (by omega) (ev_some rfl))
        · intro i hi _ ho r hr
          refine st_spec_GoodName_l0 (ev_pos (by omega) (ev_pos (by omega) (ev_bindc (letter_spec _) (ev_ite (fun _ => by rw [w64s i (by omega)]; exact hr) fun hl => ev_bindc (digit_spec _) ?_))))
          rcases ho with ho | ⟨_, ho⟩
          · exact absurd ho hl
          · refine ev_pos ho ?_
            rw [w64s i (by omega)]; exact hr
        · intro i hi _ ho
          refine st_spec_GoodName_l0 (ev_pos (by omega) (ev_pos (by omega) (ev_bindc (letter_spec _) (ev_neg (fun h => ho (.inl h)) (ev_bindc (digit_spec _) (ev_neg (fun h => ho ?_) (ev_some rfl)))))))
          rcases Nat.eq_zero_or_pos i with rfl | hp
          · have h' : digitChar (bt s 0) = true := h
            rw [hd] at h'; cases h'
          · exact .inr ⟨hp, h⟩
theorem name_same (s : ByteArray) (hs : s.size ≤ 140737488351232) : ∃ b, Ev (fun k => spec_GoodName.f k s) b ∧ Ev (fun k => impl_GoodName.f k s) b ∧ (b = true ↔ NameOk s) := by
  obtain ⟨b, hb⟩ := bool_of (NameOk s)
  exact ⟨b, name_spec s b hb, name_impl s hs b hb, hb⟩
theorem player_same (s : ByteArray) (a b : Int) (hs : s.size ≤ 140737488351232) : ∃ r, Ev (fun k => spec_l25Player.f k s a b) r ∧ Ev (fun k => impl_isPlayer.f k s a b) r ∧ (r = true → 0 ≤ b ∧ b ≤ 100000) := by
  obtain ⟨r, h1, h2, _⟩ := name_same s hs
  cases r with
  | false => exact ⟨false, Ev.bind h1 (ev_neg (by decide) (ev_some rfl)), Ev.bind h2 (ev_neg (by decide) (ev_some rfl)), fun h => by cases h⟩
  | true =>
    by_cases ha : decide (0 ≤ a ∧ a ≤ 4000) = true
    · refine ⟨decide (0 ≤ b ∧ b ≤ 100000), Ev.bind h1 (ev_pos rfl (ev_bindc (in_some _ _ _) (ev_pos ha (ev_bindc (in_some _ _ _) (ev_some rfl))))), Ev.bind h2 (ev_pos rfl (ev_bindc (in_some _ _ _) (ev_pos ha (ev_bindc (?_ : impl_isTime.f b = _) (ev_some rfl))))), fun h => by simpa using h⟩
      unfold impl_isTime.f
      rw [in_same, in_some]; rfl
    · exact ⟨false, Ev.bind h1 (ev_pos rfl (ev_bindc (in_some _ _ _) (ev_neg ha (ev_some rfl)))), Ev.bind h2 (ev_pos rfl (ev_bindc (in_some _ _ _) (ev_neg ha (ev_some rfl)))), fun h => by cases h⟩
theorem wide_same (s : ByteArray) (a b n : Int) : spec_l25Wide.f s a b n = impl_Player_wide.f s a b n := by
  unfold spec_l25Wide.f impl_Player_wide.f mn
  generalize wrap64 (50 + wrap64 (Int.tdiv (wrap64 (n - b)) 10)) = x
  (repeat' split) <;> first | rfl | omega | (congr 1; omega)
theorem same (s : ByteArray) (a b n : Int) (hs : s.size ≤ 140737488351232) : ∃ w, Ev (fun k => spec_WideAt.f k s a b n) w ∧ Ev (fun k => impl_WideAt.f k s a b n) w := by
  obtain ⟨r, h1, h2, _⟩ := player_same s a b hs
  cases r with
  | false => exact ⟨(0, false), Ev.bind h1 (ev_neg (by decide) (ev_some rfl)), Ev.bind h2 (ev_neg (by decide) (ev_some rfl))⟩
  | true =>
    by_cases hn : decide (b ≤ n ∧ n ≤ 100000) = true
    · exact ⟨_, Ev.bind h1 (ev_pos rfl (ev_bindc (in_some _ _ _) (ev_pos hn (ev_bindc (wide_same s a b n) (ev_some rfl))))), Ev.bind h2 (ev_pos rfl (ev_bindc (in_some _ _ _) (ev_pos hn (ev_bindc rfl (ev_some rfl)))))⟩
    · exact ⟨(0, false), Ev.bind h1 (ev_pos rfl (ev_bindc (in_some _ _ _) (ev_neg hn (ev_some rfl)))), Ev.bind h2 (ev_pos rfl (ev_bindc (in_some _ _ _) (ev_neg hn (ev_some rfl))))⟩
theorem FnExactWideAt : ∀ (a0_0 : ByteArray) (a0_1 : Int) (a0_2 : Int) (a1 : Int), (a0_0.size ≤ 140737488351232) → (In64 a0_1) → (In64 a0_2) → (In64 a1) → ∃ k, laws_FnExactWideAt.f k a0_0 a0_1 a0_2 a1 = some true := by
  intro s a b n hs _ _ _
  obtain ⟨w, h1, h2⟩ := same s a b n hs
  refine Ev.rounds (g := fun k => laws_FnExactWideAt.f k s a b n) ?_
  obtain ⟨z, hz⟩ : ∃ z, laws_szPlayer.f s a b 1048576 = some z := by unfold laws_szPlayer.f; split <;> exact ⟨_, rfl⟩
  refine ev_bindc hz (ev_ite (fun _ => ev_some rfl) fun _ => ev_bindc rfl (Ev.bind h1 (ev_bindc rfl (Ev.bind h2 (ev_pos rfl (ev_neg (by simp) (ev_some rfl)))))))
end Go.Proofs.Ytijfjlpoihhkbaa.Pure
