/- The law FnExactGoodValues over a plain list: it answers true. No condition beyond the numbers' own kinds and what fits in memory. -/
import Derived.Test.YtfghbecipdjcdaaPFnExactGoodValuesx3
import Derived.Test.YtfghbecipdjcdaaOpenFnExactGoodValues
import Derived.Test.YtfghbecipdjcdaaPlain
namespace Go.Proofs.Ytfghbecipdjcdaa.Pure
open Go.RowKit Go.Proofs.Ytfghbecipdjcdaa.PFnExactGoodValues Go.Proofs.Ytfghbecipdjcdaa.OFnExactGoodValues Go.Proofs.YtfghbecipdjcdaaW.PrintWords Go.Proofs.YtfghbecipdjcdaaW.PrintLast Go.Proofs.YtfghbecipdjcdaaW.PrintMore Go.Proofs.YtfghbecipdjcdaaO
set_option linter.unusedVariables false
set_option linter.unusedSimpArgs false

theorem st_laws_szValueS_l0 {r : (Int)} {x0 : List (S151)} {x1 : Int} {x5 : Int} (h : Ev (fun k => if x5 < (x0.length : Int) then (if 0 ≤ x5 then ((laws_szValue.f ((rd_T151 x0 x5).f0) ((rd_T151 x0 x5).f1) ((rd_T151 x0 x5).f2) x1).bind fun t103 => (if t103 < 0 then (some (-1)) else (laws_szValueS.l0 k x0 t103 (wrap64 (x5 + 1))))) else (none)) else (some x1)) r) : Ev (fun k => laws_szValueS.l0 k x0 x1 x5) r := Ev.step (fun k => by rw [laws_szValueS.l0]) h
theorem st_spec_GoodName_j0 {r : (Bool)} {x0 : ByteArray} {x16 : Bool} (h : Ev (fun k => if x16 = true then (some false) else (spec_GoodName.l0 k x0 0)) r) : Ev (fun k => spec_GoodName.j0 k x0 x16) r := Ev.step (fun k => by rw [spec_GoodName.j0]) h
theorem st_spec_GoodName_l0 {r : (Bool)} {x0 : ByteArray} {x3 : Int} (h : Ev (fun k => if x3 < (x0.size : Int) then (if 0 ≤ x3 then ((spec_l1Letter.f (bt x0 x3)).bind fun t105 => (if t105 = true then (spec_GoodName.l0 k x0 (wrap64 (x3 + 1))) else ((spec_l1Digit.f (bt x0 x3)).bind fun t106 => (if t106 = true then (spec_GoodName.l0 k x0 (wrap64 (x3 + 1))) else (some false))))) else (none)) else (some true)) r) : Ev (fun k => spec_GoodName.l0 k x0 x3) r := Ev.step (fun k => by rw [spec_GoodName.l0]) h
theorem st_spec_GoodValues_l0 {r : (Bool)} {x0 : List (S152)} {x8 : List (S152)} {x9 : Int} {x10 : Int} (h : Ev (fun k => if x10 < x9 then (if 0 ≤ x10 then (if x10 < (x8.length : Int) then ((spec_GoodName.f k ((rd_T152 x8 x10).f0)).bind fun t109 => (if t109 = true then (if (((rd_T152 x8 x10).f2).size : Int) > 100 then (some false) else (if x10 > 0 then (if 0 ≤ (wrap64 (x10 - 1)) then (if (wrap64 (x10 - 1)) < (x0.length : Int) then (if ((Op.bytesLess (((rd_T152 x0 (wrap64 (x10 - 1))).f0).toList) (((rd_T152 x8 x10).f0).toList)) = true) then (spec_GoodValues.l0 k x0 x8 x9 (wrap64 (x10 + 1))) else (some false)) else (none)) else (none)) else (spec_GoodValues.l0 k x0 x8 x9 (wrap64 (x10 + 1))))) else (some false))) else (none)) else (none)) else (some true)) r) : Ev (fun k => spec_GoodValues.l0 k x0 x8 x9 x10) r := Ev.step (fun k => by rw [spec_GoodValues.l0]) h
theorem st_laws_toValueS_l0 {r : ((List (S152)))} {x0 : List (S151)} {x3 : List (S152)} {x4 : Int} (h : Ev (fun k => if x4 < (x0.length : Int) then (if 0 ≤ x4 then ((laws_toValue.f ((rd_T151 x0 x4).f0) ((rd_T151 x0 x4).f1) ((rd_T151 x0 x4).f2)).bind fun bt118 => (if x4 < (x3.length : Int) then (laws_toValueS.l0 k x0 (x3.set (x4 : Int).toNat (⟨bt118.1, bt118.2.1, bt118.2.2⟩ : S152)) (wrap64 (x4 + 1))) else (none))) else (none)) else (some x3)) r) : Ev (fun k => laws_toValueS.l0 k x0 x3 x4) r := Ev.step (fun k => by rw [laws_toValueS.l0]) h
theorem st_impl_GoodName_l0 {r : (Bool)} {x0 : ByteArray} {x5 : Int} {x6 : Int} (h : Ev (fun k => if x6 < x5 then (if 0 ≤ x6 then (if x6 < (x0.size : Int) then ((impl_isLetter.f (bt x0 x6)).bind fun t123 => (if t123 = true then (impl_GoodName.l0 k x0 x5 (wrap64 (x6 + 1))) else (if (bt x0 x6) = 95 then (impl_GoodName.l0 k x0 x5 (wrap64 (x6 + 1))) else (if x6 = 0 then (some false) else ((impl_isDigit.f (bt x0 x6)).bind fun t124 => (if t124 = true then (impl_GoodName.l0 k x0 x5 (wrap64 (x6 + 1))) else (some false))))))) else (none)) else (none)) else ((impl_inRange.f (x0.size : Int) 1 20).bind fun t122 => (some t122))) r) : Ev (fun k => impl_GoodName.l0 k x0 x5 x6) r := Ev.step (fun k => by rw [impl_GoodName.l0]) h
theorem st_impl_GoodValues_l0 {r : (Bool)} {x0 : List (S152)} {x5 : List (S152)} {x6 : Int} {x7 : Int} (h : Ev (fun k => if x7 < x6 then (if 0 ≤ x7 then (if x7 < (x5.length : Int) then ((impl_GoodName.f k ((rd_T152 x5 x7).f0)).bind fun t127 => (if t127 = true then (if x7 > 0 then (if 0 ≤ (wrap64 (x7 - 1)) then (if (wrap64 (x7 - 1)) < (x0.length : Int) then (if ((Op.bytesLess (((rd_T152 x0 (wrap64 (x7 - 1))).f0).toList) (((rd_T152 x5 x7).f0).toList)) = true) then (if (((rd_T152 x5 x7).f2).size : Int) > 100 then (some false) else (impl_GoodValues.l0 k x0 x5 x6 (wrap64 (x7 + 1)))) else (some false)) else (none)) else (none)) else (if (((rd_T152 x5 x7).f2).size : Int) > 100 then (some false) else (impl_GoodValues.l0 k x0 x5 x6 (wrap64 (x7 + 1))))) else (some false))) else (none)) else (none)) else (some (decide ((x0.length : Int) ≤ 30)))) r) : Ev (fun k => impl_GoodValues.l0 k x0 x5 x6 x7) r := Ev.step (fun k => by rw [impl_GoodValues.l0]) h
theorem st_laws_eqValueS_l0 {r : (Bool)} {x0 : List (S152)} {x1 : List (S152)} {x5 : Int} (h : Ev (fun k => if x5 < (x0.length : Int) then (if 0 ≤ x5 then (if x5 < (x1.length : Int) then ((laws_eqValue.f ((rd_T152 x0 x5).f0) ((rd_T152 x0 x5).f1) ((rd_T152 x0 x5).f2) ((rd_T152 x1 x5).f0) ((rd_T152 x1 x5).f1) ((rd_T152 x1 x5).f2)).bind fun t133 => (if t133 = true then (laws_eqValueS.l0 k x0 x1 (wrap64 (x5 + 1))) else (some false))) else (none)) else (none)) else (some true)) r) : Ev (fun k => laws_eqValueS.l0 k x0 x1 x5) r := Ev.step (fun k => by rw [laws_eqValueS.l0]) h
theorem inr_some (a b c : Int) : impl_inRange.f a b c = some (decide (b ≤ a ∧ a ≤ c)) := by
  unfold impl_inRange.f
  split <;> simp_all <;> omega
/-! ### names -/
def nameChar (c : Int) : Bool := decide (97 ≤ c ∧ c ≤ 122) || decide (65 ≤ c ∧ c ≤ 90) || decide (c = 95)
def digitChar (c : Int) : Bool := decide (48 ≤ c ∧ c ≤ 57)
def CharOk (s : ByteArray) (i : Nat) : Prop := nameChar (bt s (i : Int)) = true ∨ 0 < i ∧ digitChar (bt s (i : Int)) = true
def NameOk (s : ByteArray) : Prop := (1 ≤ s.size ∧ s.size ≤ 20) ∧ ∀ i, i < s.size → CharOk s i
theorem letter_spec (c : Int) : spec_l1Letter.f c = some (nameChar c) := by
  unfold spec_l1Letter.f nameChar
  repeat' split
  all_goals (congr 1; rw [Bool.eq_iff_iff]; simp; try omega)
theorem digit_spec (c : Int) : spec_l1Digit.f c = some (digitChar c) := by
  unfold spec_l1Digit.f digitChar
  repeat' split
  all_goals (congr 1; rw [Bool.eq_iff_iff]; simp; try omega)
theorem digit_impl (c : Int) : impl_isDigit.f c = some (digitChar c) := by
  unfold impl_isDigit.f digitChar
  repeat' split
  all_goals (congr 1; rw [Bool.eq_iff_iff]; simp; try omega)
theorem letter_impl (c : Int) : ∃ b, impl_isLetter.f c = some b ∧ (nameChar c = true ↔ b = true ∨ c = 95) := by
  unfold impl_isLetter.f nameChar
  repeat' split
  all_goals (refine ⟨_, rfl, ?_⟩; simp; try omega)
theorem name_impl (s : ByteArray) (hs : s.size ≤ 140737488351232) (b : Bool) (hb : b = true ↔ NameOk s) : Ev (fun k => impl_GoodName.f k s) b := by
  refine ev_all s.size (fun k i => impl_GoodName.l0 k s (s.size : Int) (i : Int)) (CharOk s) (decide (1 ≤ (s.size : Int) ∧ (s.size : Int) ≤ 20)) b ?_ ?_ ?_ ?_
  · rw [hb]; unfold NameOk; simp; omega
  · exact st_impl_GoodName_l0 (ev_neg (by omega) (ev_bindc (inr_some _ _ _) (ev_some rfl)))
  · intro i hi _ ho r hr
    refine st_impl_GoodName_l0 (ev_pos (by omega) (ev_pos (by omega) (ev_pos (by omega) ?_)))
    obtain ⟨q, hq, hn⟩ := letter_impl (bt s (i : Int))
    rw [w64s i (by omega)]
    refine ev_bindc hq (ev_ite (fun _ => hr) fun h1 => ev_ite (fun _ => hr) fun h2 => ?_)
    rcases ho with ho | ⟨ho, hd⟩
    · rcases hn.1 ho with h | h
      · exact absurd h h1
      · exact absurd h h2
    · exact ev_neg (by omega) (ev_bindc (digit_impl _) (ev_pos hd hr))
  · intro i hi _ ho
    refine st_impl_GoodName_l0 (ev_pos (by omega) (ev_pos (by omega) (ev_pos (by omega) ?_)))
    obtain ⟨q, hq, hn⟩ := letter_impl (bt s (i : Int))
    refine ev_bindc hq (ev_ite (fun h => absurd (.inl (hn.2 (.inl h))) ho) fun h1 => ev_ite (fun h => absurd (.inl (hn.2 (.inr h))) ho) fun h2 => ev_ite (fun _ => ev_some rfl) fun h3 => ?_)
    exact ev_bindc (digit_impl _) (ev_neg (fun h => ho (.inr ⟨by omega, h⟩)) (ev_some rfl))
theorem name_spec (s : ByteArray) (b : Bool) (hb : b = true ↔ NameOk s) : Ev (fun k => spec_GoodName.f k s) b := by
  have j0t : Ev (fun k => spec_GoodName.j0 k s true) false := st_spec_GoodName_j0 (ev_pos rfl (ev_some rfl))
  by_cases h1 : (s.size : Int) < 1
  · rw [bool_false hb (fun h => by have := h.1; omega)]
    exact ev_pos h1 j0t
  · by_cases h2 : (s.size : Int) > 20
    · rw [bool_false hb (fun h => by have := h.1; omega)]
      exact ev_neg h1 (ev_pos h2 j0t)
    · refine ev_neg h1 (ev_neg h2 (ev_pos (by omega) (ev_bindc (digit_spec _) ?_)))
      cases hd : digitChar (bt s 0) with
      | true =>
        rw [bool_false hb (fun h => by
          have h0 : CharOk s 0 := h.2 0 (by omega)
          rcases h0 with h0 | h0
          · have h0 : nameChar (bt s 0) = true := h0
            generalize bt s 0 = c at hd h0
            simp [nameChar, digitChar] at hd h0; omega
          · omega)]
        exact j0t
      | false =>
        refine st_spec_GoodName_j0 (ev_neg (by decide) ?_)
        refine ev_all s.size (fun k i => spec_GoodName.l0 k s (i : Int)) (CharOk s) true b ?_ ?_ ?_ ?_
        · rw [hb]; unfold NameOk; constructor
          · exact fun h => ⟨rfl, h.2⟩
          · exact fun h => ⟨by omega, h.2⟩
        · exact st_spec_GoodName_l0 (ev_neg (by omega) (ev_some rfl))
        · intro i hi _ ho r hr
          refine st_spec_GoodName_l0 (ev_pos (by omega) (ev_pos (by omega) (ev_bindc (letter_spec _) (ev_ite (fun _ => by rw [w64s i (by omega)]; exact hr) fun hl => ev_bindc (digit_spec _) ?_))))
          rcases ho with ho | ⟨_, ho⟩
          · exact absurd ho hl
          · refine ev_pos ho ?_
            rw [w64s i (by omega)]; exact hr
        · intro i hi _ ho
          refine st_spec_GoodName_l0 (ev_pos (by omega) (ev_pos (by omega) (ev_bindc (letter_spec _) (ev_neg (fun h => ho (.inl h)) (ev_bindc (digit_spec _) (ev_neg (fun h => ho ?_) (ev_some rfl)))))))
          rcases Nat.eq_zero_or_pos i with rfl | hp
          · have h' : digitChar (bt s 0) = true := h
            rw [hd] at h'; cases h'
          · exact .inr ⟨hp, h⟩
theorem name_same (s : ByteArray) (hs : s.size ≤ 140737488351232) : ∃ b, Ev (fun k => spec_GoodName.f k s) b ∧ Ev (fun k => impl_GoodName.f k s) b ∧ (b = true ↔ NameOk s) := by
  obtain ⟨b, hb⟩ := bool_of (NameOk s)
  exact ⟨b, name_spec s b hb, name_impl s hs b hb, hb⟩
/-! ### the laws' own helpers (by helpgen.py) -/
def Fit151 (x : S151) : Prop := (x.f0.size ≤ 1048576) ∧ (x.f2.size ≤ 1048576)
theorem szValue_some (a0 : ByteArray) (a1 : Int) (a2 : ByteArray) (ga0 : a0.size ≤ 140737488351232) (ga1 : In64 a1) (ga2 : a2.size ≤ 140737488351232) (left : Int) (h0 : 0 ≤ left) (h1 : left ≤ 1048576) : ∃ r, Ev (fun _ => laws_szValue.f a0 a1 a2 left) r ∧ (r < 0 ∨ 0 ≤ r ∧ r ≤ left ∧ (a0.size ≤ 1048576) ∧ (a2.size ≤ 1048576)) := by
  unfold laws_szValue.f
  have e0 : wrap64 (left - (a0.size : Int)) = left - (a0.size : Int) := w64 (by omega) (by omega)
  rw [e0]
  refine exev_ite (fun _ => exev_some (.inl (by omega))) fun c0 => ?_
  have e1 : wrap64 ((left - (a0.size : Int)) - (a2.size : Int)) = (left - (a0.size : Int)) - (a2.size : Int) := w64 (by omega) (by omega)
  rw [e1]
  refine exev_ite (fun _ => exev_some (.inl (by omega))) fun c1 => ?_
  exact exev_some (.inr ⟨by omega, by omega, (by omega), (by omega)⟩)
theorem szValueS_some (xs : List S151) (g : xs.length * 40 ≤ 140737488351232 ∧ ∀ y ∈ xs, Ok151 y) (left : Int) (h0 : 0 ≤ left) (h1 : left ≤ 1048576) : ∃ r, Ev (fun k => laws_szValueS.f k xs left) r ∧ (r < 0 ∨ 0 ≤ r ∧ r ≤ left ∧ (xs.length ≤ 1048576 ∧ ∀ y ∈ xs, Fit151 y)) := by
  have g1 := g.1
  unfold laws_szValueS.f
  rw [w64 (n := left - (xs.length : Int)) (by omega) (by omega)]
  refine exev_ite (fun _ => exev_some (.inl (by omega))) fun hc => ?_
  have he : ∀ i : Nat, ∀ hi : i < xs.length, ∀ c : Int, 0 ≤ c → c ≤ left - (xs.length : Int) → ∃ r, Ev (fun k => laws_szValue.f ((rd_T151 xs (i : Int)).f0) ((rd_T151 xs (i : Int)).f1) ((rd_T151 xs (i : Int)).f2) c) r ∧ (r < 0 ∨ 0 ≤ r ∧ r ≤ c ∧ Fit151 xs[i]) := by
    intro i hi c h0 h1
    have e : rd_T151 xs (i : Int) = xs[i] := getD_get hi
    rw [e]
    have gx := g.2 _ (List.getElem_mem hi)
    obtain ⟨r, hr, hq⟩ := szValue_some _ _ _ (gx.1) (gx.2.1) (gx.2.2) c h0 (by omega)
    exact ⟨r, hr, hq⟩
  obtain ⟨r, hr, hq⟩ := ev_size laws_szValueS.l0 (fun _ xs c i => laws_szValue.f ((rd_T151 xs i).f0) ((rd_T151 xs i).f1) ((rd_T151 xs i).f2) c) (fun y => Fit151 y) (fun _ _ _ _ => rfl) xs (by omega) (left - (xs.length : Int)) (by omega) he
  refine ⟨r, hr, ?_⟩
  rcases hq with hq | ⟨q0, q1, q2⟩
  · exact .inl hq
  · exact .inr ⟨q0, by omega, by omega, q2⟩
def cv151 (x : S151) : S152 := ⟨x.f0, x.f1, x.f2⟩
def Fit152 (x : S152) : Prop := (x.f0.size ≤ 1048576) ∧ (x.f2.size ≤ 1048576)
theorem fit_cv151 {x : S151} (h : Fit151 x) : Fit152 (cv151 x) := by
  obtain ⟨h0, h1⟩ := h
  exact ⟨h0, h1⟩
theorem toValueS_ev (xs : List S151) (h : (xs.length ≤ 1048576 ∧ ∀ y ∈ xs, Fit151 y)) : Ev (fun k => laws_toValueS.f k xs) (xs.map cv151) := by
  refine ev_pos (by omega) (ev_pos (by have := h.1; omega) ?_)
  refine ev_copy2 laws_toValueS.l0 (fun k xs i => laws_toValue.f ((rd_T151 xs i).f0) ((rd_T151 xs i).f1) ((rd_T151 xs i).f2)) (fun t => (⟨t.1, t.2.1, t.2.2⟩ : S152)) cv151 (fun _ _ _ _ => rfl) xs (by have := h.1; omega) (fun i hi => ?_) _ (by simp)
  · have e : rd_T151 xs (i : Int) = xs[i] := getD_get hi
    rw [e]
    exact ⟨_, ev_eq rfl, rfl⟩
theorem eqValue_self (a0 : ByteArray) (a1 : Int) (a2 : ByteArray) : laws_eqValue.f a0 a1 a2 a0 a1 a2 = some true := by
  simp [laws_eqValue.f]
theorem eqValueS_ev (xs : List S152) (h : (xs.length ≤ 1048576 ∧ ∀ y ∈ xs, Fit152 y)) : Ev (fun k => laws_eqValueS.f k xs xs) true := by
  refine ev_pos rfl (ev_alike_self laws_eqValueS.l0 (fun k xs ys i => laws_eqValue.f ((rd_T152 xs i).f0) ((rd_T152 xs i).f1) ((rd_T152 xs i).f2) ((rd_T152 ys i).f0) ((rd_T152 ys i).f1) ((rd_T152 ys i).f2)) (fun _ _ _ _ => rfl) xs (by have := h.1; omega) (fun i hi => ?_))
  · exact ev_eq (eqValue_self _ _ _)

/-! ### good values -/
def ValueOk (xs : List S152) (i : Nat) : Prop :=
  NameOk (rd_T152 xs i).f0 ∧ (rd_T152 xs i).f2.size ≤ 100 ∧ (0 < i → Op.bytesLess (rd_T152 xs ((i : Int) - 1)).f0.toList (rd_T152 xs i).f0.toList = true)
def ValuesOk (xs : List S152) : Prop := xs.length ≤ 30 ∧ ∀ i, i < xs.length → ValueOk xs i
theorem values_spec (xs : List S152) (b : Bool) (hb : b = true ↔ ValuesOk xs) : Ev (fun k => spec_GoodValues.f k xs) b := by
  refine ev_ite (fun h => ev_some (bool_false hb (fun h' => by have := h'.1; omega)).symm) fun h => ?_
  refine ev_all xs.length (fun k i => spec_GoodValues.l0 k xs xs (xs.length : Int) (i : Int)) (ValueOk xs) true b ?_ ?_ ?_ ?_
  · rw [hb]; unfold ValuesOk; constructor
    · exact fun h => ⟨rfl, h.2⟩
    · exact fun h' => ⟨by omega, h'.2⟩
  · exact Ev.step (fun _ => rfl) (ev_neg (by omega) (ev_some rfl))
  · intro i hi _ ⟨h0, h1, h2⟩ r hr
    refine Ev.step (fun _ => rfl) (ev_pos (by omega) (ev_pos (by omega) (ev_pos (by omega) (Ev.bind (name_spec _ true ⟨fun _ => h0, fun _ => rfl⟩) (ev_pos rfl (ev_neg (by omega) ?_))))))
    rw [w64s i (by omega), w64 (n := (i : Int) - 1) (by omega) (by omega)]
    exact ev_ite (fun hp => ev_pos (by omega) (ev_pos (by omega) (ev_pos (h2 (by omega)) hr))) fun _ => hr
  · intro i hi _ ho
    obtain ⟨c, hc⟩ := bool_of (NameOk (rd_T152 xs i).f0)
    refine Ev.step (fun _ => rfl) (ev_pos (by omega) (ev_pos (by omega) (ev_pos (by omega) (Ev.bind (name_spec _ c hc) (ev_ite (fun h0 => ev_ite (fun _ => ev_some rfl) fun h1 => ?_) fun _ => ev_some rfl)))))
    rw [w64 (n := (i : Int) - 1) (by omega) (by omega)]
    refine ev_ite (fun hp => ev_pos (by omega) (ev_pos (by omega) (ev_ite (fun h2 => absurd ⟨hc.1 h0, by omega, fun _ => h2⟩ ho) fun _ => ev_some rfl))) fun hp => absurd ⟨hc.1 h0, by omega, fun h => by omega⟩ ho
theorem values_impl (xs : List S152) (hx : xs.length ≤ 1048576 ∧ ∀ y ∈ xs, Fit152 y) (b : Bool) (hb : b = true ↔ ValuesOk xs) : Ev (fun k => impl_GoodValues.f k xs) b := by
  have hn : ∀ i : Nat, i < xs.length → (rd_T152 xs i).f0.size ≤ 140737488351232 := by
    intro i hi
    have e : rd_T152 xs (i : Int) = xs[i] := getD_get hi
    rw [e]
    have := (hx.2 _ (List.getElem_mem hi)).1
    omega
  have hl := hx.1
  refine ev_all xs.length (fun k i => impl_GoodValues.l0 k xs xs (xs.length : Int) (i : Int)) (ValueOk xs) (decide ((xs.length : Int) ≤ 30)) b ?_ ?_ ?_ ?_
  · rw [hb]; unfold ValuesOk; rw [decide_eq_true_eq]; constructor <;> (rintro ⟨h1, h2⟩; exact ⟨by omega, h2⟩)
  · exact Ev.step (fun _ => rfl) (ev_neg (by omega) (ev_some rfl))
  · intro i hi _ ⟨h0, h1, h2⟩ r hr
    refine Ev.step (fun _ => rfl) (ev_pos (by omega) (ev_pos (by omega) (ev_pos (by omega) (Ev.bind (name_impl _ (hn i hi) true ⟨fun _ => h0, fun _ => rfl⟩) (ev_pos rfl ?_)))))
    rw [w64s i (by omega), w64 (n := (i : Int) - 1) (by omega) (by omega)]
    exact ev_ite (fun hp => ev_pos (by omega) (ev_pos (by omega) (ev_pos (h2 (by omega)) (ev_neg (by omega) hr)))) fun _ => ev_neg (by omega) hr
  · intro i hi _ ho
    obtain ⟨c, hc⟩ := bool_of (NameOk (rd_T152 xs i).f0)
    refine Ev.step (fun _ => rfl) (ev_pos (by omega) (ev_pos (by omega) (ev_pos (by omega) (Ev.bind (name_impl _ (hn i hi) c hc) (ev_ite (fun h0 => ?_) fun _ => ev_some rfl)))))
    rw [w64 (n := (i : Int) - 1) (by omega) (by omega)]
    refine ev_ite (fun hp => ev_pos (by omega) (ev_pos (by omega) (ev_ite (fun h2 => ev_ite (fun _ => ev_some rfl) fun h1 => absurd ⟨hc.1 h0, by omega, fun _ => h2⟩ ho) fun _ => ev_some rfl))) fun hp => ev_ite (fun _ => ev_some rfl) fun h1 => absurd ⟨hc.1 h0, by omega, fun h => by omega⟩ ho
theorem values_same (xs : List S152) (hx : xs.length ≤ 1048576 ∧ ∀ y ∈ xs, Fit152 y) : ∃ b, Ev (fun k => spec_GoodValues.f k xs) b ∧ Ev (fun k => impl_GoodValues.f k xs) b ∧ (b = true ↔ ValuesOk xs) := by
  obtain ⟨b, hb⟩ := bool_of (ValuesOk xs)
  exact ⟨b, values_spec xs b hb, values_impl xs hx b hb, hb⟩
theorem FnExactGoodValues : ∀ (l0 : List (S151)), (l0.length * 40 ≤ 140737488351232 ∧ ∀ y ∈ l0, Ok151 y) → ∃ k, laws_FnExactGoodValues.f k l0 = some true := by
  intro xs gl
  refine Ev.rounds (g := fun k => laws_FnExactGoodValues.f k xs) ?_
  obtain ⟨r, hr, h | ⟨h0, h1, hx⟩⟩ := szValueS_some xs gl 1048576 (by omega) (by omega)
  · exact Ev.bind hr (ev_pos h (ev_some rfl))
  · have tx := toValueS_ev xs hx
    have hx' : (xs.map cv151).length ≤ 1048576 ∧ ∀ y ∈ xs.map cv151, Fit152 y := ⟨by rw [List.length_map]; exact hx.1, fun y hy => by obtain ⟨z, hz, rfl⟩ := List.mem_map.1 hy; exact fit_cv151 (hx.2 z hz)⟩
    obtain ⟨t, hs, hi, _⟩ := values_same (xs.map cv151) hx'
    exact Ev.bind hr (ev_neg (by omega) (Ev.bind tx (Ev.bind hs (Ev.bind tx (Ev.bind hi (ev_neg (by simp) (Ev.bind tx (Ev.bind (eqValueS_ev _ hx') (ev_pos rfl (ev_some rfl))))))))))
end Go.Proofs.Ytfghbecipdjcdaa.Pure
