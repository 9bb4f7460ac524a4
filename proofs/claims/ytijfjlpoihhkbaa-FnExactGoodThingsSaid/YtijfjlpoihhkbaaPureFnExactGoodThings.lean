/- The law FnExactGoodThings over a plain list: it answers true. No condition beyond the numbers' own kinds and what fits in memory. -/
import Derived.Test.YtijfjlpoihhkbaaPFnExactGoodThingsx5
import Derived.Test.YtijfjlpoihhkbaaOpenFnExactGoodThings
import Derived.Test.YtijfjlpoihhkbaaPlain
namespace Go.Proofs.Ytijfjlpoihhkbaa.Pure
open Go.RowKit Go.Proofs.Ytijfjlpoihhkbaa.PFnExactGoodThings Go.Proofs.Ytijfjlpoihhkbaa.OFnExactGoodThings Go.Proofs.YtijfjlpoihhkbaaW.PrintWords Go.Proofs.YtijfjlpoihhkbaaW.PrintLast Go.Proofs.YtijfjlpoihhkbaaW.PrintMore Go.Proofs.YtijfjlpoihhkbaaO

theorem st_spec_GoodThings_l0 {r : (Bool)} {x0 : List (S105)} {x8 : List (S105)} {x9 : Int} {x10 : Int} (h : Ev (fun k => if x10 < x9 then (if 0 ≤ x10 then (if x10 < (x8.length : Int) then ((spec_l1In.f ((rd_T105 x8 x10).f0) 0 255).bind fun t103 => (if t103 = true then ((spec_l1In.f ((rd_T105 x8 x10).f1) 0 1023).bind fun t104 => (if t104 = true then ((spec_l1In.f ((rd_T105 x8 x10).f2) 0 1023).bind fun t105 => (if t105 = true then ((spec_l1In.f ((rd_T105 x8 x10).f3) 0 127).bind fun t106 => (if t106 = true then (if x10 > 0 then (if 0 ≤ (wrap64 (x10 - 1)) then (if (wrap64 (x10 - 1)) < (x0.length : Int) then (if ((rd_T105 x0 (wrap64 (x10 - 1))).f0) ≥ ((rd_T105 x8 x10).f0) then (some false) else (spec_GoodThings.l0 k x0 x8 x9 (wrap64 (x10 + 1)))) else (none)) else (none)) else (spec_GoodThings.l0 k x0 x8 x9 (wrap64 (x10 + 1)))) else (some false))) else (some false))) else (some false))) else (some false))) else (none)) else (none)) else (some true)) r) : Ev (fun k => spec_GoodThings.l0 k x0 x8 x9 x10) r := Ev.step (fun k => by rw [spec_GoodThings.l0]) h
theorem st_laws_toThingS_l0 {r : ((List (S105)))} {x0 : List (S107)} {x3 : List (S105)} {x4 : Int} (h : Ev (fun k => if x4 < (x0.length : Int) then (if 0 ≤ x4 then ((laws_toThing.f ((rd_T107 x0 x4).f0) ((rd_T107 x0 x4).f1) ((rd_T107 x0 x4).f2) ((rd_T107 x0 x4).f3)).bind fun bt115 => (if x4 < (x3.length : Int) then (laws_toThingS.l0 k x0 (x3.set (x4 : Int).toNat (⟨bt115.1, bt115.2.1, bt115.2.2.1, bt115.2.2.2⟩ : S105)) (wrap64 (x4 + 1))) else (none))) else (none)) else (some x3)) r) : Ev (fun k => laws_toThingS.l0 k x0 x3 x4) r := Ev.step (fun k => by rw [laws_toThingS.l0]) h
theorem st_impl_GoodThings_l0 {r : (Bool)} {x0 : List (S105)} {x5 : List (S105)} {x6 : Int} {x7 : Int} (h : Ev (fun k => if x7 < x6 then (if 0 ≤ x7 then (if x7 < (x5.length : Int) then ((impl_inRange.f ((rd_T105 x5 x7).f0) 0 255).bind fun t122 => (if t122 = true then ((impl_inRange.f ((rd_T105 x5 x7).f1) 0 1023).bind fun t123 => (if t123 = true then ((impl_inRange.f ((rd_T105 x5 x7).f2) 0 1023).bind fun t124 => (if t124 = true then ((impl_inRange.f ((rd_T105 x5 x7).f3) 0 127).bind fun t125 => (if t125 = true then (if x7 > 0 then (if 0 ≤ (wrap64 (x7 - 1)) then (if (wrap64 (x7 - 1)) < (x0.length : Int) then (if ((rd_T105 x0 (wrap64 (x7 - 1))).f0) ≥ ((rd_T105 x5 x7).f0) then (some false) else (impl_GoodThings.l0 k x0 x5 x6 (wrap64 (x7 + 1)))) else (none)) else (none)) else (impl_GoodThings.l0 k x0 x5 x6 (wrap64 (x7 + 1)))) else (some false))) else (some false))) else (some false))) else (some false))) else (none)) else (none)) else (some (decide ((x0.length : Int) ≤ 40)))) r) : Ev (fun k => impl_GoodThings.l0 k x0 x5 x6 x7) r := Ev.step (fun k => by rw [impl_GoodThings.l0]) h
theorem st_laws_eqThingS_l0 {r : (Bool)} {x0 : List (S105)} {x1 : List (S105)} {x5 : Int} (h : Ev (fun k => if x5 < (x0.length : Int) then (if 0 ≤ x5 then (if x5 < (x1.length : Int) then ((laws_eqThing.f ((rd_T105 x0 x5).f0) ((rd_T105 x0 x5).f1) ((rd_T105 x0 x5).f2) ((rd_T105 x0 x5).f3) ((rd_T105 x1 x5).f0) ((rd_T105 x1 x5).f1) ((rd_T105 x1 x5).f2) ((rd_T105 x1 x5).f3)).bind fun t131 => (if t131 = true then (laws_eqThingS.l0 k x0 x1 (wrap64 (x5 + 1))) else (some false))) else (none)) else (none)) else (some true)) r) : Ev (fun k => laws_eqThingS.l0 k x0 x1 x5) r := Ev.step (fun k => by rw [laws_eqThingS.l0]) h
theorem in_same (a b c : Int) : impl_inRange.f a b c = spec_l1In.f a b c := rfl
theorem in_some (a b c : Int) : spec_l1In.f a b c = some (decide (b ≤ a ∧ a ≤ c)) := by
  unfold spec_l1In.f
  split <;> simp_all <;> omega
/-! ### good things -/
def ThingOk (xs : List S105) (i : Nat) : Prop :=
  (0 ≤ (rd_T105 xs i).f0 ∧ (rd_T105 xs i).f0 ≤ 255) ∧ (0 ≤ (rd_T105 xs i).f1 ∧ (rd_T105 xs i).f1 ≤ 1023) ∧ (0 ≤ (rd_T105 xs i).f2 ∧ (rd_T105 xs i).f2 ≤ 1023) ∧
  (0 ≤ (rd_T105 xs i).f3 ∧ (rd_T105 xs i).f3 ≤ 127) ∧ (0 < i → (rd_T105 xs ((i : Int) - 1)).f0 < (rd_T105 xs i).f0)
def ThingsOk (xs : List S105) : Prop := xs.length ≤ 40 ∧ ∀ i, i < xs.length → ThingOk xs i
theorem things_spec (xs : List S105) (b : Bool) (hb : b = true ↔ ThingsOk xs) : Ev (fun k => spec_GoodThings.f k xs) b := by
  refine ev_ite (fun h => ev_some (bool_false hb (fun h' => by have := h'.1; omega)).symm) fun h => ?_
  refine ev_all xs.length (fun k i => spec_GoodThings.l0 k xs xs (xs.length : Int) (i : Int)) (ThingOk xs) true b ?_ ?_ ?_ ?_
  · rw [hb]; unfold ThingsOk; constructor
    · exact fun h => ⟨rfl, h.2⟩
    · exact fun h' => ⟨by omega, h'.2⟩
  · exact st_spec_GoodThings_l0 (ev_neg (by omega) (ev_some rfl))
  · intro i hi _ ⟨h0, h1, h2, h3, h4⟩ r hr
    refine st_spec_GoodThings_l0 (ev_pos (by omega) (ev_pos (by omega) (ev_pos (by omega) (ev_bindc (in_some _ _ _) (ev_pos (decide_eq_true h0) (ev_bindc (in_some _ _ _) (ev_pos (decide_eq_true h1) (ev_bindc (in_some _ _ _) (ev_pos (decide_eq_true h2) (ev_bindc (in_some _ _ _) (ev_pos (decide_eq_true h3) ?_)))))))))))
    rw [w64s i (by omega)]
    refine ev_ite (fun hp => ?_) fun _ => hr
    have e : wrap64 ((i : Int) - 1) = (i : Int) - 1 := w64 (by omega) (by omega)
    rw [e]
    have := h4 (by omega)
    exact ev_pos (by omega) (ev_pos (by omega) (ev_neg (by omega) hr))
  · intro i hi _ ho
    refine st_spec_GoodThings_l0 (ev_pos (by omega) (ev_pos (by omega) (ev_pos (by omega) (ev_bindc (in_some _ _ _) (ev_ite (fun h0 => ?_) fun _ => ev_some rfl)))))
    refine ev_bindc (in_some _ _ _) (ev_ite (fun h1 => ?_) fun _ => ev_some rfl)
    refine ev_bindc (in_some _ _ _) (ev_ite (fun h2 => ?_) fun _ => ev_some rfl)
    refine ev_bindc (in_some _ _ _) (ev_ite (fun h3 => ?_) fun _ => ev_some rfl)
    have e : wrap64 ((i : Int) - 1) = (i : Int) - 1 := w64 (by omega) (by omega)
    rw [e]
    refine ev_ite (fun hp => ev_pos (by omega) (ev_pos (by omega) (ev_ite (fun _ => ev_some rfl) fun hq => ?_))) fun hp => ?_
    · exact absurd ⟨of_decide_eq_true h0, of_decide_eq_true h1, of_decide_eq_true h2, of_decide_eq_true h3, fun _ => by omega⟩ ho
    · exact absurd ⟨of_decide_eq_true h0, of_decide_eq_true h1, of_decide_eq_true h2, of_decide_eq_true h3, fun _ => by omega⟩ ho
theorem things_impl (xs : List S105) (hx : xs.length ≤ 4611686018427387903) (b : Bool) (hb : b = true ↔ ThingsOk xs) : Ev (fun k => impl_GoodThings.f k xs) b := by
  refine ev_all xs.length (fun k i => impl_GoodThings.l0 k xs xs (xs.length : Int) (i : Int)) (ThingOk xs) (decide ((xs.length : Int) ≤ 40)) b ?_ ?_ ?_ ?_
  · rw [hb]; unfold ThingsOk; simp; omega
  · exact st_impl_GoodThings_l0 (ev_neg (by omega) (ev_some rfl))
  · intro i hi _ ⟨h0, h1, h2, h3, h4⟩ r hr
    refine st_impl_GoodThings_l0 (ev_pos (by omega) (ev_pos (by omega) (ev_pos (by omega) (ev_bindc (in_some _ _ _) (ev_pos (decide_eq_true h0) (ev_bindc (in_some _ _ _) (ev_pos (decide_eq_true h1) (ev_bindc (in_some _ _ _) (ev_pos (decide_eq_true h2) (ev_bindc (in_some _ _ _) (ev_pos (decide_eq_true h3) ?_)))))))))))
    rw [w64s i (by omega)]
    refine ev_ite (fun hp => ?_) fun _ => hr
    have e : wrap64 ((i : Int) - 1) = (i : Int) - 1 := w64 (by omega) (by omega)
    rw [e]
    have := h4 (by omega)
    exact ev_pos (by omega) (ev_pos (by omega) (ev_neg (by omega) hr))
  · intro i hi _ ho
    refine st_impl_GoodThings_l0 (ev_pos (by omega) (ev_pos (by omega) (ev_pos (by omega) (ev_bindc (in_some _ _ _) (ev_ite (fun h0 => ?_) fun _ => ev_some rfl)))))
    refine ev_bindc (in_some _ _ _) (ev_ite (fun h1 => ?_) fun _ => ev_some rfl)
    refine ev_bindc (in_some _ _ _) (ev_ite (fun h2 => ?_) fun _ => ev_some rfl)
    refine ev_bindc (in_some _ _ _) (ev_ite (fun h3 => ?_) fun _ => ev_some rfl)
    have e : wrap64 ((i : Int) - 1) = (i : Int) - 1 := w64 (by omega) (by omega)
    rw [e]
    refine ev_ite (fun hp => ev_pos (by omega) (ev_pos (by omega) (ev_ite (fun _ => ev_some rfl) fun hq => ?_))) fun hp => ?_
    · exact absurd ⟨of_decide_eq_true h0, of_decide_eq_true h1, of_decide_eq_true h2, of_decide_eq_true h3, fun _ => by omega⟩ ho
    · exact absurd ⟨of_decide_eq_true h0, of_decide_eq_true h1, of_decide_eq_true h2, of_decide_eq_true h3, fun _ => by omega⟩ ho
theorem things_same (xs : List S105) (hx : xs.length ≤ 4611686018427387903) : ∃ b, Ev (fun k => spec_GoodThings.f k xs) b ∧ Ev (fun k => impl_GoodThings.f k xs) b ∧ (b = true ↔ ThingsOk xs) := by
  obtain ⟨b, hb⟩ := bool_of (ThingsOk xs)
  exact ⟨b, things_spec xs b hb, things_impl xs hx b hb, hb⟩
/-! ### the law's own helpers over things -/
def cvThing (x : S107) : S105 := ⟨x.f0, x.f1, x.f2, x.f3⟩
theorem szThingS_some (xs : List S107) (left : Int) (h0 : 0 ≤ left) (h1 : left ≤ 4611686018427387904) (hl : xs.length ≤ 4611686018427387903) : (∃ r, laws_szThingS.f xs left = some r ∧ r < 0) ∨ ∃ r, laws_szThingS.f xs left = some r ∧ 0 ≤ r ∧ r + (xs.length : Int) = left := by
  unfold laws_szThingS.f
  rw [w64 (n := left - (xs.length : Int)) (by omega) (by omega)]
  by_cases h : left - (xs.length : Int) < 0
  · exact .inl ⟨-1, if_pos h, by omega⟩
  · exact .inr ⟨_, if_neg h, by omega, by omega⟩
theorem toThingS_ev (xs : List S107) (h : xs.length ≤ 1048576) : Ev (fun k => laws_toThingS.f k xs) (xs.map cvThing) := by
  refine ev_pos (by omega) (ev_pos (by omega) ?_)
  exact ev_copy laws_toThingS.l0 (fun _ xs i => some (cvThing (rd_T107 xs i))) cvThing (fun k xs ys i => by
    simp only [laws_toThingS.l0, laws_toThing.f, Option.bind_some, cvThing]) xs (by omega) (fun i hi => ev_some (by rw [rd_T107, getD_get hi])) _ (by simp)
theorem eqThing_self (a b c d : Int) : laws_eqThing.f a b c d a b c d = some true := by simp [laws_eqThing.f]
theorem eqThingS_ev (xs : List S105) (h : xs.length ≤ 1048576) : Ev (fun k => laws_eqThingS.f k xs xs) true := by
  refine ev_pos rfl ?_
  exact ev_alike_self laws_eqThingS.l0 (fun _ xs ys i => laws_eqThing.f ((rd_T105 xs i).f0) ((rd_T105 xs i).f1) ((rd_T105 xs i).f2) ((rd_T105 xs i).f3) ((rd_T105 ys i).f0) ((rd_T105 ys i).f1) ((rd_T105 ys i).f2) ((rd_T105 ys i).f3)) (fun _ _ _ _ => rfl) xs (by omega) (fun i hi => ev_eq (eqThing_self _ _ _ _))
theorem FnExactGoodThings : ∀ (l0 : List (S107)), (l0.length * 32 ≤ 140737488351232 ∧ ∀ y ∈ l0, Ok107 y) → ∃ k, laws_FnExactGoodThings.f k l0 = some true := by
  intro xs ⟨hl, _⟩
  refine Ev.rounds (g := fun k => laws_FnExactGoodThings.f k xs) ?_
  rcases szThingS_some xs 1048576 (by omega) (by omega) (by omega) with ⟨r, hr, h⟩ | ⟨r, hr, h, hx⟩
  · exact ev_bindc hr (ev_pos h (ev_some rfl))
  · have tx := toThingS_ev xs (by omega)
    obtain ⟨b, hs, hi, _⟩ := things_same (xs.map cvThing) (by rw [List.length_map]; omega)
    refine ev_bindc hr (ev_neg (by omega) (Ev.bind tx (Ev.bind hs (Ev.bind tx (Ev.bind hi (ev_neg (by simp) (Ev.bind tx (Ev.bind (eqThingS_ev _ (by rw [List.length_map]; omega)) (ev_pos rfl (ev_some rfl))))))))))
end Go.Proofs.Ytijfjlpoihhkbaa.Pure
