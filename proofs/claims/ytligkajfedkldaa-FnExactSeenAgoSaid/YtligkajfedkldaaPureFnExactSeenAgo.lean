/- The law FnExactSeenAgo over plain lists: it answers true. No condition beyond the numbers' own kinds and what fits in memory. -/
import Derived.Test.YtligkajfedkldaaPFnExactSeenAgox7
import Derived.Test.YtligkajfedkldaaOpenFnExactSeenAgo
import Derived.Test.YtligkajfedkldaaPlain
namespace Go.Proofs.Ytligkajfedkldaa.Pure
open Go.RowKit Go.Proofs.Ytligkajfedkldaa.PFnExactSeenAgo Go.Proofs.Ytligkajfedkldaa.OFnExactSeenAgo Go.Proofs.YtligkajfedkldaaW.PrintWords Go.Proofs.YtligkajfedkldaaW.PrintLast Go.Proofs.YtligkajfedkldaaW.PrintMore Go.Proofs.YtligkajfedkldaaO
set_option linter.unusedVariables false
set_option linter.unusedSimpArgs false

theorem st_laws_szThingSS_l0 {r : (Int)} {x0 : List (List (S246))} {x1 : Int} {x5 : Int} (h : Ev (fun k => if x5 < (x0.length : Int) then (if 0 ≤ x5 then ((laws_szThingS.f (rd_L2 x0 x5) x1).bind fun t102 => (if t102 < 0 then (some (-1)) else (laws_szThingSS.l0 k x0 t102 (wrap64 (x5 + 1))))) else (none)) else (some x1)) r) : Ev (fun k => laws_szThingSS.l0 k x0 x1 x5) r := Ev.step (fun k => by rw [laws_szThingSS.l0]) h
theorem st_spec_GoodThings_l0 {r : (Bool)} {x0 : List (S36)} {x8 : List (S36)} {x9 : Int} {x10 : Int} (h : Ev (fun k => if x10 < x9 then (if 0 ≤ x10 then (if x10 < (x8.length : Int) then ((spec_l1In.f ((rd_T36 x8 x10).f0) 0 255).bind fun t105 => (if t105 = true then ((spec_l1In.f ((rd_T36 x8 x10).f1) 0 1023).bind fun t106 => (if t106 = true then ((spec_l1In.f ((rd_T36 x8 x10).f2) 0 1023).bind fun t107 => (if t107 = true then ((spec_l1In.f ((rd_T36 x8 x10).f3) 0 127).bind fun t108 => (if t108 = true then (if x10 > 0 then (if 0 ≤ (wrap64 (x10 - 1)) then (if (wrap64 (x10 - 1)) < (x0.length : Int) then (if ((rd_T36 x0 (wrap64 (x10 - 1))).f0) ≥ ((rd_T36 x8 x10).f0) then (some false) else (spec_GoodThings.l0 k x0 x8 x9 (wrap64 (x10 + 1)))) else (none)) else (none)) else (spec_GoodThings.l0 k x0 x8 x9 (wrap64 (x10 + 1)))) else (some false))) else (some false))) else (some false))) else (some false))) else (none)) else (none)) else (some true)) r) : Ev (fun k => spec_GoodThings.l0 k x0 x8 x9 x10) r := Ev.step (fun k => by rw [spec_GoodThings.l0]) h
theorem st_spec_l23At_l0 {r : (Int)} {x1 : Int} {x7 : List (S36)} {x8 : Int} {x9 : Int} (h : Ev (fun k => if x9 < x8 then (if 0 ≤ x9 then (if x9 < (x7.length : Int) then (if ((rd_T36 x7 x9).f0) = x1 then (some x9) else (spec_l23At.l0 k x1 x7 x8 (wrap64 (x9 + 1)))) else (none)) else (none)) else (some (-1))) r) : Ev (fun k => spec_l23At.l0 k x1 x7 x8 x9) r := Ev.step (fun k => by rw [spec_l23At.l0]) h
theorem st_spec_SeenAgo_j0 {r : (Int × Int × Int × Int × Bool)} {x0 : List (List (S36))} {x1 : Int} {x2 : Int} {x27 : Bool} (h : Ev (fun k => if x27 = true then (some (0, 0, 0, 0, false)) else (spec_SeenAgo.l0 k x0 x1 x2 x0 (x0.length : Int) 0)) r) : Ev (fun k => spec_SeenAgo.j0 k x0 x1 x2 x27) r := Ev.step (fun k => by rw [spec_SeenAgo.j0]) h
theorem st_spec_SeenAgo_l0 {r : (Int × Int × Int × Int × Bool)} {x0 : List (List (S36))} {x1 : Int} {x2 : Int} {x29 : List (List (S36))} {x30 : Int} {x31 : Int} (h : Ev (fun k => if x31 < x30 then (if 0 ≤ x31 then (if x31 < (x29.length : Int) then ((spec_GoodThings.f k (rd_L4 x29 x31)).bind fun t115 => (if t115 = true then (spec_SeenAgo.l0 k x0 x1 x2 x29 x30 (wrap64 (x31 + 1))) else (some (0, 0, 0, 0, false)))) else (none)) else (none)) else (if 0 ≤ (wrap64 ((wrap64 ((x0.length : Int) - 1)) - x1)) then (if (wrap64 ((wrap64 ((x0.length : Int) - 1)) - x1)) < (x0.length : Int) then ((spec_l23At.f k (rd_L4 x0 (wrap64 ((wrap64 ((x0.length : Int) - 1)) - x1))) x2).bind fun t117 => (if t117 < 0 then (some (0, 0, 0, 0, false)) else (if 0 ≤ t117 then (if t117 < ((rd_L4 x0 (wrap64 ((wrap64 ((x0.length : Int) - 1)) - x1))).length : Int) then (some ((rd_T36 (rd_L4 x0 (wrap64 ((wrap64 ((x0.length : Int) - 1)) - x1))) t117).f0, (rd_T36 (rd_L4 x0 (wrap64 ((wrap64 ((x0.length : Int) - 1)) - x1))) t117).f1, (rd_T36 (rd_L4 x0 (wrap64 ((wrap64 ((x0.length : Int) - 1)) - x1))) t117).f2, (rd_T36 (rd_L4 x0 (wrap64 ((wrap64 ((x0.length : Int) - 1)) - x1))) t117).f3, true)) else (none)) else (none)))) else (none)) else (none))) r) : Ev (fun k => spec_SeenAgo.l0 k x0 x1 x2 x29 x30 x31) r := Ev.step (fun k => by rw [spec_SeenAgo.l0]) h
theorem st_laws_toThingS_l0 {r : ((List (S36)))} {x0 : List (S246)} {x3 : List (S36)} {x4 : Int} (h : Ev (fun k => if x4 < (x0.length : Int) then (if 0 ≤ x4 then ((laws_toThing.f ((rd_T246 x0 x4).f0) ((rd_T246 x0 x4).f1) ((rd_T246 x0 x4).f2) ((rd_T246 x0 x4).f3)).bind fun bt126 => (if x4 < (x3.length : Int) then (laws_toThingS.l0 k x0 (x3.set (x4 : Int).toNat (⟨bt126.1, bt126.2.1, bt126.2.2.1, bt126.2.2.2⟩ : S36)) (wrap64 (x4 + 1))) else (none))) else (none)) else (some x3)) r) : Ev (fun k => laws_toThingS.l0 k x0 x3 x4) r := Ev.step (fun k => by rw [laws_toThingS.l0]) h
theorem st_laws_toThingSS_l0 {r : ((List (List (S36))))} {x0 : List (List (S246))} {x3 : List (List (S36))} {x4 : Int} (h : Ev (fun k => if x4 < (x0.length : Int) then (if 0 ≤ x4 then ((laws_toThingS.f k (rd_L2 x0 x4)).bind fun t135 => (if x4 < (x3.length : Int) then (laws_toThingSS.l0 k x0 (x3.set (x4 : Int).toNat t135) (wrap64 (x4 + 1))) else (none))) else (none)) else (some x3)) r) : Ev (fun k => laws_toThingSS.l0 k x0 x3 x4) r := Ev.step (fun k => by rw [laws_toThingSS.l0]) h
theorem st_impl_GoodThings_l0 {r : (Bool)} {x0 : List (S36)} {x5 : List (S36)} {x6 : Int} {x7 : Int} (h : Ev (fun k => if x7 < x6 then (if 0 ≤ x7 then (if x7 < (x5.length : Int) then ((impl_inRange.f ((rd_T36 x5 x7).f0) 0 255).bind fun t141 => (if t141 = true then ((impl_inRange.f ((rd_T36 x5 x7).f1) 0 1023).bind fun t142 => (if t142 = true then ((impl_inRange.f ((rd_T36 x5 x7).f2) 0 1023).bind fun t143 => (if t143 = true then ((impl_inRange.f ((rd_T36 x5 x7).f3) 0 127).bind fun t144 => (if t144 = true then (if x7 > 0 then (if 0 ≤ (wrap64 (x7 - 1)) then (if (wrap64 (x7 - 1)) < (x0.length : Int) then (if ((rd_T36 x0 (wrap64 (x7 - 1))).f0) ≥ ((rd_T36 x5 x7).f0) then (some false) else (impl_GoodThings.l0 k x0 x5 x6 (wrap64 (x7 + 1)))) else (none)) else (none)) else (impl_GoodThings.l0 k x0 x5 x6 (wrap64 (x7 + 1)))) else (some false))) else (some false))) else (some false))) else (some false))) else (none)) else (none)) else (some (decide ((x0.length : Int) ≤ 40)))) r) : Ev (fun k => impl_GoodThings.l0 k x0 x5 x6 x7) r := Ev.step (fun k => by rw [impl_GoodThings.l0]) h
theorem st_slices_BinarySearchFunc_w240_l0 {r : (Int × Bool)} {x0 : List (S36)} {x1 : Int} {x8 : Int} {x9 : Int} {x10 : Int} (h : Ev (fun k => if x9 < x10 then (if 0 ≤ (wrap64 ((IntKind.u64.wrap (wrap64 (x9 + x10))) / 2)) then (if (wrap64 ((IntKind.u64.wrap (wrap64 (x9 + x10))) / 2)) < (x0.length : Int) then ((impl_thingPlace_1.f ((rd_T36 x0 (wrap64 ((IntKind.u64.wrap (wrap64 (x9 + x10))) / 2))).f0) ((rd_T36 x0 (wrap64 ((IntKind.u64.wrap (wrap64 (x9 + x10))) / 2))).f1) ((rd_T36 x0 (wrap64 ((IntKind.u64.wrap (wrap64 (x9 + x10))) / 2))).f2) ((rd_T36 x0 (wrap64 ((IntKind.u64.wrap (wrap64 (x9 + x10))) / 2))).f3) x1).bind fun t149 => (if t149 < 0 then (slices_BinarySearchFunc_w240.l0 k x0 x1 x8 (wrap64 ((wrap64 ((IntKind.u64.wrap (wrap64 (x9 + x10))) / 2)) + 1)) x10) else (slices_BinarySearchFunc_w240.l0 k x0 x1 x8 x9 (wrap64 ((IntKind.u64.wrap (wrap64 (x9 + x10))) / 2))))) else (none)) else (none)) else (if x9 < x8 then (if 0 ≤ x9 then (if x9 < (x0.length : Int) then ((impl_thingPlace_1.f ((rd_T36 x0 x9).f0) ((rd_T36 x0 x9).f1) ((rd_T36 x0 x9).f2) ((rd_T36 x0 x9).f3) x1).bind fun t151 => (some (x9, (t151 == 0)))) else (none)) else (none)) else (some (x9, false)))) r) : Ev (fun k => slices_BinarySearchFunc_w240.l0 k x0 x1 x8 x9 x10) r := Ev.step (fun k => by rw [slices_BinarySearchFunc_w240.l0]) h
theorem st_slices_IndexFunc_w102_l0 {r : (Int)} {x0 : List (List (S36))} {x7 : Int} {x8 : Int} (h : Ev (fun k => if x8 < x7 then (if 0 ≤ x8 then (if x8 < (x0.length : Int) then ((impl_SeenAgo_1.f k (rd_L4 x0 x8)).bind fun t159 => (if t159 = true then (some x8) else (slices_IndexFunc_w102.l0 k x0 x7 (wrap64 (x8 + 1))))) else (none)) else (none)) else (some (-1))) r) : Ev (fun k => slices_IndexFunc_w102.l0 k x0 x7 x8) r := Ev.step (fun k => by rw [slices_IndexFunc_w102.l0]) h
theorem st_laws_eqThingS_l0 {r : (Bool)} {x0 : List (S36)} {x1 : List (S36)} {x5 : Int} (h : Ev (fun k => if x5 < (x0.length : Int) then (if 0 ≤ x5 then (if x5 < (x1.length : Int) then ((laws_eqThing.f ((rd_T36 x0 x5).f0) ((rd_T36 x0 x5).f1) ((rd_T36 x0 x5).f2) ((rd_T36 x0 x5).f3) ((rd_T36 x1 x5).f0) ((rd_T36 x1 x5).f1) ((rd_T36 x1 x5).f2) ((rd_T36 x1 x5).f3)).bind fun t175 => (if t175 = true then (laws_eqThingS.l0 k x0 x1 (wrap64 (x5 + 1))) else (some false))) else (none)) else (none)) else (some true)) r) : Ev (fun k => laws_eqThingS.l0 k x0 x1 x5) r := Ev.step (fun k => by rw [laws_eqThingS.l0]) h
theorem st_laws_eqThingSS_l0 {r : (Bool)} {x0 : List (List (S36))} {x1 : List (List (S36))} {x5 : Int} (h : Ev (fun k => if x5 < (x0.length : Int) then (if 0 ≤ x5 then (if x5 < (x1.length : Int) then ((laws_eqThingS.f k (rd_L4 x0 x5) (rd_L4 x1 x5)).bind fun t178 => (if t178 = true then (laws_eqThingSS.l0 k x0 x1 (wrap64 (x5 + 1))) else (some false))) else (none)) else (none)) else (some true)) r) : Ev (fun k => laws_eqThingSS.l0 k x0 x1 x5) r := Ev.step (fun k => by rw [laws_eqThingSS.l0]) h
theorem st_laws_FnExactSeenAgo_j0 {r : (Bool)} {x0 : List (List (S246))} {x10 : List (List (S36))} {x43 : Bool} (h : Ev (fun k => if x43 = true then (some false) else ((laws_toThingSS.f k x0).bind fun t199 => ((laws_eqThingSS.f k x10 t199).bind fun t202 => (if t202 = true then (some true) else (some false))))) r) : Ev (fun k => laws_FnExactSeenAgo.j0 k x0 x10 x43) r := Ev.step (fun k => by rw [laws_FnExactSeenAgo.j0]) h
theorem inr_some (a b c : Int) : impl_inRange.f a b c = some (decide (b ≤ a ∧ a ≤ c)) := by
  unfold impl_inRange.f
  split <;> simp_all <;> omega
theorem in_some (a b c : Int) : spec_l1In.f a b c = some (decide (b ≤ a ∧ a ≤ c)) := by
  unfold spec_l1In.f
  split <;> simp_all <;> omega
theorem in_same (a b c : Int) : impl_inRange.f a b c = spec_l1In.f a b c := rfl
/-! ### good things -/
def ThingOk (xs : List S36) (i : Nat) : Prop :=
  (0 ≤ (rd_T36 xs i).f0 ∧ (rd_T36 xs i).f0 ≤ 255) ∧ (0 ≤ (rd_T36 xs i).f1 ∧ (rd_T36 xs i).f1 ≤ 1023) ∧ (0 ≤ (rd_T36 xs i).f2 ∧ (rd_T36 xs i).f2 ≤ 1023) ∧
  (0 ≤ (rd_T36 xs i).f3 ∧ (rd_T36 xs i).f3 ≤ 127) ∧ (0 < i → (rd_T36 xs ((i : Int) - 1)).f0 < (rd_T36 xs i).f0)
def ThingsOk (xs : List S36) : Prop := xs.length ≤ 40 ∧ ∀ i, i < xs.length → ThingOk xs i
theorem things_spec (xs : List S36) (b : Bool) (hb : b = true ↔ ThingsOk xs) : Ev (fun k => spec_GoodThings.f k xs) b := by
  refine ev_ite (fun h => ev_some (bool_false hb (fun h' => by have := h'.1; omega)).symm) fun h => ?_
  refine ev_all xs.length (fun k i => spec_GoodThings.l0 k xs xs (xs.length : Int) (i : Int)) (ThingOk xs) true b ?_ ?_ ?_ ?_
  · rw [hb]; unfold ThingsOk; constructor
    · exact fun h => ⟨rfl, h.2⟩
    · exact fun h' => ⟨by omega, h'.2⟩
  · exact st_spec_GoodThings_l0 (ev_neg (by omega) (ev_some rfl))
  · intro i hi _ ⟨h0, h1, h2, h3, h4⟩ r hr
    refine st_spec_GoodThings_l0 (ev_pos (by omega) (ev_pos (by omega) (ev_pos (by omega) (ev_bindc (in_some _ _ _) (ev_pos (decide_eq_true h0) (ev_bindc (in_some _ _ _) (ev_pos (decide_eq_true h1) (ev_bindc (in_some _ _ _) (ev_pos (decide_eq_true h2) (ev_bindc (in_some _ _ _) (ev_pos (decide_eq_true h3) ?_)))))))))))
    rw [w64s i (by omega)]
    refine ev_ite (fun hp => ?_) fun _ => hr
    have e : wrap64 ((i : Int) - 1) = (i : Int) - 1 := w64 (by omega) (by omega)
    rw [e]
    have := h4 (by omega)
    exact ev_pos (by omega) (ev_pos (by omega) (ev_neg (by omega) hr))
  · intro i hi _ ho
    refine st_spec_GoodThings_l0 (ev_pos (by omega) (ev_pos (by omega) (ev_pos (by omega) (ev_bindc (in_some _ _ _) (ev_ite (fun h0 => ?_) fun _ => ev_some rfl)))))
    refine ev_bindc (in_some _ _ _) (ev_ite (fun h1 => ?_) fun _ => ev_some rfl)
    refine ev_bindc (in_some _ _ _) (ev_ite (fun h2 => ?_) fun _ => ev_some rfl)
    refine ev_bindc (in_some _ _ _) (ev_ite (fun h3 => ?_) fun _ => ev_some rfl)
    have e : wrap64 ((i : Int) - 1) = (i : Int) - 1 := w64 (by omega) (by omega)
    rw [e]
    refine ev_ite (fun hp => ev_pos (by omega) (ev_pos (by omega) (ev_ite (fun _ => ev_some rfl) fun hq => ?_))) fun hp => ?_
    · exact absurd ⟨of_decide_eq_true h0, of_decide_eq_true h1, of_decide_eq_true h2, of_decide_eq_true h3, fun _ => by omega⟩ ho
    · exact absurd ⟨of_decide_eq_true h0, of_decide_eq_true h1, of_decide_eq_true h2, of_decide_eq_true h3, fun _ => by omega⟩ ho
theorem things_impl (xs : List S36) (hx : xs.length ≤ 4611686018427387903) (b : Bool) (hb : b = true ↔ ThingsOk xs) : Ev (fun k => impl_GoodThings.f k xs) b := by
  refine ev_all xs.length (fun k i => impl_GoodThings.l0 k xs xs (xs.length : Int) (i : Int)) (ThingOk xs) (decide ((xs.length : Int) ≤ 40)) b ?_ ?_ ?_ ?_
  · rw [hb]; unfold ThingsOk; simp; omega
  · exact st_impl_GoodThings_l0 (ev_neg (by omega) (ev_some rfl))
  · intro i hi _ ⟨h0, h1, h2, h3, h4⟩ r hr
    refine st_impl_GoodThings_l0 (ev_pos (by omega) (ev_pos (by omega) (ev_pos (by omega) (ev_bindc (in_some _ _ _) (ev_pos (decide_eq_true h0) (ev_bindc (in_some _ _ _) (ev_pos (decide_eq_true h1) (ev_bindc (in_some _ _ _) (ev_pos (decide_eq_true h2) (ev_bindc (in_some _ _ _) (ev_pos (decide_eq_true h3) ?_)))))))))))
    rw [w64s i (by omega)]
    refine ev_ite (fun hp => ?_) fun _ => hr
    have e : wrap64 ((i : Int) - 1) = (i : Int) - 1 := w64 (by omega) (by omega)
    rw [e]
    have := h4 (by omega)
    exact ev_pos (by omega) (ev_pos (by omega) (ev_neg (by omega) hr))
  · intro i hi _ ho
    refine st_impl_GoodThings_l0 (ev_pos (by omega) (ev_pos (by omega) (ev_pos (by omega) (ev_bindc (in_some _ _ _) (ev_ite (fun h0 => ?_) fun _ => ev_some rfl)))))
    refine ev_bindc (in_some _ _ _) (ev_ite (fun h1 => ?_) fun _ => ev_some rfl)
    refine ev_bindc (in_some _ _ _) (ev_ite (fun h2 => ?_) fun _ => ev_some rfl)
    refine ev_bindc (in_some _ _ _) (ev_ite (fun h3 => ?_) fun _ => ev_some rfl)
    have e : wrap64 ((i : Int) - 1) = (i : Int) - 1 := w64 (by omega) (by omega)
    rw [e]
    refine ev_ite (fun hp => ev_pos (by omega) (ev_pos (by omega) (ev_ite (fun _ => ev_some rfl) fun hq => ?_))) fun hp => ?_
    · exact absurd ⟨of_decide_eq_true h0, of_decide_eq_true h1, of_decide_eq_true h2, of_decide_eq_true h3, fun _ => by omega⟩ ho
    · exact absurd ⟨of_decide_eq_true h0, of_decide_eq_true h1, of_decide_eq_true h2, of_decide_eq_true h3, fun _ => by omega⟩ ho
theorem things_same (xs : List S36) (hx : xs.length ≤ 4611686018427387903) : ∃ b, Ev (fun k => spec_GoodThings.f k xs) b ∧ Ev (fun k => impl_GoodThings.f k xs) b ∧ (b = true ↔ ThingsOk xs) := by
  obtain ⟨b, hb⟩ := bool_of (ThingsOk xs)
  exact ⟨b, things_spec xs b hb, things_impl xs hx b hb, hb⟩
/-! ### the law's own helpers over things -/
def cvThing (x : S246) : S36 := ⟨x.f0, x.f1, x.f2, x.f3⟩
theorem szThingS_some (xs : List S246) (left : Int) (h0 : 0 ≤ left) (h1 : left ≤ 4611686018427387904) (hl : xs.length ≤ 4611686018427387903) : (∃ r, laws_szThingS.f xs left = some r ∧ r < 0) ∨ ∃ r, laws_szThingS.f xs left = some r ∧ 0 ≤ r ∧ r + (xs.length : Int) = left := by
  unfold laws_szThingS.f
  rw [w64 (n := left - (xs.length : Int)) (by omega) (by omega)]
  by_cases h : left - (xs.length : Int) < 0
  · exact .inl ⟨-1, if_pos h, by omega⟩
  · exact .inr ⟨_, if_neg h, by omega, by omega⟩
theorem toThingS_ev (xs : List S246) (h : xs.length ≤ 1048576) : Ev (fun k => laws_toThingS.f k xs) (xs.map cvThing) := by
  refine ev_pos (by omega) (ev_pos (by omega) ?_)
  exact ev_copy laws_toThingS.l0 (fun _ xs i => some (cvThing (rd_T246 xs i))) cvThing (fun k xs ys i => by
    simp only [laws_toThingS.l0, laws_toThing.f, Option.bind_some, cvThing]) xs (by omega) (fun i hi => ev_some (by rw [rd_T246, getD_get hi])) _ (by simp)
theorem eqThing_self (a b c d : Int) : laws_eqThing.f a b c d a b c d = some true := by simp [laws_eqThing.f]
theorem eqThingS_ev (xs : List S36) (h : xs.length ≤ 1048576) : Ev (fun k => laws_eqThingS.f k xs xs) true := by
  refine ev_pos rfl ?_
  exact ev_alike_self laws_eqThingS.l0 (fun _ xs ys i => laws_eqThing.f ((rd_T36 xs i).f0) ((rd_T36 xs i).f1) ((rd_T36 xs i).f2) ((rd_T36 xs i).f3) ((rd_T36 ys i).f0) ((rd_T36 ys i).f1) ((rd_T36 ys i).f2) ((rd_T36 ys i).f3)) (fun _ _ _ _ => rfl) xs (by omega) (fun i hi => ev_eq (eqThing_self _ _ _ _))
theorem szThingSS_some (xs : List (List S246)) (hx : xs.length ≤ 4611686018427387903) (hy : ∀ y ∈ xs, y.length ≤ 4611686018427387903) (left : Int) (h0 : 0 ≤ left) (h1 : left ≤ 1048576) :
    ∃ r, Ev (fun k => laws_szThingSS.f k xs left) r ∧ (r < 0 ∨ 0 ≤ r ∧ r ≤ left ∧ xs.length ≤ 1048576 ∧ ∀ y ∈ xs, y.length ≤ 1048576) := by
  unfold laws_szThingSS.f
  rw [w64 (n := left - (xs.length : Int)) (by omega) (by omega)]
  refine exev_ite (fun _ => exev_some (.inl (by omega))) fun hc => ?_
  obtain ⟨r, hr, hq⟩ := ev_size laws_szThingSS.l0 (fun _ xs c i => laws_szThingS.f (rd_L2 xs i) c) (fun y => y.length ≤ 1048576) (fun _ _ _ _ => rfl) xs (by omega) (left - (xs.length : Int)) (by omega) (by
    intro i hi c h0 h1
    have e : rd_L2 xs (i : Int) = xs[i] := getD_get hi
    rw [e]
    rcases szThingS_some xs[i] c h0 (by omega) (hy _ (List.getElem_mem hi)) with ⟨r, hr, h⟩ | ⟨r, hr, h, hx⟩
    · exact ⟨r, ev_eq hr, .inl h⟩
    · exact ⟨r, ev_eq hr, .inr ⟨h, by omega, by omega⟩⟩)
  refine ⟨r, hr, ?_⟩
  rcases hq with hq | ⟨q0, q1, q2⟩
  · exact .inl hq
  · exact .inr ⟨q0, by omega, by omega, q2⟩
theorem toThingSS_ev (xs : List (List S246)) (h : xs.length ≤ 1048576) (hy : ∀ y ∈ xs, y.length ≤ 1048576) : Ev (fun k => laws_toThingSS.f k xs) (xs.map fun y => y.map cvThing) := by
  refine ev_pos (by omega) (ev_pos (by omega) ?_)
  exact ev_copy2 laws_toThingSS.l0 (fun k xs i => laws_toThingS.f k (rd_L2 xs i)) id (fun y => y.map cvThing) (fun _ _ _ _ => rfl) xs (by omega) (fun i hi => by
    have e : rd_L2 xs (i : Int) = xs[i] := getD_get hi
    rw [e]
    exact ⟨_, toThingS_ev _ (hy _ (List.getElem_mem hi)), rfl⟩) _ (by simp)
theorem eqThingSS_ev (xs : List (List S36)) (h : xs.length ≤ 1048576) (hy : ∀ y ∈ xs, y.length ≤ 1048576) : Ev (fun k => laws_eqThingSS.f k xs xs) true := by
  refine ev_pos rfl ?_
  exact ev_alike_self laws_eqThingSS.l0 (fun k xs ys i => laws_eqThingS.f k (rd_L4 xs i) (rd_L4 ys i)) (fun _ _ _ _ => rfl) xs (by omega) (fun i hi => by
    have e : rd_L4 xs (i : Int) = xs[i] := getD_get hi
    rw [e]
    exact eqThingS_ev _ (hy _ (List.getElem_mem hi)))
/-! ### a thing found by its number: one looks at each in turn, the other halves -/
theorem rising {l : List S36} (h : ThingsOk l) : ∀ d i : Nat, i + d + 1 < l.length → (rd_T36 l (i : Int)).f0 < (rd_T36 l ((i + d + 1 : Nat) : Int)).f0 := by
  intro d
  induction d with
  | zero =>
    intro i hi
    have := (h.2 (i + 1) (by omega)).2.2.2.2 (by omega)
    have e : (((i + 1 : Nat) : Int) - 1) = (i : Int) := by omega
    rw [e] at this
    exact this
  | succ d ih =>
    intro i hi
    have h1 := ih i (by omega)
    have h2 := (h.2 (i + d + 1 + 1) (by omega)).2.2.2.2 (by omega)
    have e : (((i + d + 1 + 1 : Nat) : Int) - 1) = ((i + d + 1 : Nat) : Int) := by omega
    rw [e] at h2
    exact Int.lt_trans h1 h2
theorem rises {l : List S36} (h : ThingsOk l) (i j : Nat) (hij : i < j) (hj : j < l.length) : (rd_T36 l (i : Int)).f0 < (rd_T36 l (j : Int)).f0 := by
  obtain ⟨d, rfl⟩ : ∃ d, j = i + d + 1 := ⟨j - i - 1, by omega⟩
  exact rising h d i hj
theorem l23_ev (l : List S36) (hl : l.length ≤ 40) (id : Int) :
    ∃ r, Ev (fun k => spec_l23At.f k l id) r ∧ ((r = -1 ∧ ∀ i : Nat, i < l.length → (rd_T36 l (i : Int)).f0 ≠ id) ∨ ∃ i : Nat, i < l.length ∧ r = (i : Int) ∧ (rd_T36 l (i : Int)).f0 = id) := by
  refine ev_for l.length (fun k i (_ : Unit) => spec_l23At.l0 k id l (l.length : Int) (i : Int)) (fun i _ => ∀ j : Nat, j < i → (rd_T36 l (j : Int)).f0 ≠ id)
    (fun r => (r = -1 ∧ ∀ i : Nat, i < l.length → (rd_T36 l (i : Int)).f0 ≠ id) ∨ ∃ i : Nat, i < l.length ∧ r = (i : Int) ∧ (rd_T36 l (i : Int)).f0 = id) ?_ ?_ 0 () (Nat.zero_le _) (fun j hj => by omega)
  · intro _ h
    exact ⟨-1, st_spec_l23At_l0 (ev_neg (by omega) (ev_some rfl)), .inl ⟨rfl, h⟩⟩
  · intro i _ hi h
    by_cases he : (rd_T36 l (i : Int)).f0 = id
    · exact .inl ⟨_, st_spec_l23At_l0 (ev_pos (by omega) (ev_pos (by omega) (ev_pos (by omega) (ev_pos he (ev_some rfl))))), .inr ⟨i, hi, rfl, he⟩⟩
    · refine .inr ⟨(), fun j hj => ?_, fun r hr => st_spec_l23At_l0 (ev_pos (by omega) (ev_pos (by omega) (ev_pos (by omega) (ev_neg he ?_))))⟩
      · rcases Nat.lt_or_ge j i with h1 | h1
        · exact h j h1
        · obtain rfl : j = i := by omega
          exact he
      · rw [w64s i (by omega)]
        exact hr
theorem wrap_zero {n : Int} (h0 : -9223372036854775808 ≤ n) (h1 : n ≤ 9223372036854776063) : wrap64 n = 0 ↔ n = 0 := by unfold wrap64; omega
theorem mid_of (lo hi : Nat) (h : lo ≤ 40) (k : hi ≤ 40) : wrap64 ((IntKind.u64.wrap (wrap64 ((lo : Int) + (hi : Int)))) / 2) = (((lo + hi) / 2 : Nat) : Int) := by
  rw [w64 (n := (lo : Int) + (hi : Int)) (by omega) (by omega), wrap_u64 (by omega) (by omega), w64 (by omega) (by omega)]
  omega
theorem halves (l : List S36) (hok : ThingsOk l) (id : Int) (hb0 : -9223372036854775808 ≤ id) (hb1 : id ≤ 9223372036854775807) :
    ∀ d lo hi : Nat, hi - lo ≤ d → lo ≤ hi → hi ≤ l.length → (0 ≤ id → (∀ i : Nat, i < lo → (rd_T36 l (i : Int)).f0 < id) ∧ (∀ i : Nat, hi ≤ i → i < l.length → id ≤ (rd_T36 l (i : Int)).f0)) →
    ∃ (p : Nat) (b : Bool), Ev (fun k => slices_BinarySearchFunc_w240.l0 k l id (l.length : Int) (lo : Int) (hi : Int)) ((p : Int), b) ∧ (b = true → p < l.length ∧ (rd_T36 l (p : Int)).f0 = id) ∧ (∀ i : Nat, i < l.length → (rd_T36 l (i : Int)).f0 = id → b = true) := by
  have hl := hok.1
  have hr : ∀ i : Nat, i < l.length → 0 ≤ (rd_T36 l (i : Int)).f0 ∧ (rd_T36 l (i : Int)).f0 ≤ 255 := fun i hi => (hok.2 i hi).1
  intro d
  induction d with
  | zero =>
    intro lo hi hd hle hhl hinv
    obtain rfl : lo = hi := by omega
    by_cases hlt : lo < l.length
    · refine ⟨lo, _, st_slices_BinarySearchFunc_w240_l0 (ev_neg (by omega) (ev_pos (by omega) (ev_pos (by omega) (ev_pos (by omega) (ev_bindc rfl (ev_some rfl)))))), fun h => ?_, fun i hi hid => ?_⟩
      · have h := eq_of_beq h
        have q := hr lo hlt
        rw [wrap_zero (by omega) (by omega)] at h
        exact ⟨hlt, by omega⟩
      · have q := hr i hi
        obtain ⟨g1, g2⟩ := hinv (by omega)
        have : ¬ i < lo := fun h => by have := g1 i h; omega
        have : i = lo := by
          rcases Nat.lt_or_ge lo i with h | h
          · have h1 := rises hok lo i h hi
            have h2 := g2 lo (Nat.le_refl _) hlt
            omega
          · omega
        subst this
        rw [hid]
        simp [wrap64]
    · refine ⟨lo, false, st_slices_BinarySearchFunc_w240_l0 (ev_neg (by omega) (ev_neg (by omega) (ev_some rfl))), fun h => by simp at h, fun i hi hid => ?_⟩
      have q := hr i hi
      have := (hinv (by omega)).1 i (by omega)
      omega
  | succ d ih =>
    intro lo hi hd hle hhl hinv
    by_cases he : lo = hi
    · exact ih lo hi (by omega) hle hhl hinv
    · have em := mid_of lo hi (by omega) (by omega)
      have hm1 : (lo + hi) / 2 < hi := by omega
      have hm0 : lo ≤ (lo + hi) / 2 := by omega
      generalize (lo + hi) / 2 = m at em hm1 hm0
      have q := hr m (by omega)
      by_cases hc : wrap64 ((rd_T36 l (m : Int)).f0 - id) < 0
      · obtain ⟨p, b, h1, h2, h3⟩ := ih (m + 1) hi (by omega) (by omega) hhl (fun h0 => ⟨fun i hi' => by
          rw [w64 (by omega) (by omega)] at hc
          rcases Nat.lt_or_ge i m with h | h
          · have := rises hok i m h (by omega)
            omega
          · obtain rfl : i = m := by omega
            omega, (hinv h0).2⟩)
        refine ⟨p, b, st_slices_BinarySearchFunc_w240_l0 (ev_pos (by omega) ?_), h2, h3⟩
        rw [em]
        refine ev_pos (by omega) (ev_pos (by omega) (ev_bindc rfl (ev_pos hc ?_)))
        rw [w64s m (by omega)]
        exact h1
      · obtain ⟨p, b, h1, h2, h3⟩ := ih lo m (by omega) (by omega) (by omega) (fun h0 => ⟨(hinv h0).1, fun i hi' hil => by
          rw [w64 (by omega) (by omega)] at hc
          rcases Nat.lt_or_ge m i with h | h
          · have := rises hok m i h hil
            omega
          · obtain rfl : i = m := by omega
            omega⟩)
        refine ⟨p, b, st_slices_BinarySearchFunc_w240_l0 (ev_pos (by omega) ?_), h2, h3⟩
        rw [em]
        exact ev_pos (by omega) (ev_pos (by omega) (ev_bindc rfl (ev_neg hc h1)))
theorem at_same (l : List S36) (hok : ThingsOk l) (id : Int) (hb0 : -9223372036854775808 ≤ id) (hb1 : id ≤ 9223372036854775807) :
    ∃ R, Ev (fun k => impl_thingAt.f k l id) R ∧ Ev (fun k => (spec_l23At.f k l id).bind fun t => (if t < 0 then (some (0, 0, 0, 0, false)) else (if 0 ≤ t then (if t < (l.length : Int) then (some ((rd_T36 l t).f0, (rd_T36 l t).f1, (rd_T36 l t).f2, (rd_T36 l t).f3, true)) else (none)) else (none)))) R := by
  obtain ⟨r, hr, h⟩ := l23_ev l hok.1 id
  obtain ⟨p, b, h1, h2, h3⟩ := halves l hok id hb0 hb1 l.length 0 l.length (by omega) (by omega) (Nat.le_refl _) (fun _ => ⟨fun i hi => by omega, fun i h h' => by omega⟩)
  have hp : Ev (fun k => impl_thingPlace.f k l id) ((p : Int), b) := Ev.bind h1 (ev_some rfl)
  rcases h with ⟨rfl, hno⟩ | ⟨i, hi, rfl, hid⟩
  · have hb : b = false := by
      cases b with
      | false => rfl
      | true => exact absurd (h2 rfl).2 (hno p (h2 rfl).1)
    subst hb
    exact ⟨(0, 0, 0, 0, false), Ev.bind hp (ev_neg (by simp) (ev_some rfl)), Ev.bind hr (ev_pos (by omega) (ev_some rfl))⟩
  · have hb := h3 i hi hid
    subst hb
    obtain ⟨hpl, hpid⟩ := h2 rfl
    have : p = i := by
      rcases Nat.lt_trichotomy p i with h | h | h
      · have := rises hok p i h hi
        omega
      · exact h
      · have := rises hok i p h hpl
        omega
    subst this
    exact ⟨_, Ev.bind hp (ev_pos rfl (ev_pos (by omega) (ev_pos (by omega) (ev_some rfl)))), Ev.bind hr (ev_neg (by omega) (ev_pos (by omega) (ev_pos (by omega) (ev_some rfl))))⟩
/-! ### the world as it was seen -/
theorem ago_loop (xs : List (List S36)) (hx : xs.length ≤ 1048576) (a b : Int) (r : Int × Int × Int × Int × Bool)
    (hend : (∀ i, ∀ hi : i < xs.length, ThingsOk xs[i]) → Ev (fun k => spec_SeenAgo.l0 k xs a b xs (xs.length : Int) (xs.length : Int)) r)
    (hbad : ¬ (∀ i, ∀ hi : i < xs.length, ThingsOk xs[i]) → r = (0, 0, 0, 0, false)) :
    Ev (fun k => spec_SeenAgo.l0 k xs a b xs (xs.length : Int) 0) r := by
  refine ev_for1 xs.length (fun k i (_ : Unit) => spec_SeenAgo.l0 k xs a b xs (xs.length : Int) (i : Int)) (fun i _ => ∀ j, j < i → ∀ hj : j < xs.length, ThingsOk xs[j]) r ?_ ?_ 0 () (Nat.zero_le _) (fun j hj => by omega)
  · intro _ h
    exact hend fun i hi => h i hi hi
  · intro i _ hi h
    have e : rd_L4 xs (i : Int) = xs[i] := getD_get hi
    by_cases ho : ThingsOk xs[i]
    · refine .inr ⟨(), fun j hj hj' => ?_, fun r hr => ?_⟩
      · rcases Nat.lt_or_ge j i with h1 | h1
        · exact h j h1 hj'
        · obtain rfl : j = i := by omega
          exact ho
      · refine st_spec_SeenAgo_l0 (ev_pos (by omega) (ev_pos (by omega) (ev_pos (by omega) ?_)))
        rw [e, w64s i (by omega)]
        exact Ev.bind (things_spec _ true ⟨fun _ => ho, fun _ => rfl⟩) (ev_pos rfl hr)
    · refine .inl (st_spec_SeenAgo_l0 (ev_pos (by omega) (ev_pos (by omega) (ev_pos (by omega) ?_))))
      rw [e]
      refine Ev.bind (things_spec _ false ⟨fun h => by simp at h, fun h => absurd h ho⟩) (ev_neg (by simp) (ev_some ?_))
      exact (hbad fun h => ho (h i hi)).symm
theorem ago_same (xs : List (List S36)) (hx : xs.length ≤ 1048576) (hy : ∀ y ∈ xs, y.length ≤ 1048576) (a b : Int) (hb0 : -9223372036854775808 ≤ b) (hb1 : b ≤ 9223372036854775807) :
    ∃ r, Ev (fun k => spec_SeenAgo.f k xs a b) r ∧ Ev (fun k => impl_SeenAgo.f k xs a b) r := by
  have e : wrap64 ((xs.length : Int) - 1) = (xs.length : Int) - 1 := w64 (by omega) (by omega)
  by_cases h1 : (xs.length : Int) < 1
  · exact ⟨(0, 0, 0, 0, false), ev_pos h1 (st_spec_SeenAgo_j0 (ev_pos rfl (ev_some rfl))), ev_bindc (inr_some _ _ _) (ev_neg (by simp; omega) (ev_some rfl))⟩
  by_cases h2 : (xs.length : Int) > 40
  · exact ⟨(0, 0, 0, 0, false), ev_neg h1 (ev_pos h2 (st_spec_SeenAgo_j0 (ev_pos rfl (ev_some rfl)))), ev_bindc (inr_some _ _ _) (ev_neg (by simp; omega) (ev_some rfl))⟩
  by_cases h3 : 0 ≤ a ∧ a ≤ wrap64 ((xs.length : Int) - 1)
  case neg =>
    exact ⟨(0, 0, 0, 0, false), ev_neg h1 (ev_neg h2 (ev_bindc (in_some _ _ _) (st_spec_SeenAgo_j0 (ev_pos (by rw [decide_eq_false h3]; rfl) (ev_some rfl))))), ev_bindc (inr_some _ _ _) (ev_pos (by simp; omega) (ev_bindc (inr_some _ _ _) (ev_neg (by rw [decide_eq_false h3]; simp) (ev_some rfl))))⟩
  obtain ⟨p, hp, hpl⟩ : ∃ p : Nat, wrap64 (wrap64 ((xs.length : Int) - 1) - a) = (p : Int) ∧ p < xs.length := by
    refine ⟨((xs.length : Int) - 1 - a).toNat, ?_, by omega⟩
    rw [e, w64 (by omega) (by omega)]
    omega
  have ep : rd_L4 xs (p : Int) = xs[p] := getD_get hpl
  have hsome : ∀ i : Nat, ∃ c : Bool, c = true ↔ ThingsOk (rd_L4 xs (i : Int)) := fun i => bool_of _
  obtain ⟨P, hP⟩ := Classical.axiomOfChoice hsome
  have hc : ∀ c : Bool, (c = true ↔ ∃ i, i < xs.length ∧ (!P i) = true) → Ev (fun k => slices_ContainsFunc_w102.f k xs) c := fun c hc =>
    ev_contains slices_IndexFunc_w102.l0 (fun k xs i => impl_SeenAgo_1.f k (rd_L4 xs i)) (fun _ _ _ _ => rfl) xs (by omega) (fun i => !P i)
      (fun i hi => Ev.bind (things_impl _ (by have e : rd_L4 xs (i : Int) = xs[i] := getD_get hi
                                              rw [e]
                                              have := hy _ (List.getElem_mem hi)
                                              omega) (P i) (hP i)) (ev_some rfl)) c hc
  have hspec : ∀ r, Ev (fun k => spec_SeenAgo.l0 k xs a b xs (xs.length : Int) 0) r → Ev (fun k => spec_SeenAgo.f k xs a b) r := fun r hr =>
    ev_neg h1 (ev_neg h2 (ev_bindc (in_some _ _ _) (st_spec_SeenAgo_j0 (ev_neg (by rw [decide_eq_true h3]; simp) hr))))
  have himpl : ∀ r, Ev (fun k => (slices_ContainsFunc_w102.f k xs).bind fun t164 => (if t164 = true then (some (0, 0, 0, 0, false)) else (if 0 ≤ (wrap64 ((wrap64 ((xs.length : Int) - 1)) - a)) then (if (wrap64 ((wrap64 ((xs.length : Int) - 1)) - a)) < (xs.length : Int) then ((impl_thingAt.f k (rd_L4 xs (wrap64 ((wrap64 ((xs.length : Int) - 1)) - a))) b).bind fun bt166 => (some (bt166.1, bt166.2.1, bt166.2.2.1, bt166.2.2.2.1, bt166.2.2.2.2))) else (none)) else (none)))) r → Ev (fun k => impl_SeenAgo.f k xs a b) r := fun r hr =>
    ev_bindc (inr_some _ _ _) (ev_pos (by simp; omega) (ev_bindc (inr_some _ _ _) (ev_pos (decide_eq_true h3) hr)))
  by_cases hall : ∀ i, ∀ hi : i < xs.length, ThingsOk xs[i]
  · obtain ⟨R, hR1, hR2⟩ := at_same xs[p] (hall p hpl) b hb0 hb1
    refine ⟨R, hspec _ (ago_loop xs hx a b R (fun _ => ?_) (fun h => absurd hall h)), himpl _ ?_⟩
    · refine st_spec_SeenAgo_l0 (ev_neg (by omega) ?_)
      rw [hp, ep]
      exact ev_pos (by omega) (ev_pos (by omega) hR2)
    · refine Ev.bind (hc false ⟨fun h => by simp at h, fun ⟨i, hi, h⟩ => ?_⟩) (ev_neg (by simp) ?_)
      · have e : rd_L4 xs (i : Int) = xs[i] := getD_get hi
        have := (hP i).2 (by rw [e]; exact hall i hi)
        rw [this] at h
        simp at h
      · rw [hp, ep]
        exact ev_pos (by omega) (ev_pos (by omega) (Ev.bind hR1 (ev_some rfl)))
  · refine ⟨(0, 0, 0, 0, false), hspec _ (ago_loop xs hx a b _ (fun h => absurd h hall) (fun _ => rfl)), himpl _ ?_⟩
    refine Ev.bind (hc true ⟨fun _ => ?_, fun _ => rfl⟩) (ev_pos rfl (ev_some rfl))
    refine Classical.byContradiction fun hno => hall fun i hi => ?_
    have e : rd_L4 xs (i : Int) = xs[i] := getD_get hi
    rw [← e]
    refine (hP i).1 ?_
    cases hPi : P i with
    | true => rfl
    | false => exact absurd ⟨i, hi, by rw [hPi]; rfl⟩ hno
theorem FnExactSeenAgo : ∀ (l0 : List (List S246)) (a1 : Int) (a2 : Int), (l0.length * 24 ≤ 140737488351232 ∧ ∀ y ∈ l0, y.length * 32 ≤ 140737488351232 ∧ ∀ z ∈ y, Ok246 z) → (In64 a1) → (In64 a2) → ∃ k, laws_FnExactSeenAgo.f k l0 a1 a2 = some true := by
  intro xs a b ⟨hl, hg⟩ ha hb
  refine Ev.rounds (g := fun k => laws_FnExactSeenAgo.f k xs a b) ?_
  obtain ⟨r, hr, h⟩ := szThingSS_some xs (by omega) (fun y hy => by have := (hg y hy).1; omega) 1048576 (by omega) (by omega)
  rcases h with h | ⟨h0, h1, h2, h3⟩
  · exact Ev.bind hr (ev_pos h (ev_some rfl))
  · have tx := toThingSS_ev xs (by omega) h3
    have l1 : (xs.map fun y => y.map cvThing).length ≤ 1048576 := by rw [List.length_map]; omega
    have l2 : ∀ y ∈ (xs.map fun y => y.map cvThing), y.length ≤ 1048576 := by
      intro y hy
      obtain ⟨z, hz, rfl⟩ := List.mem_map.1 hy
      rw [List.length_map]
      exact h3 z hz
    have hb' := hb
    unfold In64 at hb'
    obtain ⟨R, hs, hi⟩ := ago_same (xs.map fun y => y.map cvThing) l1 l2 a b (by omega) (by omega)
    refine Ev.bind hr (ev_neg (by omega) (Ev.bind tx (Ev.bind hs (Ev.bind tx (Ev.bind hi (ev_bindc (eqThing_self _ _ _ _) (ev_pos rfl (st_laws_FnExactSeenAgo_j0 (ev_neg (by simp) (Ev.bind tx (Ev.bind (eqThingSS_ev _ l1 l2) (ev_pos rfl (ev_some rfl)))))))))))))
end Go.Proofs.Ytligkajfedkldaa.Pure
