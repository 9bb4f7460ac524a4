/- The law FnExactNextHost over a plain list of bools: it answers true. No condition beyond the numbers' own kinds and what fits in memory. -/
import Derived.Test.YtijfjlpoihhkbaaPFnExactNextHostx2
import Derived.Test.YtijfjlpoihhkbaaPlain
namespace Go.Proofs.Ytijfjlpoihhkbaa.Pure
open Go.RowKit Go.Proofs.Ytijfjlpoihhkbaa.PFnExactNextHost Go.Proofs.YtijfjlpoihhkbaaW.PrintWords Go.Proofs.YtijfjlpoihhkbaaW.PrintLast Go.Proofs.YtijfjlpoihhkbaaW.PrintMore Go.Proofs.YtijfjlpoihhkbaaO

theorem st_spec_NextHost_j0 {r : (Int × Bool)} {x0 : List Bool} {x1 : Int} {x23 : Bool} (h : Ev (fun k => if x23 = true then (some (0, false)) else (spec_NextHost.l0 k x0 x1 0)) r) : Ev (fun k => spec_NextHost.j0 k x0 x1 x23) r := Ev.step (fun k => by rw [spec_NextHost.j0]) h
theorem st_spec_NextHost_l0 {r : (Int × Bool)} {x0 : List Bool} {x1 : Int} {x6 : Int} (h : Ev (fun k => if x6 < (x0.length : Int) then (if (x0.length : Int) = 0 then (none) else (if 0 ≤ (Int.tmod (wrap64 (x1 + x6)) (x0.length : Int)) then (if (Int.tmod (wrap64 (x1 + x6)) (x0.length : Int)) < (x0.length : Int) then (if rdOf false x0 (Int.tmod (wrap64 (x1 + x6)) (x0.length : Int)) = true then (some (Int.tmod (wrap64 (x1 + x6)) (x0.length : Int), true)) else (spec_NextHost.l0 k x0 x1 (wrap64 (x6 + 1)))) else (none)) else (none))) else (some ((-1), true))) r) : Ev (fun k => spec_NextHost.l0 k x0 x1 x6) r := Ev.step (fun k => by rw [spec_NextHost.l0]) h
theorem st_laws_toBoolS_l0 {r : (List Bool)} {x0 : List Bool} {x3 : List Bool} {x4 : Int} (h : Ev (fun k => if x4 < (x0.length : Int) then (if 0 ≤ x4 then (if x4 < (x3.length : Int) then (laws_toBoolS.l0 k x0 (x3.set (x4 : Int).toNat (rdOf false x0 x4)) (wrap64 (x4 + 1))) else (none)) else (none)) else (some x3)) r) : Ev (fun k => laws_toBoolS.l0 k x0 x3 x4) r := Ev.step (fun k => by rw [laws_toBoolS.l0]) h
theorem st_impl_NextHost_j0 {r : (Int × Bool)} {x0 : List Bool} {x1 : Int} {x19 : Bool} (h : Ev (fun k => if x19 = true then (some (0, false)) else (impl_NextHost.l0 k x0 x1 (x0.length : Int) 0)) r) : Ev (fun k => impl_NextHost.j0 k x0 x1 x19) r := Ev.step (fun k => by rw [impl_NextHost.j0]) h
theorem st_impl_NextHost_l0 {r : (Int × Bool)} {x0 : List Bool} {x1 : Int} {x21 : Int} {x22 : Int} (h : Ev (fun k => if x22 < x21 then (if (x0.length : Int) = 0 then (none) else (if 0 ≤ (Int.tmod (wrap64 (x1 + x22)) (x0.length : Int)) then (if (Int.tmod (wrap64 (x1 + x22)) (x0.length : Int)) < (x0.length : Int) then (if rdOf false x0 (Int.tmod (wrap64 (x1 + x22)) (x0.length : Int)) = true then (some (Int.tmod (wrap64 (x1 + x22)) (x0.length : Int), true)) else (impl_NextHost.l0 k x0 x1 x21 (wrap64 (x22 + 1)))) else (none)) else (none))) else (some ((-1), true))) r) : Ev (fun k => impl_NextHost.l0 k x0 x1 x21 x22) r := Ev.step (fun k => by rw [impl_NextHost.l0]) h
theorem st_laws_eqBoolS_l0 {r : (Bool)} {x0 : List Bool} {x1 : List Bool} {x5 : Int} (h : Ev (fun k => if x5 < (x0.length : Int) then (if 0 ≤ x5 then (if x5 < (x1.length : Int) then (if ((rdOf false x0 x5) != (rdOf false x1 x5)) = true then (some false) else (laws_eqBoolS.l0 k x0 x1 (wrap64 (x5 + 1)))) else (none)) else (none)) else (some true)) r) : Ev (fun k => laws_eqBoolS.l0 k x0 x1 x5) r := Ev.step (fun k => by rw [laws_eqBoolS.l0]) h
theorem st_laws_FnExactNextHost_j0 {r : (Bool)} {x0 : List Bool} {x7 : List Bool} {x35 : Bool} (h : Ev (fun k => if x35 = true then (some false) else ((laws_toBoolS.f k x0).bind fun t123 => ((laws_eqBoolS.f k x7 t123).bind fun t126 => (if t126 = true then (some true) else (some false))))) r) : Ev (fun k => laws_FnExactNextHost.j0 k x0 x7 x35) r := Ev.step (fun k => by rw [laws_FnExactNextHost.j0]) h
theorem in_same (a b c : Int) : impl_inRange.f a b c = spec_l1In.f a b c := rfl
theorem in_some (a b c : Int) : spec_l1In.f a b c = some (decide (b ≤ a ∧ a ≤ c)) := by
  unfold spec_l1In.f
  split <;> simp_all <;> omega
theorem toBoolS_ev (xs : List Bool) (h : xs.length ≤ 1048576) : Ev (fun k => laws_toBoolS.f k xs) xs := by
  refine ev_pos (by omega) (ev_pos (by omega) ?_)
  have := ev_copy laws_toBoolS.l0 (fun _ xs i => some (rdOf false xs i)) id (fun _ _ _ _ => rfl) xs (by omega) (fun i hi => ev_some (rdOf_get hi)) (List.replicate (((xs.length : Int) : Int).toNat) false) (by simp)
  rwa [List.map_id] at this
theorem eqBoolS_ev (xs : List Bool) (h : xs.length ≤ 1048576) : Ev (fun k => laws_eqBoolS.f k xs xs) true := by
  refine ev_pos rfl ?_
  exact ev_alike_self laws_eqBoolS.l0 (fun _ xs ys i => some (rdOf false xs i == rdOf false ys i)) (fun k xs ys i => by
    simp only [laws_eqBoolS.l0, Option.bind_some]
    cases rdOf false xs i <;> cases rdOf false ys i <;> rfl) xs (by omega) (fun i hi => ev_some (by simp))
theorem loops (xs : List Bool) (h : Int) (hn : xs.length ≤ 4) (h0 : 0 ≤ h) (h1 : h < xs.length) : ∀ d i : Nat, xs.length = i + d → ∃ w, Ev (fun k => spec_NextHost.l0 k xs h (i : Int)) w ∧ Ev (fun k => impl_NextHost.l0 k xs h (xs.length : Int) (i : Int)) w := by
  intro d
  induction d with
  | zero =>
    intro i hi
    exact ⟨(-1, true), st_spec_NextHost_l0 (ev_neg (by omega) (ev_some rfl)), st_impl_NextHost_l0 (ev_neg (by omega) (ev_some rfl))⟩
  | succ d ih =>
    intro i hi
    obtain ⟨w, hs, hm⟩ := ih (i + 1) (by omega)
    have e : wrap64 (h + (i : Int)) = h + i := w64 (by omega) (by omega)
    have p0 : 0 ≤ Int.tmod (wrap64 (h + (i : Int))) (xs.length : Int) := by rw [e]; exact Int.tmod_nonneg _ (by omega)
    have p1 : Int.tmod (wrap64 (h + (i : Int))) (xs.length : Int) < (xs.length : Int) := by rw [e]; exact Int.tmod_lt_of_pos _ (by omega)
    by_cases hb : rdOf false xs (Int.tmod (wrap64 (h + (i : Int))) (xs.length : Int)) = true
    · exact ⟨_, st_spec_NextHost_l0 (ev_pos (by omega) (ev_neg (by omega) (ev_pos p0 (ev_pos p1 (ev_pos hb (ev_some rfl)))))), st_impl_NextHost_l0 (ev_pos (by omega) (ev_neg (by omega) (ev_pos p0 (ev_pos p1 (ev_pos hb (ev_some rfl))))))⟩
    · refine ⟨w, st_spec_NextHost_l0 (ev_pos (by omega) (ev_neg (by omega) (ev_pos p0 (ev_pos p1 (ev_neg hb ?_))))), st_impl_NextHost_l0 (ev_pos (by omega) (ev_neg (by omega) (ev_pos p0 (ev_pos p1 (ev_neg hb ?_)))))⟩
      · rw [w64s i (by omega)]; exact hs
      · rw [w64s i (by omega)]; exact hm
theorem same (xs : List Bool) (h : Int) (hl : xs.length ≤ 1048576) : ∃ w, Ev (fun k => spec_NextHost.f k xs h) w ∧ Ev (fun k => impl_NextHost.f k xs h) w := by
  have s0t : Ev (fun k => spec_NextHost.j0 k xs h true) (0, false) := st_spec_NextHost_j0 (ev_pos rfl (ev_some rfl))
  have i0t : Ev (fun k => impl_NextHost.j0 k xs h true) (0, false) := st_impl_NextHost_j0 (ev_pos rfl (ev_some rfl))
  by_cases h1 : (xs.length : Int) < 1
  · refine ⟨_, ev_pos h1 s0t, ev_bindc (in_some _ _ _) (ev_neg (by simp; omega) i0t)⟩
  · by_cases h4 : (xs.length : Int) > 4
    · exact ⟨_, ev_neg h1 (ev_pos h4 s0t), ev_bindc (in_some _ _ _) (ev_neg (by simp; omega) i0t)⟩
    · have e : wrap64 ((xs.length : Int) - 1) = xs.length - 1 := w64 (by omega) (by omega)
      by_cases hr : 0 ≤ h ∧ h ≤ (xs.length : Int) - 1
      · obtain ⟨w, hs, hi⟩ := loops xs h (by omega) hr.1 (by omega) xs.length 0 (by omega)
        have hd : decide (0 ≤ h ∧ h ≤ wrap64 ((xs.length : Int) - 1)) = true := by rw [e]; simpa using hr
        refine ⟨w, ev_neg h1 (ev_neg h4 (ev_bindc (in_some _ _ _) ?_)), ev_bindc (in_some _ _ _) (ev_pos (by simp; omega) (ev_bindc (in_some _ _ _) ?_))⟩
        · rw [hd]; exact st_spec_NextHost_j0 (ev_neg (by decide) hs)
        · rw [hd]; exact st_impl_NextHost_j0 (ev_neg (by decide) hi)
      · have hd : decide (0 ≤ h ∧ h ≤ wrap64 ((xs.length : Int) - 1)) = false := by rw [e]; simpa using hr
        refine ⟨(0, false), ev_neg h1 (ev_neg h4 (ev_bindc (in_some _ _ _) ?_)), ev_bindc (in_some _ _ _) (ev_pos (by simp; omega) (ev_bindc (in_some _ _ _) ?_))⟩
        · rw [hd]; exact s0t
        · rw [hd]; exact i0t
theorem FnExactNextHost : ∀ (l0 : List (Bool)) (a1 : Int), (l0.length * 1 ≤ 140737488351232 ∧ ∀ y ∈ l0, True) → (In64 a1) → ∃ k, laws_FnExactNextHost.f k l0 a1 = some true := by
  intro xs h _ _
  refine Ev.rounds (g := fun k => laws_FnExactNextHost.f k xs h) (ev_ite (fun _ => ev_some rfl) fun hx => ?_)
  have tx := toBoolS_ev xs (by omega)
  obtain ⟨w, hs, hi⟩ := same xs h (by omega)
  refine Ev.bind tx (Ev.bind hs (Ev.bind tx (Ev.bind hi (ev_pos rfl ?_))))
  have e : (w.2 != w.2) = false := by simp
  rw [e]
  exact st_laws_FnExactNextHost_j0 (ev_neg (by decide) (Ev.bind tx (Ev.bind (eqBoolS_ev xs (by omega)) (ev_pos rfl (ev_some rfl)))))
end Go.Proofs.Ytijfjlpoihhkbaa.Pure
