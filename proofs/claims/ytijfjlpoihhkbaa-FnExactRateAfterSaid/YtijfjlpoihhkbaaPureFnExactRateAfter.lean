/- The law FnExactRateAfter over plain numbers: it answers true. No condition beyond the numbers' own kinds. -/
import Derived.Test.YtijfjlpoihhkbaaPFnExactRateAfterx1
import Derived.Test.YtijfjlpoihhkbaaPlain
namespace Go.Proofs.Ytijfjlpoihhkbaa.Pure
open Go.RowKit Go.Proofs.Ytijfjlpoihhkbaa.PFnExactRateAfter Go.Proofs.YtijfjlpoihhkbaaW.PrintWords Go.Proofs.YtijfjlpoihhkbaaW.PrintLast Go.Proofs.YtijfjlpoihhkbaaW.PrintMore Go.Proofs.YtijfjlpoihhkbaaO

theorem st_spec_RateAfter_j0 {r : (Int × Int × Bool)} {x0 : Int} {x1 : Int} {x2 : Int} {x23 : Bool} (h : Ev (fun k => if x23 = true then (some (0, 0, false)) else (if (wrap64 (x1 - x0)) > 400 then (spec_RateAfter.j1 k x0 x1 x2 400) else (spec_RateAfter.j1 k x0 x1 x2 (wrap64 (x1 - x0))))) r) : Ev (fun k => spec_RateAfter.j0 k x0 x1 x2 x23) r := Ev.step (fun k => by rw [spec_RateAfter.j0]) h
theorem st_spec_RateAfter_j1 {r : (Int × Int × Bool)} {x0 : Int} {x1 : Int} {x2 : Int} {x9 : Int} (h : Ev (fun _ => if x9 < (-400) then ((spec_l25Cut.f (wrap64 (x0 + (wrap64 (Int.tdiv (wrap64 ((wrap64 ((wrap64 (500 * x2)) - (500 - (-400)))) * 32)) 1000))))).bind fun t104 => ((spec_l25Cut.f (wrap64 (x1 - (wrap64 (Int.tdiv (wrap64 ((wrap64 ((wrap64 (500 * x2)) - (500 - (-400)))) * 32)) 1000))))).bind fun t105 => (some (t104, t105, true)))) else ((spec_l25Cut.f (wrap64 (x0 + (wrap64 (Int.tdiv (wrap64 ((wrap64 ((wrap64 (500 * x2)) - (wrap64 (500 - x9)))) * 32)) 1000))))).bind fun t106 => ((spec_l25Cut.f (wrap64 (x1 - (wrap64 (Int.tdiv (wrap64 ((wrap64 ((wrap64 (500 * x2)) - (wrap64 (500 - x9)))) * 32)) 1000))))).bind fun t107 => (some (t106, t107, true))))) r) : Ev (fun k => spec_RateAfter.j1 k x0 x1 x2 x9) r := Ev.step (fun k => by rw [spec_RateAfter.j1]) h
theorem st_impl_RateAfter_j0 {r : (Int × Int × Bool)} {x0 : Int} {x1 : Int} {x2 : Int} {x23 : Bool} (h : Ev (fun _ => if x23 = true then (some (0, 0, false)) else ((impl_clamp.f (wrap64 (x1 - x0)) (-400) 400).bind fun t111 => ((impl_clamp.f (wrap64 (x0 + (wrap64 (Int.tdiv (wrap64 ((wrap64 ((wrap64 (500 * x2)) - (wrap64 (500 - t111)))) * 32)) 1000)))) 0 4000).bind fun t112 => ((impl_clamp.f (wrap64 (x1 - (wrap64 (Int.tdiv (wrap64 ((wrap64 ((wrap64 (500 * x2)) - (wrap64 (500 - t111)))) * 32)) 1000)))) 0 4000).bind fun t113 => (some (t112, t113, true)))))) r) : Ev (fun k => impl_RateAfter.j0 k x0 x1 x2 x23) r := Ev.step (fun k => by rw [impl_RateAfter.j0]) h
theorem in_same (a b c : Int) : impl_inRange.f a b c = spec_l1In.f a b c := rfl
theorem in_some (a b c : Int) : spec_l1In.f a b c = some (decide (b ≤ a ∧ a ≤ c)) := by
  unfold spec_l1In.f
  split <;> simp_all <;> omega
theorem cut_some (x : Int) : spec_l25Cut.f x = some (mn (mx x 0) 4000) := by
  unfold spec_l25Cut.f mn mx
  split <;> (try split) <;> (repeat' split) <;> simp_all <;> omega
def both (a b c d : Int) : Int × Int × Bool :=
  (mn (mx (wrap64 (a + wrap64 (Int.tdiv (wrap64 ((wrap64 ((wrap64 (500 * c)) - (wrap64 (500 - d)))) * 32)) 1000))) 0) 4000, mn (mx (wrap64 (b - wrap64 (Int.tdiv (wrap64 ((wrap64 ((wrap64 (500 * c)) - (wrap64 (500 - d)))) * 32)) 1000))) 0) 4000, true)
theorem impl_j0 (a b c : Int) : Ev (fun k => impl_RateAfter.j0 k a b c false) (both a b c (mn (mx (wrap64 (b - a)) (-400)) 400)) :=
  st_impl_RateAfter_j0 (ev_neg (by decide) (ev_bindc rfl (ev_bindc rfl (ev_bindc rfl (ev_some rfl)))))
theorem impl_j0t (a b c : Int) : Ev (fun k => impl_RateAfter.j0 k a b c true) (0, 0, false) := st_impl_RateAfter_j0 (ev_pos rfl (ev_some rfl))
theorem spec_j0t (a b c : Int) : Ev (fun k => spec_RateAfter.j0 k a b c true) (0, 0, false) := st_spec_RateAfter_j0 (ev_pos rfl (ev_some rfl))
theorem spec_j1 (a b c d : Int) (hd : -400 ≤ d) : Ev (fun k => spec_RateAfter.j1 k a b c d) (both a b c d) :=
  st_spec_RateAfter_j1 (ev_neg (by omega) (ev_bindc (cut_some _) (ev_bindc (cut_some _) (ev_some rfl))))
theorem spec_j1l (a b c d : Int) (hd : d < -400) : Ev (fun k => spec_RateAfter.j1 k a b c d) (both a b c (-400)) := by
  refine st_spec_RateAfter_j1 (ev_pos (by omega) (ev_bindc (cut_some _) (ev_bindc (cut_some _) (ev_some ?_))))
  unfold both
  rw [w64 (n := 500 - (-400)) (by omega) (by omega)]
theorem spec_j0 (a b c : Int) : Ev (fun k => spec_RateAfter.j0 k a b c false) (both a b c (mn (mx (wrap64 (b - a)) (-400)) 400)) := by
  refine st_spec_RateAfter_j0 (ev_neg (by decide) (ev_ite (fun h => ?_) (fun h => ?_)))
  · have e : mn (mx (wrap64 (b - a)) (-400)) 400 = 400 := by
      generalize wrap64 (b - a) = d at h ⊢
      unfold mn mx; (repeat' split) <;> omega
    rw [e]
    exact spec_j1 _ _ _ _ (by omega)
  · by_cases h2 : wrap64 (b - a) < -400
    · have e : mn (mx (wrap64 (b - a)) (-400)) 400 = -400 := by
        generalize wrap64 (b - a) = d at h h2 ⊢
        unfold mn mx; (repeat' split) <;> omega
      rw [e]
      exact spec_j1l _ _ _ _ h2
    · have e : mn (mx (wrap64 (b - a)) (-400)) 400 = wrap64 (b - a) := by
        generalize wrap64 (b - a) = d at h h2 ⊢
        unfold mn mx; (repeat' split) <;> omega
      rw [e]
      exact spec_j1 _ _ _ _ (by omega)
theorem same (a b c : Int) : ∃ w, Ev (fun k => spec_RateAfter.f k a b c) w ∧ Ev (fun k => impl_RateAfter.f k a b c) w := by
  unfold spec_RateAfter.f impl_RateAfter.f
  simp only [in_same, in_some, Option.bind_some]
  by_cases h0 : decide (0 ≤ a ∧ a ≤ 4000) = true
  · by_cases h1 : decide (0 ≤ b ∧ b ≤ 4000) = true
    · by_cases h2 : decide (0 ≤ c ∧ c ≤ 2) = true
      · exact ⟨_, ev_pos h0 (ev_pos h1 (by rw [h2]; exact spec_j0 a b c)), ev_pos h0 (ev_pos h1 (by rw [h2]; exact impl_j0 a b c))⟩
      · rw [Bool.not_eq_true] at h2
        exact ⟨_, ev_pos h0 (ev_pos h1 (by rw [h2]; exact spec_j0t a b c)), ev_pos h0 (ev_pos h1 (by rw [h2]; exact impl_j0t a b c))⟩
    · exact ⟨_, ev_pos h0 (ev_neg h1 (spec_j0t a b c)), ev_pos h0 (ev_neg h1 (impl_j0t a b c))⟩
  · exact ⟨_, ev_neg h0 (spec_j0t a b c), ev_neg h0 (impl_j0t a b c)⟩
theorem FnExactRateAfter : laws_FnExactRateAfter.Pure := by
  intro a b c _ _ _
  obtain ⟨w, hs, hi⟩ := same a b c
  exact Ev.rounds (g := fun k => laws_FnExactRateAfter.f k a b c) (Ev.bind hs (Ev.bind hi (ev_pos rfl (ev_pos rfl (ev_neg (by simp) (ev_some rfl))))))
end Go.Proofs.Ytijfjlpoihhkbaa.Pure
