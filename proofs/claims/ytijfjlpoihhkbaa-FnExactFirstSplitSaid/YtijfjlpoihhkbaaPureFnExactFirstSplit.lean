/- The law FnExactFirstSplit over plain lists of numbers: it answers true. No condition beyond the numbers' own kinds and what fits in memory. -/
import Derived.Test.YtijfjlpoihhkbaaPFnExactFirstSplitx2
import Derived.Test.YtijfjlpoihhkbaaOpenFnExactFirstSplit
import Derived.Test.YtijfjlpoihhkbaaPlain
namespace Go.Proofs.Ytijfjlpoihhkbaa.Pure
open Go.RowKit Go.Proofs.Ytijfjlpoihhkbaa.PFnExactFirstSplit Go.Proofs.YtijfjlpoihhkbaaW.PrintWords Go.Proofs.YtijfjlpoihhkbaaW.PrintLast Go.Proofs.YtijfjlpoihhkbaaW.PrintMore Go.Proofs.YtijfjlpoihhkbaaO

theorem st_spec_FirstSplit_j0 {r : (Int × Bool)} {x0 : List Int} {x1 : List Int} {x14 : Bool} (h : Ev (fun k => if x14 = true then (some (0, false)) else (spec_FirstSplit.l0 k x0 x1 0)) r) : Ev (fun k => spec_FirstSplit.j0 k x0 x1 x14) r := Ev.step (fun k => by rw [spec_FirstSplit.j0]) h
theorem st_spec_FirstSplit_l0 {r : (Int × Bool)} {x0 : List Int} {x1 : List Int} {x6 : Int} (h : Ev (fun k => if x6 < (x0.length : Int) then (spec_FirstSplit.j2 k x0 x1 x6 (decide (x6 < (x1.length : Int)))) else (spec_FirstSplit.j2 k x0 x1 x6 false)) r) : Ev (fun k => spec_FirstSplit.l0 k x0 x1 x6) r := Ev.step (fun k => by rw [spec_FirstSplit.l0]) h
theorem st_spec_FirstSplit_j2 {r : (Int × Bool)} {x0 : List Int} {x1 : List Int} {x6 : Int} {x24 : Bool} (h : Ev (fun k => if x24 = true then (if 0 ≤ x6 then (if x6 < (x0.length : Int) then (if x6 < (x1.length : Int) then (if (rd x0 x6) = (rd x1 x6) then (spec_FirstSplit.l0 k x0 x1 (wrap64 (x6 + 1))) else (some (x6, true))) else (none)) else (none)) else (none)) else (some ((-1), true))) r) : Ev (fun k => spec_FirstSplit.j2 k x0 x1 x6 x24) r := Ev.step (fun k => by rw [spec_FirstSplit.j2]) h
theorem st_laws_toIntS_l0 {r : (List Int)} {x0 : List Int} {x3 : List Int} {x4 : Int} (h : Ev (fun k => if x4 < (x0.length : Int) then (if 0 ≤ x4 then (if x4 < (x3.length : Int) then (laws_toIntS.l0 k x0 (x3.set (x4 : Int).toNat (rd x0 x4)) (wrap64 (x4 + 1))) else (none)) else (none)) else (some x3)) r) : Ev (fun k => laws_toIntS.l0 k x0 x3 x4) r := Ev.step (fun k => by rw [laws_toIntS.l0]) h
theorem st_impl_FirstSplit_j0 {r : (Int × Bool)} {x0 : List Int} {x1 : List Int} {x14 : Bool} (h : Ev (fun k => if x14 = true then (some (0, false)) else (if (x1.length : Int) < (x0.length : Int) then (impl_FirstSplit.l0 k x0 x1 (x1.length : Int) 0) else (impl_FirstSplit.l0 k x0 x1 (x0.length : Int) 0))) r) : Ev (fun k => impl_FirstSplit.j0 k x0 x1 x14) r := Ev.step (fun k => by rw [impl_FirstSplit.j0]) h
theorem st_impl_FirstSplit_l0 {r : (Int × Bool)} {x0 : List Int} {x1 : List Int} {x19 : Int} {x20 : Int} (h : Ev (fun k => if x20 < x19 then (if 0 ≤ x20 then (if x20 < (x0.length : Int) then (if x20 < (x1.length : Int) then (if (rd x0 x20) = (rd x1 x20) then (impl_FirstSplit.l0 k x0 x1 x19 (wrap64 (x20 + 1))) else (some (x20, true))) else (none)) else (none)) else (none)) else (some ((-1), true))) r) : Ev (fun k => impl_FirstSplit.l0 k x0 x1 x19 x20) r := Ev.step (fun k => by rw [impl_FirstSplit.l0]) h
theorem st_laws_eqIntS_l0 {r : (Bool)} {x0 : List Int} {x1 : List Int} {x5 : Int} (h : Ev (fun k => if x5 < (x0.length : Int) then (if 0 ≤ x5 then (if x5 < (x1.length : Int) then (if (rd x0 x5) = (rd x1 x5) then (laws_eqIntS.l0 k x0 x1 (wrap64 (x5 + 1))) else (some false)) else (none)) else (none)) else (some true)) r) : Ev (fun k => laws_eqIntS.l0 k x0 x1 x5) r := Ev.step (fun k => by rw [laws_eqIntS.l0]) h
theorem st_laws_FnExactFirstSplit_j0 {r : (Bool)} {x0 : List Int} {x1 : List Int} {x7 : List Int} {x8 : List Int} {x42 : Bool} (h : Ev (fun k => if x42 = true then (some false) else ((laws_toIntS.f k x0).bind fun t128 => ((laws_eqIntS.f k x7 t128).bind fun t131 => (if t131 = true then ((laws_toIntS.f k x1).bind fun t132 => ((laws_eqIntS.f k x8 t132).bind fun t135 => (if t135 = true then (some true) else (some false)))) else (some false))))) r) : Ev (fun k => laws_FnExactFirstSplit.j0 k x0 x1 x7 x8 x42) r := Ev.step (fun k => by rw [laws_FnExactFirstSplit.j0]) h
theorem toIntS_ev (xs : List Int) (h : xs.length ≤ 1048576) : Ev (fun k => laws_toIntS.f k xs) xs := by
  refine ev_pos (by omega) (ev_pos (by omega) ?_)
  have := ev_copy laws_toIntS.l0 (fun _ xs i => some (rd xs i)) id (fun _ _ _ _ => rfl) xs (by omega) (fun i hi => ev_some (rd_get hi)) (List.replicate (((xs.length : Int) : Int).toNat) 0) (by simp)
  rwa [List.map_id] at this
theorem eqIntS_ev (xs : List Int) (h : xs.length ≤ 1048576) : Ev (fun k => laws_eqIntS.f k xs xs) true := by
  refine ev_pos rfl ?_
  exact ev_alike_self laws_eqIntS.l0 (fun _ xs ys i => some (decide (rd xs i = rd ys i))) (fun k xs ys i => by
    simp only [laws_eqIntS.l0, Option.bind_some, decide_eq_true_eq]) xs (by omega) (fun i hi => ev_some (by simp))
/-- The first place where two lists differ, from a place on. -/
def splitFrom : Nat → List Int → List Int → Int × Bool
  | i, a :: r, b :: q => if a = b then splitFrom (i + 1) r q else ((i : Int), true)
  | _, _, _ => (-1, true)
theorem splitFrom_end {i : Nat} {xs ys : List Int} (h : xs.length ≤ i ∨ ys.length ≤ i) : splitFrom i (xs.drop i) (ys.drop i) = (-1, true) := by
  rcases h with h | h
  · rw [List.drop_eq_nil_of_le h]; simp [splitFrom]
  · rw [List.drop_eq_nil_of_le h]; cases xs.drop i <;> simp [splitFrom]
theorem splitFrom_at {i : Nat} {xs ys : List Int} (h : i < xs.length) (h' : i < ys.length) : splitFrom i (xs.drop i) (ys.drop i) = if xs[i] = ys[i] then splitFrom (i + 1) (xs.drop (i + 1)) (ys.drop (i + 1)) else ((i : Int), true) := by
  rw [List.drop_eq_getElem_cons h, List.drop_eq_getElem_cons h']; simp only [splitFrom]
theorem spec_l0 (xs ys : List Int) (h : xs.length ≤ 60) : ∀ d i : Nat, xs.length ≤ i + d → Ev (fun k => spec_FirstSplit.l0 k xs ys (i : Int)) (splitFrom i (xs.drop i) (ys.drop i)) := by
  have fin : ∀ i : Nat, (xs.length ≤ i ∨ ys.length ≤ i) → Ev (fun k => spec_FirstSplit.l0 k xs ys (i : Int)) (splitFrom i (xs.drop i) (ys.drop i)) := by
    intro i hi
    rw [splitFrom_end hi]
    by_cases hx : i < xs.length
    · refine st_spec_FirstSplit_l0 (ev_pos (by omega) ?_)
      have e : decide ((i : Int) < (ys.length : Int)) = false := by simp; omega
      rw [e]
      exact st_spec_FirstSplit_j2 (ev_neg (by decide) (ev_some rfl))
    · exact st_spec_FirstSplit_l0 (ev_neg (by omega) (st_spec_FirstSplit_j2 (ev_neg (by decide) (ev_some rfl))))
  intro d
  induction d with
  | zero => intro i hi; exact fin i (.inl (by omega))
  | succ d ih =>
    intro i hi
    by_cases hx : i < xs.length
    · by_cases hy : i < ys.length
      · rw [splitFrom_at hx hy]
        refine st_spec_FirstSplit_l0 (ev_pos (by omega) ?_)
        have e : decide ((i : Int) < (ys.length : Int)) = true := by simp; omega
        rw [e]
        refine st_spec_FirstSplit_j2 (ev_pos rfl (ev_pos (by omega) (ev_pos (by omega) (ev_pos (by omega) ?_))))
        simp only [rd_get hx, rd_get hy]
        by_cases hv : xs[i] = ys[i]
        · rw [if_pos hv]
          refine ev_pos hv ?_
          rw [w64s i (by omega)]
          exact ih (i + 1) (by omega)
        · rw [if_neg hv]
          exact ev_neg hv (ev_some rfl)
      · exact fin i (.inr (by omega))
    · exact fin i (.inl (by omega))
theorem impl_l0 (xs ys : List Int) (h : xs.length ≤ 60) (n : Int) (hn : n = mn (xs.length : Int) (ys.length : Int)) : ∀ d i : Nat, xs.length ≤ i + d → Ev (fun k => impl_FirstSplit.l0 k xs ys n (i : Int)) (splitFrom i (xs.drop i) (ys.drop i)) := by
  have fin : ∀ i : Nat, (xs.length ≤ i ∨ ys.length ≤ i) → Ev (fun k => impl_FirstSplit.l0 k xs ys n (i : Int)) (splitFrom i (xs.drop i) (ys.drop i)) := by
    intro i hi
    rw [splitFrom_end hi]
    refine st_impl_FirstSplit_l0 (ev_neg ?_ (ev_some rfl))
    rw [hn]; unfold mn; split <;> omega
  intro d
  induction d with
  | zero => intro i hi; exact fin i (.inl (by omega))
  | succ d ih =>
    intro i hi
    by_cases hx : i < xs.length
    · by_cases hy : i < ys.length
      · rw [splitFrom_at hx hy]
        refine st_impl_FirstSplit_l0 (ev_pos (by rw [hn]; unfold mn; split <;> omega) (ev_pos (by omega) (ev_pos (by omega) (ev_pos (by omega) ?_))))
        simp only [rd_get hx, rd_get hy]
        by_cases hv : xs[i] = ys[i]
        · rw [if_pos hv]
          refine ev_pos hv ?_
          rw [w64s i (by omega)]
          exact ih (i + 1) (by omega)
        · rw [if_neg hv]
          exact ev_neg hv (ev_some rfl)
      · exact fin i (.inr (by omega))
    · exact fin i (.inl (by omega))
theorem same (xs ys : List Int) : ∃ w, Ev (fun k => spec_FirstSplit.f k xs ys) w ∧ Ev (fun k => impl_FirstSplit.f k xs ys) w := by
  have s0t : Ev (fun k => spec_FirstSplit.j0 k xs ys true) (0, false) := st_spec_FirstSplit_j0 (ev_pos rfl (ev_some rfl))
  have i0t : Ev (fun k => impl_FirstSplit.j0 k xs ys true) (0, false) := st_impl_FirstSplit_j0 (ev_pos rfl (ev_some rfl))
  by_cases h0 : (xs.length : Int) > 60
  · exact ⟨_, ev_pos h0 s0t, ev_pos h0 i0t⟩
  · by_cases h1 : decide ((ys.length : Int) > 60) = true
    · exact ⟨_, ev_neg h0 (by rw [h1]; exact s0t), ev_neg h0 (by rw [h1]; exact i0t)⟩
    · rw [Bool.not_eq_true] at h1
      refine ⟨splitFrom 0 (xs.drop 0) (ys.drop 0), ev_neg h0 (by rw [h1]; exact st_spec_FirstSplit_j0 (ev_neg (by decide) (spec_l0 xs ys (by omega) xs.length 0 (by omega)))), ev_neg h0 (by rw [h1]; exact st_impl_FirstSplit_j0 (ev_neg (by decide) (ev_ite (fun h => impl_l0 xs ys (by omega) _ (by unfold mn; rw [if_pos h]) xs.length 0 (by omega)) (fun h => impl_l0 xs ys (by omega) _ (by unfold mn; rw [if_neg h]) xs.length 0 (by omega)))))⟩
theorem FnExactFirstSplit : ∀ (l0 : List (Int)) (l1 : List (Int)), (l0.length * 8 ≤ 140737488351232 ∧ ∀ y ∈ l0, In64 y) → (l1.length * 8 ≤ 140737488351232 ∧ ∀ y ∈ l1, In64 y) → ∃ k, laws_FnExactFirstSplit.f k l0 l1 = some true := by
  intro xs ys _ _
  refine Ev.rounds (g := fun k => laws_FnExactFirstSplit.f k xs ys) (ev_ite (fun _ => ev_some rfl) fun hx => ev_ite (fun _ => ev_some rfl) fun hy => ?_)
  have tx := toIntS_ev xs (by omega)
  have ty := toIntS_ev ys (by omega)
  obtain ⟨w, hs, hi⟩ := same xs ys
  refine Ev.bind tx (Ev.bind ty (Ev.bind hs (Ev.bind tx (Ev.bind ty (Ev.bind hi (ev_pos rfl ?_))))))
  have e : (w.2 != w.2) = false := by simp
  rw [e]
  exact st_laws_FnExactFirstSplit_j0 (ev_neg (by decide) (Ev.bind tx (Ev.bind (eqIntS_ev xs (by omega)) (ev_pos rfl (Ev.bind ty (Ev.bind (eqIntS_ev ys (by omega)) (ev_pos rfl (ev_some rfl))))))))
end Go.Proofs.Ytijfjlpoihhkbaa.Pure
