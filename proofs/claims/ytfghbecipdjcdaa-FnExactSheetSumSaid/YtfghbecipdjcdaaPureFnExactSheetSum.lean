/- The law FnExactSheetSum over numbers and a plain list: it answers true. No condition beyond the numbers' own kinds and what fits in memory. -/
import Derived.Test.YtfghbecipdjcdaaPFnExactSheetSumx3
import Derived.Test.YtfghbecipdjcdaaOpenFnExactSheetSum
import Derived.Test.YtfghbecipdjcdaaPlain
namespace Go.Proofs.Ytfghbecipdjcdaa.Pure
open Go.RowKit Go.Proofs.Ytfghbecipdjcdaa.PFnExactSheetSum Go.Proofs.Ytfghbecipdjcdaa.OFnExactSheetSum Go.Proofs.YtfghbecipdjcdaaW.PrintWords Go.Proofs.YtfghbecipdjcdaaW.PrintLast Go.Proofs.YtfghbecipdjcdaaW.PrintMore Go.Proofs.YtfghbecipdjcdaaO
set_option linter.unusedVariables false
set_option linter.unusedSimpArgs false

theorem st_spec_GoodSheet_j0 {r : (Bool)} {x25 : Bool} {x105000 : Int} {x105001 : Int} {x105002 : List Int} (h : Ev (fun k => if x25 = true then (some false) else (spec_GoodSheet.l0 k x105002 (x105002.length : Int) 0)) r) : Ev (fun k => spec_GoodSheet.j0 k x25 x105000 x105001 x105002) r := Ev.step (fun k => by rw [spec_GoodSheet.j0]) h
theorem st_spec_GoodSheet_l0 {r : (Bool)} {x27 : List Int} {x28 : Int} {x29 : Int} (h : Ev (fun k => if x29 < x28 then (if 0 ≤ x29 then (if x29 < (x27.length : Int) then ((spec_l20Color.f (rd x27 x29)).bind fun t108 => (if t108 = true then (spec_GoodSheet.l0 k x27 x28 (wrap64 (x29 + 1))) else (some false))) else (none)) else (none)) else (some true)) r) : Ev (fun k => spec_GoodSheet.l0 k x27 x28 x29) r := Ev.step (fun k => by rw [spec_GoodSheet.l0]) h
theorem st_spec_SheetSum_l0 {r : (Int × Bool)} {x4 : Int} {x11 : List Int} {x12 : Int} {x13 : Int} (h : Ev (fun k => if x13 < x12 then (if 0 ≤ x13 then (if x13 < (x11.length : Int) then (spec_SheetSum.l0 k (Int.tmod (wrap64 ((wrap64 (31 * x4)) + (rd x11 x13))) 1000003) x11 x12 (wrap64 (x13 + 1))) else (none)) else (none)) else (some (x4, true))) r) : Ev (fun k => spec_SheetSum.l0 k x4 x11 x12 x13) r := Ev.step (fun k => by rw [spec_SheetSum.l0]) h
theorem st_laws_toIntS_l0 {r : (List Int)} {x0 : List Int} {x3 : List Int} {x4 : Int} (h : Ev (fun k => if x4 < (x0.length : Int) then (if 0 ≤ x4 then (if x4 < (x3.length : Int) then (laws_toIntS.l0 k x0 (x3.set (x4 : Int).toNat (rd x0 x4)) (wrap64 (x4 + 1))) else (none)) else (none)) else (some x3)) r) : Ev (fun k => laws_toIntS.l0 k x0 x3 x4) r := Ev.step (fun k => by rw [laws_toIntS.l0]) h
theorem st_slices_IndexFunc_w150_l0 {r : (Int)} {x0 : List Int} {x7 : Int} {x8 : Int} (h : Ev (fun k => if x8 < x7 then (if 0 ≤ x8 then (if x8 < (x0.length : Int) then ((impl_GoodSheet_1.f (rd x0 x8)).bind fun t126 => (if t126 = true then (some x8) else (slices_IndexFunc_w150.l0 k x0 x7 (wrap64 (x8 + 1))))) else (none)) else (none)) else (some (-1))) r) : Ev (fun k => slices_IndexFunc_w150.l0 k x0 x7 x8) r := Ev.step (fun k => by rw [slices_IndexFunc_w150.l0]) h
theorem st_impl_sumUp_l0 {r : (Int)} {x3 : Int} {x6 : List Int} {x7 : Int} {x8 : Int} (h : Ev (fun k => if x8 < x7 then (if 0 ≤ x8 then (if x8 < (x6.length : Int) then (impl_sumUp.l0 k (Int.tmod (wrap64 ((wrap64 (31 * x3)) + (rd x6 x8))) 1000003) x6 x7 (wrap64 (x8 + 1))) else (none)) else (none)) else (some x3)) r) : Ev (fun k => impl_sumUp.l0 k x3 x6 x7 x8) r := Ev.step (fun k => by rw [impl_sumUp.l0]) h
theorem st_laws_eqIntS_l0 {r : (Bool)} {x0 : List Int} {x1 : List Int} {x5 : Int} (h : Ev (fun k => if x5 < (x0.length : Int) then (if 0 ≤ x5 then (if x5 < (x1.length : Int) then (if (rd x0 x5) = (rd x1 x5) then (laws_eqIntS.l0 k x0 x1 (wrap64 (x5 + 1))) else (some false)) else (none)) else (none)) else (some true)) r) : Ev (fun k => laws_eqIntS.l0 k x0 x1 x5) r := Ev.step (fun k => by rw [laws_eqIntS.l0]) h
theorem st_laws_FnExactSheetSum_j0 {r : (Bool)} {x34 : Bool} {x142000 : Int} {x142001 : Int} {x142002 : List Int} {x156000 : Int} {x156001 : Int} {x156002 : List Int} (h : Ev (fun k => if x34 = true then (some false) else ((laws_toSheet.f k x142000 x142001 x142002).bind fun bt158 => ((laws_eqSheet.f k x156000 x156001 x156002 bt158.1 bt158.2.1 bt158.2.2).bind fun t163 => (if t163 = true then (some true) else (some false))))) r) : Ev (fun k => laws_FnExactSheetSum.j0 k x34 x142000 x142001 x142002 x156000 x156001 x156002) r := Ev.step (fun k => by rw [laws_FnExactSheetSum.j0]) h
theorem in_same (a b c : Int) : impl_inRange.f a b c = spec_l1In.f a b c := rfl
theorem in_some (a b c : Int) : spec_l1In.f a b c = some (decide (b ≤ a ∧ a ≤ c)) := by
  unfold spec_l1In.f
  split <;> simp_all <;> omega
/-! ### good sheets -/
def SheetOk (a b : Int) (l : List Int) : Prop := (1 ≤ a ∧ a ≤ 24) ∧ (1 ≤ b ∧ b ≤ 24) ∧ (l.length : Int) = a * b ∧ ∀ i, i < l.length → 0 ≤ rd l (i : Int) ∧ rd l (i : Int) ≤ 16777215
theorem mul_small {a b : Int} (ha : 1 ≤ a ∧ a ≤ 24) (hb : 1 ≤ b ∧ b ≤ 24) : wrap64 (a * b) = a * b ∧ 0 ≤ a * b ∧ a * b ≤ 576 := by
  have h1 : a * b ≤ 24 * 24 := Int.mul_le_mul ha.2 hb.2 (by omega) (by omega)
  have h0 : 0 ≤ a * b := Int.mul_nonneg (by omega) (by omega)
  exact ⟨w64 (by omega) (by omega), h0, by omega⟩
theorem color_spec (n : Int) : spec_l20Color.f n = some (decide (0 ≤ n ∧ n ≤ 16777215)) := by unfold spec_l20Color.f; rw [in_some]; rfl
theorem color_impl (n : Int) : impl_GoodSheet_1.f n = some (!decide (0 ≤ n ∧ n ≤ 16777215)) := by unfold impl_GoodSheet_1.f impl_isColor.f; rw [in_same, in_some]; rfl
theorem sheet_spec (a b : Int) (l : List Int) (t : Bool) (ht : t = true ↔ SheetOk a b l) : Ev (fun k => spec_GoodSheet.f k a b l) t := by
  have j0t : Ev (fun k => spec_GoodSheet.j0 k true a b l) false := st_spec_GoodSheet_j0 (ev_pos rfl (ev_some rfl))
  refine ev_bindc (in_some _ _ _) (ev_ite (fun ha => ev_bindc (in_some _ _ _) (ev_ite (fun hb => ?_) fun hb => ?_)) fun ha => ?_)
  · have ha := of_decide_eq_true ha
    have hb := of_decide_eq_true hb
    obtain ⟨e, h0, h1⟩ := mul_small ha hb
    rw [e]
    by_cases hn : (l.length : Int) = a * b
    · rw [show ((l.length : Int) != a * b) = false by simpa using hn]
      refine st_spec_GoodSheet_j0 (ev_neg (by decide) ?_)
      refine ev_all l.length (fun k i => spec_GoodSheet.l0 k l (l.length : Int) (i : Int)) (fun i => 0 ≤ rd l (i : Int) ∧ rd l (i : Int) ≤ 16777215) true t ?_ ?_ ?_ ?_
      · rw [ht]; unfold SheetOk; exact ⟨fun h => ⟨rfl, h.2.2.2⟩, fun h => ⟨ha, hb, hn, h.2⟩⟩
      · exact st_spec_GoodSheet_l0 (ev_neg (by omega) (ev_some rfl))
      · intro i hi _ ho r hr
        refine st_spec_GoodSheet_l0 (ev_pos (by omega) (ev_pos (by omega) (ev_pos (by omega) (ev_bindc (color_spec _) (ev_pos (decide_eq_true ho) ?_)))))
        rw [w64s i (by omega)]; exact hr
      · intro i hi _ ho
        exact st_spec_GoodSheet_l0 (ev_pos (by omega) (ev_pos (by omega) (ev_pos (by omega) (ev_bindc (color_spec _) (ev_neg (by simpa using ho) (ev_some rfl))))))
    · rw [show ((l.length : Int) != a * b) = true by simpa using hn, bool_false ht (fun h => hn h.2.2.1)]
      exact j0t
  · rw [bool_false ht (fun h => hb (decide_eq_true h.2.1))]; exact j0t
  · rw [bool_false ht (fun h => ha (decide_eq_true h.1))]; exact j0t
theorem sheet_impl (a b : Int) (l : List Int) (t : Bool) (ht : t = true ↔ SheetOk a b l) : Ev (fun k => impl_GoodSheet.f k a b l) t := by
  refine ev_bindc ((in_same _ _ _).trans (in_some _ _ _)) (ev_ite (fun ha => ev_bindc ((in_same _ _ _).trans (in_some _ _ _)) (ev_ite (fun hb => ?_) fun hb => ?_)) fun ha => ?_)
  · have ha := of_decide_eq_true ha
    have hb := of_decide_eq_true hb
    obtain ⟨e, h0, h1⟩ := mul_small ha hb
    rw [e]
    refine ev_ite (fun hn => ?_) fun hn => ?_
    · obtain ⟨c, hc⟩ := bool_of (∃ i, i < l.length ∧ (!decide (0 ≤ rd l (i : Int) ∧ rd l (i : Int) ≤ 16777215)) = true)
      have := ev_contains slices_IndexFunc_w150.l0 (fun _ xs i => impl_GoodSheet_1.f (rd xs i)) (fun _ _ _ _ => rfl) l (by omega) (fun i => !decide (0 ≤ rd l (i : Int) ∧ rd l (i : Int) ≤ 16777215)) (fun i _ => ev_eq (color_impl _)) c hc
      refine Ev.bind (f := fun _ t => some (!t)) this (ev_some ?_)
      rw [Bool.eq_iff_iff, ht]
      unfold SheetOk
      constructor
      · intro hcn
        refine ⟨ha, hb, hn, fun i hi => ?_⟩
        cases hd : decide (0 ≤ rd l (i : Int) ∧ rd l (i : Int) ≤ 16777215) with
        | true => exact of_decide_eq_true hd
        | false =>
          have : c = true := hc.2 ⟨i, hi, by rw [hd]; rfl⟩
          rw [this] at hcn; cases hcn
      · intro h
        rw [Bool.not_eq_true']
        refine bool_false hc ?_
        rintro ⟨i, hi, hP⟩
        rw [decide_eq_true (h.2.2.2 i hi)] at hP; cases hP
    · exact ev_some (bool_false ht (fun h => hn h.2.2.1)).symm
  · exact ev_some (bool_false ht (fun h => hb (decide_eq_true h.2.1))).symm
  · exact ev_some (bool_false ht (fun h => ha (decide_eq_true h.1))).symm
theorem sheet_same (a b : Int) (l : List Int) : ∃ t, Ev (fun k => spec_GoodSheet.f k a b l) t ∧ Ev (fun k => impl_GoodSheet.f k a b l) t ∧ (t = true ↔ SheetOk a b l) := by
  obtain ⟨t, ht⟩ := bool_of (SheetOk a b l)
  exact ⟨t, sheet_spec a b l t ht, sheet_impl a b l t ht, ht⟩
/-! ### sums -/
def sumStep (s n : Int) : Int := Int.tmod (wrap64 (wrap64 (31 * s) + n)) 1000003
theorem sumUp_l0 (l : List Int) (hl : l.length ≤ 4611686018427387903) (s : Int) : Ev (fun k => impl_sumUp.l0 k s l (l.length : Int) 0) (l.foldl sumStep s) := by
  refine ev_for1 l.length (fun k i (v : Int) => impl_sumUp.l0 k v l (l.length : Int) (i : Int)) (fun i v => v = (l.take i).foldl sumStep s) _ ?_ ?_ 0 s (Nat.zero_le _) (by simp)
  · rintro v rfl
    exact Ev.step (fun _ => rfl) (ev_neg (by omega) (ev_some (by rw [List.take_length])))
  · rintro i v hi rfl
    refine .inr ⟨_, rfl, fun r hr => Ev.step (fun _ => rfl) (ev_pos (by omega) (ev_pos (by omega) (ev_pos (by omega) ?_)))⟩
    rw [List.take_succ_eq_append_getElem hi, List.foldl_append] at hr
    rw [w64s i (by omega), rd_get hi]
    exact hr
theorem sumUp_ev (l : List Int) (hl : l.length ≤ 4611686018427387903) : Ev (fun k => impl_sumUp.f k l) (l.foldl sumStep 7) := sumUp_l0 l hl 7
/-! ### the laws' own helpers (by helpgen.py) -/
theorem szIntS_some (xs : List Int) (g : xs.length * 8 ≤ 140737488351232 ∧ ∀ y ∈ xs, In64 y) (left : Int) (h0 : 0 ≤ left) (h1 : left ≤ 1048576) : ∃ r, Ev (fun _ => laws_szIntS.f xs left) r ∧ (r < 0 ∨ 0 ≤ r ∧ r ≤ left ∧ xs.length ≤ 1048576) := by
  have g1 := g.1
  unfold laws_szIntS.f
  rw [w64 (n := left - (xs.length : Int)) (by omega) (by omega)]
  refine exev_ite (fun _ => exev_some (.inl (by omega))) fun hc => ?_
  exact exev_some (.inr ⟨by omega, by omega, by omega⟩)
theorem szSheet_some (a0 : Int) (a1 : Int) (l2 : List Int) (ga0 : In64 a0) (ga1 : In64 a1) (gl2 : l2.length * 8 ≤ 140737488351232 ∧ ∀ y ∈ l2, In64 y) (left : Int) (h0 : 0 ≤ left) (h1 : left ≤ 1048576) : ∃ r, Ev (fun _ => laws_szSheet.f a0 a1 l2 left) r ∧ (r < 0 ∨ 0 ≤ r ∧ r ≤ left ∧ (l2.length ≤ 1048576)) := by
  unfold laws_szSheet.f
  obtain ⟨r0, hr0, hq0⟩ := szIntS_some l2 gl2 (left) (by omega) (by omega)
  refine exev_bind hr0 (exev_ite (fun _ => exev_some (.inl (by omega))) fun c0 => ?_)
  rcases hq0 with hq0 | ⟨u0, v0, w0⟩
  · omega
  exact exev_some (.inr ⟨by omega, by omega, w0⟩)
theorem toIntS_ev (xs : List Int) (h : xs.length ≤ 1048576) : Ev (fun k => laws_toIntS.f k xs) xs := by
  refine ev_pos (by omega) (ev_pos (by omega) ?_)
  have := ev_copy laws_toIntS.l0 (fun _ xs i => some (rd xs i)) id (fun _ _ _ _ => rfl) xs (by omega) (fun i hi => ev_some (rd_get hi)) (List.replicate (((xs.length : Int) : Int).toNat) 0) (by simp)
  rwa [List.map_id] at this
theorem toSheet_ev (a0 : Int) (a1 : Int) (l2 : List Int) (hl2 : l2.length ≤ 1048576) : Ev (fun k => laws_toSheet.f k a0 a1 l2) (a0, a1, l2) := by
  unfold laws_toSheet.f
  repeat (first | exact ev_some rfl | refine Ev.bind (toIntS_ev _ hl2) ?_ | refine ev_bindc rfl ?_)
theorem eqIntS_ev (xs : List Int) (h : xs.length ≤ 1048576) : Ev (fun k => laws_eqIntS.f k xs xs) true := by
  refine ev_pos rfl ?_
  refine ev_for1 xs.length (fun k i (_ : Unit) => laws_eqIntS.l0 k xs xs (i : Int)) (fun _ _ => True) true ?_ ?_ 0 () (Nat.zero_le _) trivial
  · intro _ _
    exact Ev.step (fun _ => rfl) (ev_neg (by omega) (ev_some rfl))
  · intro i _ hi _
    refine .inr ⟨(), trivial, fun r hr => Ev.step (fun _ => rfl) (ev_pos (by omega) (ev_pos (by omega) (ev_pos (by omega) ?_)))⟩
    rw [w64s i (by have := h; omega)]
    exact ev_pos rfl hr
theorem eqSheet_ev (a0 : Int) (a1 : Int) (l2 : List Int) (hl2 : l2.length ≤ 1048576) : Ev (fun k => laws_eqSheet.f k a0 a1 l2 a0 a1 l2) true := by
  unfold laws_eqSheet.f
  repeat (first | exact ev_some rfl | refine Ev.bind (eqIntS_ev l2 hl2) ?_ | refine ev_pos rfl ?_ | refine ev_neg (by simp) ?_)

theorem sum_spec (l : List Int) (hl : l.length ≤ 1048576) : Ev (fun k => spec_SheetSum.l0 k 7 l (l.length : Int) 0) (l.foldl sumStep 7, true) := by
  refine ev_for1 l.length (fun k i (v : Int) => spec_SheetSum.l0 k v l (l.length : Int) (i : Int)) (fun i v => v = (l.take i).foldl sumStep 7) _ ?_ ?_ 0 7 (Nat.zero_le _) (by simp)
  · rintro v rfl
    exact Ev.step (fun _ => rfl) (ev_neg (by omega) (ev_some (by rw [List.take_length])))
  · rintro i v hi rfl
    refine .inr ⟨_, rfl, fun r hr => Ev.step (fun _ => rfl) (ev_pos (by omega) (ev_pos (by omega) (ev_pos (by omega) ?_)))⟩
    rw [List.take_succ_eq_append_getElem hi, List.foldl_append] at hr
    rw [w64s i (by omega), rd_get hi]
    exact hr
theorem same (a b : Int) (l : List Int) (hl : l.length ≤ 1048576) : ∃ w, Ev (fun k => spec_SheetSum.f k a b l) w ∧ Ev (fun k => impl_SheetSum.f k a b l) w := by
  obtain ⟨t, hs, hi, _⟩ := sheet_same a b l
  cases t with
  | false => exact ⟨(0, false), Ev.bind hs (ev_neg (by decide) (ev_some rfl)), Ev.bind hi (ev_neg (by decide) (ev_some rfl))⟩
  | true => exact ⟨_, Ev.bind hs (ev_pos rfl (sum_spec l hl)), Ev.bind hi (ev_pos rfl (Ev.bind (sumUp_ev l (by omega)) (ev_some rfl)))⟩
theorem FnExactSheetSum : ∀ (a0_0 : Int) (a0_1 : Int) (l0_2 : List (Int)), (In64 a0_0) → (In64 a0_1) → (l0_2.length * 8 ≤ 140737488351232 ∧ ∀ y ∈ l0_2, In64 y) → ∃ k, laws_FnExactSheetSum.f k a0_0 a0_1 l0_2 = some true := by
  intro a b xs ga gb gl
  refine Ev.rounds (g := fun k => laws_FnExactSheetSum.f k a b xs) ?_
  obtain ⟨r, hr, h | ⟨h0, h1, hx⟩⟩ := szSheet_some a b xs ga gb gl 1048576 (by omega) (by omega)
  · exact Ev.bind hr (ev_pos h (ev_some rfl))
  · have tx := toSheet_ev a b xs hx
    obtain ⟨w, hs, hi⟩ := same a b xs hx
    refine Ev.bind hr (ev_neg (by omega) (Ev.bind tx (Ev.bind hs (Ev.bind tx (Ev.bind hi (ev_pos rfl ?_))))))
    have e : (w.2 != w.2) = false := by simp
    rw [e]
    exact st_laws_FnExactSheetSum_j0 (ev_neg (by decide) (Ev.bind tx (Ev.bind (eqSheet_ev a b xs hx) (ev_pos rfl (ev_some rfl)))))
end Go.Proofs.Ytfghbecipdjcdaa.Pure
