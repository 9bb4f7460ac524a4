/- The law FnExactGameSum over numbers and a plain list: it answers true. No condition beyond the numbers' own kinds and what fits in memory. -/
import Derived.Test.YtfghbecipdjcdaaPFnExactGameSumx3
import Derived.Test.YtfghbecipdjcdaaOpenFnExactGameSum
import Derived.Test.YtfghbecipdjcdaaPlain
namespace Go.Proofs.Ytfghbecipdjcdaa.Pure
open Go.RowKit Go.Proofs.Ytfghbecipdjcdaa.PFnExactGameSum Go.Proofs.Ytfghbecipdjcdaa.OFnExactGameSum Go.Proofs.YtfghbecipdjcdaaW.PrintWords Go.Proofs.YtfghbecipdjcdaaW.PrintLast Go.Proofs.YtfghbecipdjcdaaW.PrintMore Go.Proofs.YtfghbecipdjcdaaO
set_option linter.unusedVariables false
set_option linter.unusedSimpArgs false

theorem st_laws_toSeatS_l0 {r : ((List (S140)))} {x0 : List (S188)} {x3 : List (S140)} {x4 : Int} (h : Ev (fun k => if x4 < (x0.length : Int) then (if 0 ≤ x4 then ((laws_toSeat.f ((rd_T188 x0 x4).f0) ((rd_T188 x0 x4).f1) ((rd_T188 x0 x4).f2)).bind fun bt110 => (if x4 < (x3.length : Int) then (laws_toSeatS.l0 k x0 (x3.set (x4 : Int).toNat (⟨bt110.1, bt110.2.1, bt110.2.2⟩ : S140)) (wrap64 (x4 + 1))) else (none))) else (none)) else (some x3)) r) : Ev (fun k => laws_toSeatS.l0 k x0 x3 x4) r := Ev.step (fun k => by rw [laws_toSeatS.l0]) h
theorem st_laws_eqSeatS_l0 {r : (Bool)} {x0 : List (S140)} {x1 : List (S140)} {x5 : Int} (h : Ev (fun k => if x5 < (x0.length : Int) then (if 0 ≤ x5 then (if x5 < (x1.length : Int) then ((laws_eqSeat.f ((rd_T140 x0 x5).f0) ((rd_T140 x0 x5).f1) ((rd_T140 x0 x5).f2) ((rd_T140 x1 x5).f0) ((rd_T140 x1 x5).f1) ((rd_T140 x1 x5).f2)).bind fun t124 => (if t124 = true then (laws_eqSeatS.l0 k x0 x1 (wrap64 (x5 + 1))) else (some false))) else (none)) else (none)) else (some true)) r) : Ev (fun k => laws_eqSeatS.l0 k x0 x1 x5) r := Ev.step (fun k => by rw [laws_eqSeatS.l0]) h
theorem st_spec_GoodGame_j0 {r : (Bool)} {x26 : Bool} {x130000 : Int} {x130001 : Int} {x130002 : List (S140)} (h : Ev (fun k => if x26 = true then (some false) else (spec_GoodGame.l0 k x130002 (x130002.length : Int) 0)) r) : Ev (fun k => spec_GoodGame.j0 k x26 x130000 x130001 x130002) r := Ev.step (fun k => by rw [spec_GoodGame.j0]) h
theorem st_spec_GoodGame_l0 {r : (Bool)} {x28 : List (S140)} {x29 : Int} {x30 : Int} (h : Ev (fun k => if x30 < x29 then (if 0 ≤ x30 then (if x30 < (x28.length : Int) then ((spec_l1In.f ((rd_T140 x28 x30).f0) 0 63).bind fun t134 => (if t134 = true then ((spec_l1In.f ((rd_T140 x28 x30).f1) 0 63).bind fun t135 => (if t135 = true then ((spec_l1In.f ((rd_T140 x28 x30).f2) 0 9).bind fun t136 => (if t136 = true then (spec_GoodGame.l0 k x28 x29 (wrap64 (x30 + 1))) else (some false))) else (some false))) else (some false))) else (none)) else (none)) else (some true)) r) : Ev (fun k => spec_GoodGame.l0 k x28 x29 x30) r := Ev.step (fun k => by rw [spec_GoodGame.l0]) h
theorem st_spec_GameSum_l0 {r : (Int × Bool)} {x4 : Int} {x21 : List (S140)} {x22 : Int} {x23 : Int} (h : Ev (fun k => if x23 < x22 then (if 0 ≤ x23 then (if x23 < (x21.length : Int) then (spec_GameSum.l0 k (Int.tmod (wrap64 ((wrap64 (31 * (Int.tmod (wrap64 ((wrap64 (31 * (Int.tmod (wrap64 ((wrap64 (31 * x4)) + ((rd_T140 x21 x23).f0))) 1000003))) + ((rd_T140 x21 x23).f1))) 1000003))) + ((rd_T140 x21 x23).f2))) 1000003) x21 x22 (wrap64 (x23 + 1))) else (none)) else (none)) else (some (x4, true))) r) : Ev (fun k => spec_GameSum.l0 k x4 x21 x22 x23) r := Ev.step (fun k => by rw [spec_GameSum.l0]) h
theorem st_slices_IndexFunc_w99_l0 {r : (Int)} {x0 : List (S140)} {x7 : Int} {x8 : Int} (h : Ev (fun k => if x8 < x7 then (if 0 ≤ x8 then (if x8 < (x0.length : Int) then ((impl_GoodGame_1.f ((rd_T140 x0 x8).f0) ((rd_T140 x0 x8).f1) ((rd_T140 x0 x8).f2)).bind fun t147 => (if t147 = true then (some x8) else (slices_IndexFunc_w99.l0 k x0 x7 (wrap64 (x8 + 1))))) else (none)) else (none)) else (some (-1))) r) : Ev (fun k => slices_IndexFunc_w99.l0 k x0 x7 x8) r := Ev.step (fun k => by rw [slices_IndexFunc_w99.l0]) h
theorem st_impl_sumUp_l0 {r : (Int)} {x3 : Int} {x6 : List Int} {x7 : Int} {x8 : Int} (h : Ev (fun k => if x8 < x7 then (if 0 ≤ x8 then (if x8 < (x6.length : Int) then (impl_sumUp.l0 k (Int.tmod (wrap64 ((wrap64 (31 * x3)) + (rd x6 x8))) 1000003) x6 x7 (wrap64 (x8 + 1))) else (none)) else (none)) else (some x3)) r) : Ev (fun k => impl_sumUp.l0 k x3 x6 x7 x8) r := Ev.step (fun k => by rw [impl_sumUp.l0]) h
theorem st_impl_Game_sum_l0 {r : (Int)} {x3 : List Int} {x12 : List (S140)} {x13 : Int} {x14 : Int} (h : Ev (fun k => if x14 < x13 then (if 0 ≤ x14 then (if x14 < (x12.length : Int) then ((some (([(rd_T140 x12 x14).f0, (rd_T140 x12 x14).f1, (rd_T140 x12 x14).f2] : List Int) : List Int)).bind fun y161 => (if x3.length + y161.length < 17592186044416 then (impl_Game_sum.l0 k (x3 ++ y161) x12 x13 (wrap64 (x14 + 1))) else (none))) else (none)) else (none)) else ((impl_sumUp.f k x3).bind fun t167 => (some t167))) r) : Ev (fun k => impl_Game_sum.l0 k x3 x12 x13 x14) r := Ev.step (fun k => by rw [impl_Game_sum.l0]) h
theorem st_laws_FnExactGameSum_j0 {r : (Bool)} {x34 : Bool} {x172000 : Int} {x172001 : Int} {x172002 : List (S188)} {x186000 : Int} {x186001 : Int} {x186002 : List (S140)} (h : Ev (fun k => if x34 = true then (some false) else ((laws_toGame.f k x172000 x172001 x172002).bind fun bt188 => ((laws_eqGame.f k x186000 x186001 x186002 bt188.1 bt188.2.1 bt188.2.2).bind fun t193 => (if t193 = true then (some true) else (some false))))) r) : Ev (fun k => laws_FnExactGameSum.j0 k x34 x172000 x172001 x172002 x186000 x186001 x186002) r := Ev.step (fun k => by rw [laws_FnExactGameSum.j0]) h
theorem in_same (a b c : Int) : impl_inRange.f a b c = spec_l1In.f a b c := rfl
theorem in_some (a b c : Int) : spec_l1In.f a b c = some (decide (b ≤ a ∧ a ≤ c)) := by
  unfold spec_l1In.f
  split <;> simp_all <;> omega
/-! ### good games -/
def SeatOk (l : List S140) (i : Nat) : Prop := (0 ≤ (rd_T140 l i).f0 ∧ (rd_T140 l i).f0 ≤ 63) ∧ (0 ≤ (rd_T140 l i).f1 ∧ (rd_T140 l i).f1 ≤ 63) ∧ (0 ≤ (rd_T140 l i).f2 ∧ (rd_T140 l i).f2 ≤ 9)
def GameOk (a b : Int) (l : List S140) : Prop := (0 ≤ a ∧ a ≤ 60) ∧ (0 ≤ b ∧ b ≤ 2147483647) ∧ (1 ≤ (l.length : Int) ∧ (l.length : Int) ≤ 4) ∧ ∀ i, i < l.length → SeatOk l i
theorem seed_spec (s : Int) : spec_l1Seed.f s = some (decide (0 ≤ s ∧ s ≤ 2147483647)) := by unfold spec_l1Seed.f; rw [in_some]; rfl
theorem seed_impl (s : Int) : impl_isSeed.f s = some (decide (0 ≤ s ∧ s ≤ 2147483647)) := by unfold impl_isSeed.f; rw [in_same, in_some]; rfl
theorem game_spec (a b : Int) (l : List S140) (t : Bool) (ht : t = true ↔ GameOk a b l) : Ev (fun k => spec_GoodGame.f k a b l) t := by
  have j0t : Ev (fun k => spec_GoodGame.j0 k true a b l) false := st_spec_GoodGame_j0 (ev_pos rfl (ev_some rfl))
  have no : ¬ GameOk a b l → t = false := bool_false ht
  refine ev_bindc (in_some _ _ _) (ev_ite (fun ha => ?_) fun ha => by rw [no (fun h => ha (decide_eq_true h.1))]; exact j0t)
  refine ev_bindc (seed_spec _) (ev_ite (fun hb => ?_) fun hb => by rw [no (fun h => hb (decide_eq_true h.2.1))]; exact j0t)
  refine ev_ite (fun hn => by rw [no (fun h => by have := h.2.2.1; omega)]; exact j0t) fun hn => ?_
  by_cases hn4 : decide ((l.length : Int) > 4) = true
  · rw [hn4, no (fun h => by have := h.2.2.1; have := of_decide_eq_true hn4; omega)]; exact j0t
  · rw [Bool.not_eq_true] at hn4
    rw [hn4]
    have hn4 := of_decide_eq_false hn4
    refine st_spec_GoodGame_j0 (ev_neg (by decide) ?_)
    refine ev_all l.length (fun k i => spec_GoodGame.l0 k l (l.length : Int) (i : Int)) (SeatOk l) true t ?_ ?_ ?_ ?_
    · rw [ht]; unfold GameOk; exact ⟨fun h => ⟨rfl, h.2.2.2⟩, fun h => ⟨of_decide_eq_true ha, of_decide_eq_true hb, by omega, h.2⟩⟩
    · exact st_spec_GoodGame_l0 (ev_neg (by omega) (ev_some rfl))
    · intro i hi _ ⟨h0, h1, h2⟩ r hr
      refine st_spec_GoodGame_l0 (ev_pos (by omega) (ev_pos (by omega) (ev_pos (by omega) (ev_bindc (in_some _ _ _) (ev_pos (decide_eq_true h0) (ev_bindc (in_some _ _ _) (ev_pos (decide_eq_true h1) (ev_bindc (in_some _ _ _) (ev_pos (decide_eq_true h2) ?_)))))))))
      rw [w64s i (by omega)]; exact hr
    · intro i hi _ ho
      refine st_spec_GoodGame_l0 (ev_pos (by omega) (ev_pos (by omega) (ev_pos (by omega) (ev_bindc (in_some _ _ _) (ev_ite (fun h0 => ?_) fun _ => ev_some rfl)))))
      refine ev_bindc (in_some _ _ _) (ev_ite (fun h1 => ?_) fun _ => ev_some rfl)
      exact ev_bindc (in_some _ _ _) (ev_ite (fun h2 => absurd ⟨of_decide_eq_true h0, of_decide_eq_true h1, of_decide_eq_true h2⟩ ho) fun _ => ev_some rfl)
theorem seat_impl (l : List S140) (i : Nat) : ∃ c : Bool, impl_GoodGame_1.f (rd_T140 l i).f0 (rd_T140 l i).f1 (rd_T140 l i).f2 = some c ∧ (c = true ↔ ¬ SeatOk l i) := by
  unfold impl_GoodGame_1.f SeatOk
  simp only [in_same, in_some, Option.bind_some]
  generalize rd_T140 l i = x
  by_cases h0 : 0 ≤ x.f0 ∧ x.f0 ≤ 63 <;> by_cases h1 : 0 ≤ x.f1 ∧ x.f1 ≤ 63 <;> by_cases h2 : 0 ≤ x.f2 ∧ x.f2 ≤ 9 <;> simp [h0, h1, h2]
theorem game_impl (a b : Int) (l : List S140) (hl : l.length ≤ 1048576) (t : Bool) (ht : t = true ↔ GameOk a b l) : Ev (fun k => impl_GoodGame.f k a b l) t := by
  have no : ¬ GameOk a b l → false = t := fun h => (bool_false ht h).symm
  refine ev_bindc ((in_same _ _ _).trans (in_some _ _ _)) (ev_ite (fun ha => ?_) fun ha => ev_some (no (fun h => ha (decide_eq_true h.1))))
  refine ev_bindc (seed_impl _) (ev_ite (fun hb => ?_) fun hb => ev_some (no (fun h => hb (decide_eq_true h.2.1))))
  refine ev_bindc ((in_same _ _ _).trans (in_some _ _ _)) (ev_ite (fun hn => ?_) fun hn => ev_some (no (fun h => hn (decide_eq_true h.2.2.1))))
  obtain ⟨P, hP⟩ : ∃ P : Nat → Bool, ∀ i : Nat, impl_GoodGame_1.f (rd_T140 l i).f0 (rd_T140 l i).f1 (rd_T140 l i).f2 = some (P i) ∧ (P i = true ↔ ¬ SeatOk l i) := ⟨fun i => Classical.choose (seat_impl l i), fun i => Classical.choose_spec (seat_impl l i)⟩
  obtain ⟨c, hc⟩ := bool_of (∃ i, i < l.length ∧ P i = true)
  have := ev_contains slices_IndexFunc_w99.l0 (fun _ xs i => impl_GoodGame_1.f (rd_T140 xs i).f0 (rd_T140 xs i).f1 (rd_T140 xs i).f2) (fun _ _ _ _ => rfl) l (by omega) P (fun i _ => ev_eq (hP i).1) c hc
  refine Ev.bind (f := fun _ t => some (!t)) this (ev_some ?_)
  rw [Bool.eq_iff_iff, ht]
  unfold GameOk
  constructor
  · intro hcn
    refine ⟨of_decide_eq_true ha, of_decide_eq_true hb, of_decide_eq_true hn, fun i hi => ?_⟩
    rcases Classical.em (SeatOk l i) with h | h
    · exact h
    · have : c = true := hc.2 ⟨i, hi, (hP i).2.2 h⟩
      rw [this] at hcn; cases hcn
  · intro h
    rw [Bool.not_eq_true']
    refine bool_false hc ?_
    rintro ⟨i, hi, h'⟩
    exact (hP i).2.1 h' (h.2.2.2 i hi)
theorem game_same (a b : Int) (l : List S140) (hl : l.length ≤ 1048576) : ∃ t, Ev (fun k => spec_GoodGame.f k a b l) t ∧ Ev (fun k => impl_GoodGame.f k a b l) t ∧ (t = true ↔ GameOk a b l) := by
  obtain ⟨t, ht⟩ := bool_of (GameOk a b l)
  exact ⟨t, game_spec a b l t ht, game_impl a b l hl t ht, ht⟩
/-! ### sums -/
def sumStep (s n : Int) : Int := Int.tmod (wrap64 (wrap64 (31 * s) + n)) 1000003
theorem sumUp_l0 (l : List Int) (hl : l.length ≤ 4611686018427387903) (s : Int) : Ev (fun k => impl_sumUp.l0 k s l (l.length : Int) 0) (l.foldl sumStep s) := by
  refine ev_for1 l.length (fun k i (v : Int) => impl_sumUp.l0 k v l (l.length : Int) (i : Int)) (fun i v => v = (l.take i).foldl sumStep s) _ ?_ ?_ 0 s (Nat.zero_le _) (by simp)
  · rintro v rfl
    exact Ev.step (fun _ => rfl) (ev_neg (by omega) (ev_some (by rw [List.take_length])))
  · rintro i v hi rfl
    refine .inr ⟨_, rfl, fun r hr => Ev.step (fun _ => rfl) (ev_pos (by omega) (ev_pos (by omega) (ev_pos (by omega) ?_)))⟩
    rw [List.take_succ_eq_append_getElem hi, List.foldl_append] at hr
    rw [w64s i (by omega), rd_get hi]
    exact hr
theorem sumUp_ev (l : List Int) (hl : l.length ≤ 4611686018427387903) : Ev (fun k => impl_sumUp.f k l) (l.foldl sumStep 7) := sumUp_l0 l hl 7
/-! ### the laws' own helpers (by helpgen.py) -/
theorem szSeatS_some (xs : List S188) (g : xs.length * 24 ≤ 140737488351232 ∧ ∀ y ∈ xs, Ok188 y) (left : Int) (h0 : 0 ≤ left) (h1 : left ≤ 1048576) : ∃ r, Ev (fun _ => laws_szSeatS.f xs left) r ∧ (r < 0 ∨ 0 ≤ r ∧ r ≤ left ∧ xs.length ≤ 1048576) := by
  have g1 := g.1
  unfold laws_szSeatS.f
  rw [w64 (n := left - (xs.length : Int)) (by omega) (by omega)]
  refine exev_ite (fun _ => exev_some (.inl (by omega))) fun hc => ?_
  exact exev_some (.inr ⟨by omega, by omega, by omega⟩)
theorem szGame_some (a0 : Int) (a1 : Int) (l2 : List S188) (ga0 : In64 a0) (ga1 : In64 a1) (gl2 : l2.length * 24 ≤ 140737488351232 ∧ ∀ y ∈ l2, Ok188 y) (left : Int) (h0 : 0 ≤ left) (h1 : left ≤ 1048576) : ∃ r, Ev (fun _ => laws_szGame.f a0 a1 l2 left) r ∧ (r < 0 ∨ 0 ≤ r ∧ r ≤ left ∧ (l2.length ≤ 1048576)) := by
  unfold laws_szGame.f
  obtain ⟨r0, hr0, hq0⟩ := szSeatS_some l2 gl2 (left) (by omega) (by omega)
  refine exev_bind hr0 (exev_ite (fun _ => exev_some (.inl (by omega))) fun c0 => ?_)
  rcases hq0 with hq0 | ⟨u0, v0, w0⟩
  · omega
  exact exev_some (.inr ⟨by omega, by omega, w0⟩)
def cv188 (x : S188) : S140 := ⟨x.f0, x.f1, x.f2⟩
theorem toSeatS_ev (xs : List S188) (h : xs.length ≤ 1048576) : Ev (fun k => laws_toSeatS.f k xs) (xs.map cv188) := by
  refine ev_pos (by omega) (ev_pos (by have := h; omega) ?_)
  refine ev_copy2 laws_toSeatS.l0 (fun k xs i => laws_toSeat.f ((rd_T188 xs i).f0) ((rd_T188 xs i).f1) ((rd_T188 xs i).f2)) (fun t => (⟨t.1, t.2.1, t.2.2⟩ : S140)) cv188 (fun _ _ _ _ => rfl) xs (by have := h; omega) (fun i hi => ?_) _ (by simp)
  · have e : rd_T188 xs (i : Int) = xs[i] := getD_get hi
    rw [e]
    exact ⟨_, ev_eq rfl, rfl⟩
theorem toGame_ev (a0 : Int) (a1 : Int) (l2 : List S188) (hl2 : l2.length ≤ 1048576) : Ev (fun k => laws_toGame.f k a0 a1 l2) (a0, a1, (l2.map cv188)) := by
  unfold laws_toGame.f
  repeat (first | exact ev_some rfl | refine Ev.bind (toSeatS_ev _ hl2) ?_ | refine ev_bindc rfl ?_)
theorem eqSeat_self (a0 : Int) (a1 : Int) (a2 : Int) : laws_eqSeat.f a0 a1 a2 a0 a1 a2 = some true := by
  simp [laws_eqSeat.f]
theorem eqSeatS_ev (xs : List S140) (h : xs.length ≤ 1048576) : Ev (fun k => laws_eqSeatS.f k xs xs) true := by
  refine ev_pos rfl (ev_alike_self laws_eqSeatS.l0 (fun k xs ys i => laws_eqSeat.f ((rd_T140 xs i).f0) ((rd_T140 xs i).f1) ((rd_T140 xs i).f2) ((rd_T140 ys i).f0) ((rd_T140 ys i).f1) ((rd_T140 ys i).f2)) (fun _ _ _ _ => rfl) xs (by have := h; omega) (fun i hi => ?_))
  · exact ev_eq (eqSeat_self _ _ _)
theorem eqGame_ev (a0 : Int) (a1 : Int) (l2 : List S140) (hl2 : l2.length ≤ 1048576) : Ev (fun k => laws_eqGame.f k a0 a1 l2 a0 a1 l2) true := by
  unfold laws_eqGame.f
  repeat (first | exact ev_some rfl | refine Ev.bind (eqSeatS_ev l2 hl2) ?_ | refine ev_pos rfl ?_ | refine ev_neg (by simp) ?_)

def seatNums (x : S140) : List Int := [x.f0, x.f1, x.f2]
theorem sum_spec (l : List S140) (hl : l.length ≤ 4) (s : Int) : Ev (fun k => spec_GameSum.l0 k s l (l.length : Int) 0) ((l.flatMap seatNums).foldl sumStep s, true) := by
  refine ev_for1 l.length (fun k i (v : Int) => spec_GameSum.l0 k v l (l.length : Int) (i : Int)) (fun i v => v = ((l.take i).flatMap seatNums).foldl sumStep s) _ ?_ ?_ 0 s (Nat.zero_le _) (by simp)
  · rintro v rfl
    exact Ev.step (fun _ => rfl) (ev_neg (by omega) (ev_some (by rw [List.take_length])))
  · rintro i v hi rfl
    refine .inr ⟨_, rfl, fun r hr => Ev.step (fun _ => rfl) (ev_pos (by omega) (ev_pos (by omega) (ev_pos (by omega) ?_)))⟩
    rw [List.take_succ_eq_append_getElem hi, List.flatMap_append, List.foldl_append] at hr
    have e : rd_T140 l (i : Int) = l[i] := getD_get hi
    rw [w64s i (by omega), e]
    simpa [seatNums, sumStep] using hr
theorem nums_length (l : List S140) : (l.flatMap seatNums).length = 3 * l.length := by
  induction l with
  | nil => rfl
  | cons x r ih => simp only [List.flatMap_cons, List.length_append, List.length_cons, ih, seatNums, List.length_nil]; omega
theorem sum_impl (a b : Int) (l : List S140) (hl : l.length ≤ 4) : Ev (fun k => impl_Game_sum.f k a b l) (([a, b] ++ l.flatMap seatNums).foldl sumStep 7) := by
  refine ev_for1 l.length (fun k i (v : List Int) => impl_Game_sum.l0 k v l (l.length : Int) (i : Int)) (fun i v => v = [a, b] ++ (l.take i).flatMap seatNums) _ ?_ ?_ 0 [a, b] (Nat.zero_le _) (by simp)
  · rintro v rfl
    refine Ev.step (fun _ => rfl) (ev_neg (by omega) ?_)
    rw [List.take_length]
    exact Ev.bind (sumUp_ev _ (by rw [List.length_append, nums_length]; simp; omega)) (ev_some rfl)
  · rintro i v hi rfl
    refine .inr ⟨_, rfl, fun r hr => Ev.step (fun _ => rfl) (ev_pos (by omega) (ev_pos (by omega) (ev_pos (by omega) (ev_bindc rfl (ev_pos ?_ ?_)))))⟩
    · have := nums_length (l.take i)
      rw [List.length_append, this, List.length_take]; simp; omega
    · have e : rd_T140 l (i : Int) = l[i] := getD_get hi
      rw [List.take_succ_eq_append_getElem hi, List.flatMap_append, ← List.append_assoc] at hr
      rw [w64s i (by omega), e]
      simpa [seatNums] using hr
theorem same (a b : Int) (l : List S140) (hl : l.length ≤ 1048576) : ∃ w, Ev (fun k => spec_GameSum.f k a b l) w ∧ Ev (fun k => impl_GameSum.f k a b l) w := by
  obtain ⟨t, hs, hi, ht⟩ := game_same a b l hl
  cases t with
  | false => exact ⟨(0, false), Ev.bind hs (ev_neg (by decide) (ev_some rfl)), Ev.bind hi (ev_neg (by decide) (ev_some rfl))⟩
  | true =>
    have hok := ht.1 rfl
    have h4 : l.length ≤ 4 := by have := hok.2.2.1; omega
    refine ⟨(([a, b] ++ l.flatMap seatNums).foldl sumStep 7, true), Ev.bind hs (ev_pos rfl ?_), Ev.bind hi (ev_pos rfl (Ev.bind (sum_impl a b l h4) (ev_some rfl)))⟩
    have := sum_spec l h4 (sumStep (sumStep 7 a) b)
    have e : (wrap64 (wrap64 (31 * (wrap64 (217 + a)).tmod 1000003) + b)).tmod 1000003 = sumStep (sumStep 7 a) b := by
      unfold sumStep
      rw [show wrap64 (31 * 7) = 217 by unfold wrap64; omega]
    rw [List.foldl_append, e]
    exact this
theorem FnExactGameSum : ∀ (a0_0 : Int) (a0_1 : Int) (l0_2 : List (S188)), (In64 a0_0) → (In64 a0_1) → (l0_2.length * 24 ≤ 140737488351232 ∧ ∀ y ∈ l0_2, Ok188 y) → ∃ k, laws_FnExactGameSum.f k a0_0 a0_1 l0_2 = some true := by
  intro a b xs ga gb gl
  refine Ev.rounds (g := fun k => laws_FnExactGameSum.f k a b xs) ?_
  obtain ⟨r, hr, h | ⟨h0, h1, hx⟩⟩ := szGame_some a b xs ga gb gl 1048576 (by omega) (by omega)
  · exact Ev.bind hr (ev_pos h (ev_some rfl))
  · have tx := toGame_ev a b xs hx
    have hx' : (xs.map cv188).length ≤ 1048576 := by rw [List.length_map]; exact hx
    obtain ⟨w, hs, hi⟩ := same a b (xs.map cv188) hx'
    refine Ev.bind hr (ev_neg (by omega) (Ev.bind tx (Ev.bind hs (Ev.bind tx (Ev.bind hi (ev_pos rfl ?_))))))
    have e : (w.2 != w.2) = false := by simp
    rw [e]
    exact st_laws_FnExactGameSum_j0 (ev_neg (by decide) (Ev.bind tx (Ev.bind (eqGame_ev a b _ hx') (ev_pos rfl (ev_some rfl)))))
end Go.Proofs.Ytfghbecipdjcdaa.Pure
