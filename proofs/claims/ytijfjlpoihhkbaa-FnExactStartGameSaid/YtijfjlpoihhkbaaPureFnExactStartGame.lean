/- The law FnExactStartGame over plain numbers: it answers true. No condition beyond the numbers' own kinds. -/
import Derived.Test.YtijfjlpoihhkbaaPFnExactStartGamex3
import Derived.Test.YtijfjlpoihhkbaaPlain
namespace Go.Proofs.Ytijfjlpoihhkbaa.Pure
open Go.RowKit Go.Proofs.Ytijfjlpoihhkbaa.PFnExactStartGame Go.Proofs.YtijfjlpoihhkbaaW.PrintWords Go.Proofs.YtijfjlpoihhkbaaW.PrintLast Go.Proofs.YtijfjlpoihhkbaaW.PrintMore Go.Proofs.YtijfjlpoihhkbaaO

theorem st_spec_StartGame_j0 {r : (Int × Int × (List (S114)) × Bool)} {x0 : Int} {x1 : Int} {x15 : Bool} (h : Ev (fun k => if x15 = true then (some (0, 0, ([] : List (S114)), false)) else (spec_StartGame.l0 k x0 0 0 x1 ([] : List (S114)))) r) : Ev (fun k => spec_StartGame.j0 k x0 x1 x15) r := Ev.step (fun k => by rw [spec_StartGame.j0]) h
theorem st_spec_StartGame_l0 {r : (Int × Int × (List (S114)) × Bool)} {x0 : Int} {x7 : Int} {x106000 : Int} {x106001 : Int} {x106002 : List (S114)} (h : Ev (fun k => if x7 < x0 then (if x106002.length < 5864062014805 then (spec_StartGame.l0 k x0 (wrap64 (x7 + 1)) x106000 x106001 (x106002 ++ [(⟨wrap64 (8 * x7), wrap64 (8 * x7), 9⟩ : S114)])) else (none)) else (some (x106000, x106001, x106002, true))) r) : Ev (fun k => spec_StartGame.l0 k x0 x7 x106000 x106001 x106002) r := Ev.step (fun k => by rw [spec_StartGame.l0]) h
theorem st_impl_StartGame_j0 {r : (Int × Int × (List (S114)) × Bool)} {x0 : Int} {x1 : Int} {x15 : Bool} (h : Ev (fun k => if x15 = true then (some (0, 0, ([] : List (S114)), false)) else (impl_StartGame.l0 k x0 0 0 x1 ([] : List (S114)))) r) : Ev (fun k => impl_StartGame.j0 k x0 x1 x15) r := Ev.step (fun k => by rw [impl_StartGame.j0]) h
theorem st_impl_StartGame_l0 {r : (Int × Int × (List (S114)) × Bool)} {x19 : Int} {x20 : Int} {x114000 : Int} {x114001 : Int} {x114002 : List (S114)} (h : Ev (fun k => if x20 < x19 then (if x114002.length < 5864062014805 then (impl_StartGame.l0 k x19 (wrap64 (x20 + 1)) x114000 x114001 (x114002 ++ [(⟨wrap64 (8 * x20), wrap64 (8 * x20), 9⟩ : S114)])) else (none)) else (some (x114000, x114001, x114002, true))) r) : Ev (fun k => impl_StartGame.l0 k x19 x20 x114000 x114001 x114002) r := Ev.step (fun k => by rw [impl_StartGame.l0]) h
theorem st_laws_eqSeatS_l0 {r : (Bool)} {x0 : List (S114)} {x1 : List (S114)} {x5 : Int} (h : Ev (fun k => if x5 < (x0.length : Int) then (if 0 ≤ x5 then (if x5 < (x1.length : Int) then ((laws_eqSeat.f ((rd_T114 x0 x5).f0) ((rd_T114 x0 x5).f1) ((rd_T114 x0 x5).f2) ((rd_T114 x1 x5).f0) ((rd_T114 x1 x5).f1) ((rd_T114 x1 x5).f2)).bind fun t121 => (if t121 = true then (laws_eqSeatS.l0 k x0 x1 (wrap64 (x5 + 1))) else (some false))) else (none)) else (none)) else (some true)) r) : Ev (fun k => laws_eqSeatS.l0 k x0 x1 x5) r := Ev.step (fun k => by rw [laws_eqSeatS.l0]) h
theorem st_laws_markSeatS_l0 {r : (Int × (List (S114)))} {x0 : List (S114)} {x1 : Int} {x5 : Int} (h : Ev (fun k => if x5 < (x0.length : Int) then (if 0 ≤ x5 then ((some (x0.set (x5 : Int).toNat (⟨x1, (rd_T114 x0 x5).f1, (rd_T114 x0 x5).f2⟩ : S114) : List (S114))).bind fun y125 => ((some (y125.set (x5 : Int).toNat (⟨(rd_T114 y125 x5).f0, wrap64 (x1 + 1), (rd_T114 y125 x5).f2⟩ : S114) : List (S114))).bind fun y126 => (laws_markSeatS.l0 k (y126.set (x5 : Int).toNat (⟨(rd_T114 y126 x5).f0, (rd_T114 y126 x5).f1, wrap64 ((wrap64 (x1 + 1)) + 1)⟩ : S114)) (wrap64 ((wrap64 ((wrap64 (x1 + 1)) + 1)) + 1)) (wrap64 (x5 + 1))))) else (none)) else (some (x1, x0))) r) : Ev (fun k => laws_markSeatS.l0 k x0 x1 x5) r := Ev.step (fun k => by rw [laws_markSeatS.l0]) h
theorem st_laws_heldSeatS_l0 {r : (Int)} {x0 : List (S114)} {x1 : Int} {x5 : Int} (h : Ev (fun k => if x5 < (x0.length : Int) then (if 0 ≤ x5 then (if ((rd_T114 x0 x5).f0) = x1 then (if ((rd_T114 x0 x5).f1) = (wrap64 (x1 + 1)) then (if ((rd_T114 x0 x5).f2) = (wrap64 ((wrap64 (x1 + 1)) + 1)) then (laws_heldSeatS.l0 k x0 (wrap64 ((wrap64 ((wrap64 (x1 + 1)) + 1)) + 1)) (wrap64 (x5 + 1))) else (some (-1))) else (some (-1))) else (some (-1))) else (none)) else (some x1)) r) : Ev (fun k => laws_heldSeatS.l0 k x0 x1 x5) r := Ev.step (fun k => by rw [laws_heldSeatS.l0]) h
theorem st_laws_FnExactStartGame_j0 {r : (Bool)} {x0 : Int} {x1 : Int} {x6 : Bool} {x33 : Bool} {x143000 : Int} {x143001 : Int} {x143002 : List (S114)} {x150000 : Int} {x150001 : Int} {x150002 : List (S114)} (h : Ev (fun k => if x33 = true then (some false) else ((laws_markGame.f k x150000 x150001 x150002 1).bind fun bt151 => ((laws_heldGame.f k x150000 x150001 bt151.2 1).bind fun t153 => (if t153 < 0 then (some false) else (if t153 = bt151.1 then ((impl_StartGame.f k x0 x1).bind fun bt154 => ((laws_eqGame.f k bt154.1 bt154.2.1 bt154.2.2.1 x143000 x143001 x143002).bind fun t161 => (if t161 = true then (laws_FnExactStartGame.j1 k bt151.1 (bt154.2.2.2 != x6) x150000 x150001 bt151.2) else (laws_FnExactStartGame.j1 k bt151.1 true x150000 x150001 bt151.2)))) else (some false)))))) r) : Ev (fun k => laws_FnExactStartGame.j0 k x0 x1 x6 x33 x143000 x143001 x143002 x150000 x150001 x150002) r := Ev.step (fun k => by rw [laws_FnExactStartGame.j0]) h
theorem st_laws_FnExactStartGame_j1 {r : (Bool)} {x9 : Int} {x59 : Bool} {x150000 : Int} {x150001 : Int} {x150002 : List (S114)} (h : Ev (fun k => if x59 = true then (some false) else ((laws_heldGame.f k x150000 x150001 x150002 1).bind fun t162 => (if t162 < 0 then (some false) else (if t162 = x9 then (some true) else (some false))))) r) : Ev (fun k => laws_FnExactStartGame.j1 k x9 x59 x150000 x150001 x150002) r := Ev.step (fun k => by rw [laws_FnExactStartGame.j1]) h
theorem in_same (a b c : Int) : impl_inRange.f a b c = spec_l1In.f a b c := rfl
theorem in_some (a b c : Int) : spec_l1In.f a b c = some (decide (b ≤ a ∧ a ≤ c)) := by
  unfold spec_l1In.f
  split <;> simp_all <;> omega
/-! ### a game at its start -/
def seatOf (i : Nat) : S114 := ⟨8 * (i : Int), 8 * (i : Int), 9⟩
def seatsOf (n : Nat) : List S114 := (List.range n).map seatOf
theorem seatsOf_succ (n : Nat) : seatsOf (n + 1) = seatsOf n ++ [seatOf n] := by simp [seatsOf, List.range_succ]
theorem seatsOf_length (n : Nat) : (seatsOf n).length = n := by simp [seatsOf]
theorem start_spec (n : Nat) (hn : n ≤ 4) (seed : Int) : Ev (fun k => spec_StartGame.l0 k (n : Int) 0 0 seed []) (0, seed, seatsOf n, true) := by
  refine ev_for1 n (fun k i (s : List S114) => spec_StartGame.l0 k (n : Int) (i : Int) 0 seed s) (fun i s => s = seatsOf i) _ ?_ ?_ 0 [] (Nat.zero_le _) rfl
  · rintro s rfl
    exact st_spec_StartGame_l0 (ev_neg (by omega) (ev_some rfl))
  · rintro i s hi rfl
    refine .inr ⟨_, rfl, fun r hr => st_spec_StartGame_l0 (ev_pos (by omega) (ev_pos (by rw [seatsOf_length]; omega) ?_))⟩
    rw [w64s i (by omega), w64 (n := 8 * (i : Int)) (by omega) (by omega)]
    rw [seatsOf_succ] at hr
    exact hr
theorem start_impl (n : Nat) (hn : n ≤ 4) (seed : Int) : Ev (fun k => impl_StartGame.l0 k (n : Int) 0 0 seed []) (0, seed, seatsOf n, true) := by
  refine ev_for1 n (fun k i (s : List S114) => impl_StartGame.l0 k (n : Int) (i : Int) 0 seed s) (fun i s => s = seatsOf i) _ ?_ ?_ 0 [] (Nat.zero_le _) rfl
  · rintro s rfl
    exact st_impl_StartGame_l0 (ev_neg (by omega) (ev_some rfl))
  · rintro i s hi rfl
    refine .inr ⟨_, rfl, fun r hr => st_impl_StartGame_l0 (ev_pos (by omega) (ev_pos (by rw [seatsOf_length]; omega) ?_))⟩
    rw [w64s i (by omega), w64 (n := 8 * (i : Int)) (by omega) (by omega)]
    rw [seatsOf_succ] at hr
    exact hr
theorem seed_spec (s : Int) : spec_l1Seed.f s = some (decide (0 ≤ s ∧ s ≤ 2147483647)) := by unfold spec_l1Seed.f; rw [in_some]; rfl
theorem seed_impl (s : Int) : impl_isSeed.f s = some (decide (0 ≤ s ∧ s ≤ 2147483647)) := by unfold impl_isSeed.f; rw [in_same, in_some]; rfl
theorem start_same (n seed : Int) : ∃ f c l b, Ev (fun k => spec_StartGame.f k n seed) (f, c, l, b) ∧ Ev (fun k => impl_StartGame.f k n seed) (f, c, l, b) ∧ l.length ≤ 4 ∧ (b = true → f = 0 ∧ c = seed ∧ 0 ≤ seed ∧ seed ≤ 2147483647 ∧ 1 ≤ n ∧ n ≤ 4 ∧ l = seatsOf n.toNat) ∧ (b = false → l = []) := by
  have s0t : Ev (fun k => spec_StartGame.j0 k n seed true) (0, 0, [], false) := st_spec_StartGame_j0 (ev_pos rfl (ev_some rfl))
  have i0t : Ev (fun k => impl_StartGame.j0 k n seed true) (0, 0, [], false) := st_impl_StartGame_j0 (ev_pos rfl (ev_some rfl))
  by_cases hn : decide (1 ≤ n ∧ n ≤ 4) = true
  · by_cases hs : decide (0 ≤ seed ∧ seed ≤ 2147483647) = true
    · have hn' := of_decide_eq_true hn
      have hs' := of_decide_eq_true hs
      obtain ⟨m, rfl⟩ := Int.eq_ofNat_of_zero_le (by omega : 0 ≤ n)
      refine ⟨0, seed, seatsOf m, true, ev_bindc (in_some _ _ _) (ev_pos hn (ev_bindc (seed_spec _) ?_)), ev_bindc ((in_same _ _ _).trans (in_some _ _ _)) (ev_pos hn (ev_bindc (seed_impl _) ?_)), by rw [seatsOf_length]; omega, fun _ => ⟨rfl, rfl, hs'.1, hs'.2, hn'.1, hn'.2, by rw [Int.toNat_natCast]⟩, fun h => (by cases h)⟩
      · rw [hs]; exact st_spec_StartGame_j0 (ev_neg (by decide) (start_spec m (by omega) seed))
      · rw [hs]; exact st_impl_StartGame_j0 (ev_neg (by decide) (start_impl m (by omega) seed))
    · rw [Bool.not_eq_true] at hs
      refine ⟨0, 0, [], false, ev_bindc (in_some _ _ _) (ev_pos hn (ev_bindc (seed_spec _) ?_)), ev_bindc ((in_same _ _ _).trans (in_some _ _ _)) (ev_pos hn (ev_bindc (seed_impl _) ?_)), by simp, ⟨fun h => (by cases h), fun _ => rfl⟩⟩
      · rw [hs]; exact s0t
      · rw [hs]; exact i0t
  · exact ⟨0, 0, [], false, ev_bindc (in_some _ _ _) (ev_neg hn s0t), ev_bindc ((in_same _ _ _).trans (in_some _ _ _)) (ev_neg hn i0t), by simp, ⟨fun h => (by cases h), fun _ => rfl⟩⟩
/-! ### the law's own helpers over seats and games -/
theorem eqSeat_self (a b c : Int) : laws_eqSeat.f a b c a b c = some true := by simp [laws_eqSeat.f]
theorem eqSeatS_ev (xs : List S114) (h : xs.length ≤ 1048576) : Ev (fun k => laws_eqSeatS.f k xs xs) true := by
  refine ev_pos rfl ?_
  exact ev_alike_self laws_eqSeatS.l0 (fun _ xs ys i => laws_eqSeat.f ((rd_T114 xs i).f0) ((rd_T114 xs i).f1) ((rd_T114 xs i).f2) ((rd_T114 ys i).f0) ((rd_T114 ys i).f1) ((rd_T114 ys i).f2)) (fun _ _ _ _ => rfl) xs (by omega) (fun i hi => ev_eq (eqSeat_self _ _ _))
theorem eqGame_ev (a b : Int) (xs : List S114) (h : xs.length ≤ 1048576) : Ev (fun k => laws_eqGame.f k a b xs a b xs) true := ev_pos rfl (ev_pos rfl (Ev.bind (eqSeatS_ev xs h) (ev_pos rfl (ev_some rfl))))
def MarkSeat (x : S114) (c d : Int) : Prop := x = ⟨c, c + 1, c + 1 + 1⟩ ∧ d = c + 1 + 1 + 1
theorem rd_set_seat {xs : List S114} {i : Nat} (h : i < xs.length) (v : S114) : rd_T114 (xs.set i v) (i : Int) = v := by
  unfold rd_T114
  rw [getD_get (by simpa using h), List.getElem_set_self]
theorem markSeatS_ev (xs : List S114) (hl : xs.length ≤ 1048576) (c : Int) (hc0 : 0 ≤ c) (hc1 : c ≤ 1152921504606846976) :
    ∃ ys d, Chain MarkSeat ys c d ∧ c ≤ d ∧ d ≤ c + 3 * xs.length ∧ ys.length = xs.length ∧ Ev (fun k => laws_markSeatS.f k xs c) (d, ys) := by
  refine ev_mark (fun k zs c i => laws_markSeatS.l0 k zs c (i : Int)) MarkSeat (fun _ => True) 3 (by omega) (by omega) ?_ ?_ xs (fun _ _ => trivial) hl c hc0 hc1
  · intro zs c
    exact st_laws_markSeatS_l0 (ev_neg (by omega) (ev_some rfl))
  · intro zs c i hi h20 _ h0 h1
    refine ⟨⟨c, c + 1, c + 1 + 1⟩, c + 1 + 1 + 1, ⟨rfl, rfl⟩, by omega, by omega, fun r hr => st_laws_markSeatS_l0 (ev_pos (by omega) (ev_pos (by omega) ?_))⟩
    simp only [Option.bind_some, Int.toNat_natCast, rd_set_seat hi, List.set_set, w64s i (by omega), w64 (n := c + 1) (by omega) (by omega), w64 (n := c + 1 + 1) (by omega) (by omega), w64 (n := c + 1 + 1 + 1) (by omega) (by omega)]
    exact hr
theorem heldSeatS_ev (ys : List S114) (hl : ys.length ≤ 1048576) (c d : Int) (hc : 0 ≤ c) (hd : d ≤ 2305843009213693952) (h : Chain MarkSeat ys c d) : Ev (fun k => laws_heldSeatS.f k ys c) d := by
  refine ev_held (fun k zs c i => laws_heldSeatS.l0 k zs c (i : Int)) MarkSeat (fun x c d h => by have := h.2; omega) ?_ ?_ ys hl c d hc hd h
  · intro zs c
    exact st_laws_heldSeatS_l0 (ev_neg (by omega) (ev_some rfl))
  · intro zs c c' i hi h20 hE h0 h1 r hr
    obtain ⟨hx, rfl⟩ := hE
    have hg : rd_T114 zs (i : Int) = ⟨c, c + 1, c + 1 + 1⟩ := by unfold rd_T114; rw [getD_get hi, hx]
    refine st_laws_heldSeatS_l0 (ev_pos (by omega) (ev_pos (by omega) ?_))
    rw [hg]
    simp only [w64s i (by omega), w64 (n := c + 1) (by omega) (by omega), w64 (n := c + 1 + 1) (by omega) (by omega), w64 (n := c + 1 + 1 + 1) (by omega) (by omega)]
    simp only [if_true]
    exact hr
theorem FnExactStartGame : laws_FnExactStartGame.Pure := by
  intro n seed _ _
  obtain ⟨f, c, l, b, hs, hi, hl, _, _⟩ := start_same n seed
  refine Ev.rounds (g := fun k => laws_FnExactStartGame.f k n seed) ?_
  obtain ⟨ys, d, hch, h1, h2, h3, hm⟩ := markSeatS_ev l (by omega) 1 (by omega) (by omega)
  have hh := heldSeatS_ev ys (by omega) 1 d (by omega) (by omega) hch
  have hh' : Ev (fun k => laws_heldGame.f k f c ys 1) d := Ev.bind hh (ev_neg (by omega) (ev_some rfl))
  have e : (b != b) = false := by simp
  refine Ev.bind hs (Ev.bind hi (Ev.bind (eqGame_ev f c l (by omega)) (ev_pos rfl ?_)))
  dsimp only
  rw [e]
  refine st_laws_FnExactStartGame_j0 (ev_neg (by decide) (Ev.bind (Ev.bind hm (ev_some rfl)) (Ev.bind hh' (ev_neg (by omega) (ev_pos rfl (Ev.bind hi (Ev.bind (eqGame_ev f c l (by omega)) (ev_pos rfl ?_))))))))
  dsimp only
  rw [e]
  exact st_laws_FnExactStartGame_j1 (ev_neg (by decide) (Ev.bind hh' (ev_neg (by omega) (ev_pos rfl (ev_some rfl)))))
end Go.Proofs.Ytijfjlpoihhkbaa.Pure
