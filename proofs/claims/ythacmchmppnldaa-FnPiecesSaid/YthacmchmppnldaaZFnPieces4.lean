/- Texts of a row. -/
import Derived.Test.YthacmchmppnldaaZFnPieces3
namespace Go.Proofs.Ythacmchmppnldaa.PFnPieces
open Go.RowKit Go.Proofs.YthacmchmppnldaaW.PrintWords Go.Proofs.YthacmchmppnldaaW.PrintLast Go.Proofs.YthacmchmppnldaaW.PrintMore
attribute [local go_sem] max2_int min2_int max_two min_two max_three min_three max_four min_four   -- for this text's walks alone
set_option linter.unusedVariables false
set_option linter.unusedSimpArgs false
mutual
def spec_GoodClock.j0 : Nat → Bool → Int → List (S47) → Option (Bool)
 | 0, _, _, _ => none
 | k + 1, x14, x160000, x160001 => if x14 = true then (some false) else (spec_GoodClock.l0 k x160001 (x160001.length : Int) 0 x160000 x160001)
def spec_GoodClock.l0 : Nat → List (S47) → Int → Int → Int → List (S47) → Option (Bool)
 | 0, _, _, _, _, _ => none
 | k + 1, x16, x17, x18, x160000, x160001 => if x18 < x17 then (if 0 ≤ x18 then (if x18 < (x16.length : Int) then ((spec_l1In.f ((rd_T47 x16 x18).f0) 0 999).bind fun t163 => (if t163 = true then (if x18 > 0 then (if 0 ≤ (wrap64 (x18 - 1)) then (if (wrap64 (x18 - 1)) < (x160001.length : Int) then (if ((rd_T47 x160001 (wrap64 (x18 - 1))).f0) ≥ ((rd_T47 x16 x18).f0) then (some false) else ((spec_l1In.f ((rd_T47 x16 x18).f1) (wrap64 (x160000 + 1)) 200000).bind fun t165 => (if t165 = true then ((spec_l1In.f ((rd_T47 x16 x18).f2) 0 100000).bind fun t166 => (if t166 = true then ((spec_l1In.f ((rd_T47 x16 x18).f3) 1 1000).bind fun t167 => (if t167 = true then (if ((rd_T47 x16 x18).f2) = 0 then (if ((rd_T47 x16 x18).f3) = 1 then (spec_GoodClock.l0 k x16 x17 (wrap64 (x18 + 1)) x160000 x160001) else (some false)) else (spec_GoodClock.l0 k x16 x17 (wrap64 (x18 + 1)) x160000 x160001)) else (some false))) else (some false))) else (some false)))) else (none)) else (none)) else ((spec_l1In.f ((rd_T47 x16 x18).f1) (wrap64 (x160000 + 1)) 200000).bind fun t168 => (if t168 = true then ((spec_l1In.f ((rd_T47 x16 x18).f2) 0 100000).bind fun t169 => (if t169 = true then ((spec_l1In.f ((rd_T47 x16 x18).f3) 1 1000).bind fun t170 => (if t170 = true then (if ((rd_T47 x16 x18).f2) = 0 then (if ((rd_T47 x16 x18).f3) = 1 then (spec_GoodClock.l0 k x16 x17 (wrap64 (x18 + 1)) x160000 x160001) else (some false)) else (spec_GoodClock.l0 k x16 x17 (wrap64 (x18 + 1)) x160000 x160001)) else (some false))) else (some false))) else (some false)))) else (some false))) else (none)) else (none)) else (some true)
end
def spec_GoodClock.f (k : Nat) (a0_0 : Int) (l0_1 : List (S47)) : Option (Bool) := (spec_l1In.f a0_0 0 100000).bind fun t160 => (if t160 = true then (spec_GoodClock.j0 k (decide ((l0_1.length : Int) > 20)) a0_0 l0_1) else (spec_GoodClock.j0 k true a0_0 l0_1))
theorem spec_GoodClock.mono_l : ∀ k, (∀ y0 y1 y2, LeO (spec_GoodClock.j0 k y0 y1 y2) (spec_GoodClock.j0 (k + 1) y0 y1 y2)) ∧ (∀ y0 y1 y2 y3 y4, LeO (spec_GoodClock.l0 k y0 y1 y2 y3 y4) (spec_GoodClock.l0 (k + 1) y0 y1 y2 y3 y4))
 | 0 => ⟨fun _ _ _ r h => by simp [spec_GoodClock.j0] at h, fun _ _ _ _ _ r h => by simp [spec_GoodClock.l0] at h⟩
 | k + 1 => by
  obtain ⟨ih0, ih1⟩ := spec_GoodClock.mono_l k
  refine ⟨?_, ?_⟩
  ·intro y0 y1 y2
   unfold spec_GoodClock.j0
   repeat' first
   | (with_reducible exact ih0 _ _ _)
   | (with_reducible exact ih1 _ _ _ _ _)
   | (with_reducible first | exact LeO.refl _ | exact LeO.none _ | refine LeO.ite ?_ ?_ | refine LeO.bind ?_ (fun _ => ?_))
   | exact ih0 _ _ _
   | exact ih1 _ _ _ _ _ | exact LeO.none _ | refine LeO.ite ?_ ?_ | refine LeO.bind ?_ (fun _ => ?_)
  ·intro y0 y1 y2 y3 y4
   unfold spec_GoodClock.l0
   repeat' first
   | (with_reducible exact ih0 _ _ _)
   | (with_reducible exact ih1 _ _ _ _ _)
   | (with_reducible first | exact LeO.refl _ | exact LeO.none _ | refine LeO.ite ?_ ?_ | refine LeO.bind ?_ (fun _ => ?_))
   | exact ih0 _ _ _
   | exact ih1 _ _ _ _ _ | exact LeO.none _ | refine LeO.ite ?_ ?_ | refine LeO.bind ?_ (fun _ => ?_)
theorem spec_GoodClock.mono : ∀ a0 a1 k, LeO (spec_GoodClock.f k a0 a1) (spec_GoodClock.f (k + 1) a0 a1) := by
 intro a0 a1 k
 obtain ⟨ih0, ih1⟩ := spec_GoodClock.mono_l k
 unfold spec_GoodClock.f
 repeat' first
   | (with_reducible exact ih0 _ _ _)
   | (with_reducible exact ih1 _ _ _ _ _)
   | (with_reducible first | exact LeO.refl _ | exact LeO.none _ | refine LeO.ite ?_ ?_ | refine LeO.bind ?_ (fun _ => ?_))
   | exact ih0 _ _ _
   | exact ih1 _ _ _ _ _ | exact LeO.none _ | refine LeO.ite ?_ ?_ | refine LeO.bind ?_ (fun _ => ?_)
def spec_GoodClock.T6 : Bool × List (List Nat × List Nat) := (true, [([], []), ([0], [0]), ([1], [1]), ([2], [2]), ([3, 2], [3]), ([4], [4]), ([5, 4], [4, 5]), ([6, 4, 4], [4, 6]), ([7], [7]), ([8, 7], [7, 8]), ([7], [7]), ([10, 7], [7, 10]), ([9, 11, 7], [7, 9, 11]), ([12, 7], [7, 12]), ([13, 7], [7, 13]), ([7], [7]), ([15, 7], [7, 15]), ([14, 16, 7], [7, 14, 16]), ([7, 17, 4], [4, 7, 17]), ([4, 18], [4, 18]), ([19, 7], [19]), ([20], [20]), ([21, 20], [20, 21]), ([20], [20]), ([23, 20], [20, 23]), ([24, 20], [20, 24]), ([22, 25, 20, 20], [20, 22, 25]), ([26, 20], [20, 26]), ([20, 27], [20, 27]), ([28, 26], [28]), ([29], [29]), ([30, 29], [29, 30]), ([31, 29, 29], [29, 31]), ([32, 29], [29, 32]), ([29, 33], [29, 33]), ([34, 32], [34]), ([35], [35]), ([36, 35], [35, 36]), ([37, 35, 35], [35, 37]), ([38, 35], [35, 38]), ([35, 39], [35, 39]), ([40, 38], [40]), ([41], [41]), ([42, 41], [41, 42]), ([43, 41], [41, 43]), ([44, 41, 41], [41, 44]), ([45], [45]), ([46, 45], [45, 46]), ([47, 45], [45, 47]), ([45, 48, 41], [41, 45, 48]), ([41, 49], [41, 49])])
def spec_GoodClock.B6 : List Nat := [0, 1, 3, 7, 15, 31, 63, 127, 255, 511, 255, 1279, 4095, 8191, 16383, 255, 33023, 131071, 262143, 524287, 1048575, 2097151, 4194303, 2097151, 10485759, 27262975, 67108863, 134217727, 268435455, 536870911, 1073741823, 2147483647, 4294967295, 8589934591, 17179869183, 34359738367, 68719476735, 137438953471, 274877906943, 549755813887, 1099511627775, 2199023255551, 4398046511103, 8796093022207, 17592186044415, 35184372088831, 70368744177663, 140737488355327, 281474976710655, 562949953421311, 1125899906842623]
theorem spec_GoodClock.tab6 : rtab .any (opsOf Try.f17 6) = spec_GoodClock.T6 := by kernel_rfl
theorem spec_GoodClock.bits6 : waitsOk spec_GoodClock.T6.2 spec_GoodClock.B6 = true := by kernel_rfl
set_option maxHeartbeats 8000000 in
set_option maxRecDepth 100000 in
theorem spec_GoodClock.calls (k : Nat) (a0_0 : Int) (A0_1 : Option Addr) (c0_1 : Nat) (l0_1 : List (S47)) (r : Bool) (w : World) (hr0_1 : Kd.C k47 w A0_1 l0_1.length l0_1) (hc0_1 : l0_1.length ≤ c0_1) (h : spec_GoodClock.f k a0_0 l0_1 = some r) :
  Calls Try.prog 17 #[.agg #[.int .i64 a0_0, .slice A0_1 l0_1.length c0_1]] w fun e w' => e = .returned (.bool r) ∧ Below w.heap.size w w' := by
 have hu25 := Try.underlying25
 have hu47 := Try.underlying47
 have HR0_1 := Aside0.mk hr0_1
 have HC0_1 := Aside0.mk hc0_1
 clear hr0_1 hc0_1
 have HB := Aside0.mk (Below.refl w.heap.size w)
 have H : ((spec_l1In.f a0_0 0 100000).bind fun t160 => (if t160 = true then (spec_GoodClock.j0 k (decide ((l0_1.length : Int) > 20)) a0_0 l0_1) else (spec_GoodClock.j0 k true a0_0 l0_1))) = some r := h
 clear h
 have HC2 := Aside0.mk H
 clear H
 go_enter Try.func17, Try.ntmps17
 go_upto_region 1 with (first | ((with_reducible refine gate_dst (N := 1) rfl ?_); (try (refine gate_guard (by rfl) ?_; dsimp only)); refine box_event rfl (N := 1) rfl (cs := #[.int .i64 a0_0, .slice A0_1 l0_1.length c0_1]) (t := 25) sE ?_; intro gb159 hg w3 hbox hb; have BK159 := Aside0.mk hbox; have GW159 := gS w hg (lU); have GE159 := gS w hg (lU); replace HB := bH (lU) hb; clear hb hbox hg))
 (try simp only [Act.put, List.setIfInBounds_toArray, List.set_cons_zero, List.set_cons_succ])
 go_cut [14] (fun v14 wc => ∃ (kq : Nat) (x14_1 : Bool), v14 = .bool x14_1 ∧ Aside0 (spec_GoodClock.j0 kq x14_1 a0_0 l0_1 = some r) ∧ Aside0 (kq ≤ k) ∧ Aside0 (wc.heap[gb159]? = some (.cells #[.int .i64 a0_0, (.slice A0_1 l0_1.length c0_1)] 25 (0, 0))) ∧ Aside0 (Below w.heap.size w wc))
 case first =>
  have H := HC2.out
  clear HC2
  replace H := Option.bind_eq_some_iff.mp H
  obtain ⟨t160, A40, H⟩ := H
  replace H : (if t160 = true then (spec_GoodClock.j0 k (decide ((l0_1.length : Int) > 20)) a0_0 l0_1) else (spec_GoodClock.j0 k true a0_0 l0_1)) = some r := H
  have A4 := Aside0.mk A40
  clear A40
  by_cases c5 : t160 = true
  ·subst c5
   have H1 : (spec_GoodClock.j0 k (decide ((l0_1.length : Int) > 20)) a0_0 l0_1) = some r := by rw [if_pos rfl] at H; exact H
   clear H
   have H := H1
   clear H1
   have H' := Aside0.mk H
   clear H
   have hcz6_0 := cz BK159 0 (.int .i64 a0_0)
   have hcz6_1 := cz BK159 1 (.slice A0_1 l0_1.length c0_1)
   have hfz6_0 := fz BK159 0
   have hfz6_1 := fz BK159 1
   go_wp2_with (first | ((with_reducible refine gate_callee (f := 18) rfl ?_); refine goesL_ (some 7) rfl rfl Try.func18 (by kernel_rfl) rfl #[.int .i64 a0_0, .int .i64 0, .int .i64 100000] rfl aE ?_; (with_reducible refine (spec_l1In.calls a0_0 0 100000 true _ A4.out).mono ?_); rintro e w' ⟨rfl, ⟨nd, rfl⟩⟩; refine ⟨_, rfl, ?_⟩))
   go_meet
   case rel => exact ⟨_, (decide ((l0_1.length : Int) > 20)), tE, H', ⟨by first | omega | exact Nat.le_refl _⟩, ⟨by refine bU ?_; exact BK159.out⟩, ⟨by repeat (first | (with_reducible first | exact HB.out | apply below_alloc | apply pw_below_drewN | apply below_drew1 | refine below_set ?_ GE159.out) | exact HB.out)⟩⟩
  ·replace c5 := Bool.eq_false_iff.mpr c5
   subst c5
   have H1 : (spec_GoodClock.j0 k true a0_0 l0_1) = some r := by rw [if_neg (show ¬ (false = true) by decide)] at H; exact H
   clear H
   have H := H1
   clear H1
   have H' := Aside0.mk H
   clear H
   have hcz7_0 := cz BK159 0 (.int .i64 a0_0)
   have hcz7_1 := cz BK159 1 (.slice A0_1 l0_1.length c0_1)
   have hfz7_0 := fz BK159 0
   have hfz7_1 := fz BK159 1
   go_wp2_with (first | ((with_reducible refine gate_callee (f := 18) rfl ?_); refine goesL_ (some 7) rfl rfl Try.func18 (by kernel_rfl) rfl #[.int .i64 a0_0, .int .i64 0, .int .i64 100000] rfl aE ?_; (with_reducible refine (spec_l1In.calls a0_0 0 100000 false _ A4.out).mono ?_); rintro e w' ⟨rfl, ⟨nd, rfl⟩⟩; refine ⟨_, rfl, ?_⟩))
   go_meet
   case rel => exact ⟨_, (true), tE, H', ⟨by first | omega | exact Nat.le_refl _⟩, ⟨by refine bU ?_; exact BK159.out⟩, ⟨by repeat (first | (with_reducible first | exact HB.out | apply below_alloc | apply pw_below_drewN | apply below_drew1 | refine below_set ?_ GE159.out) | exact HB.out)⟩⟩
 case rest =>
  clear HC2
  try clear c1
  try clear p2
  try clear c5
  try clear hcz6_0
  try clear hcz6_1
  try clear hcz7_0
  try clear hcz7_1
  try clear hfz6_0
  try clear hfz6_1
  try clear hfz7_0
  try clear hfz7_1
  obtain ⟨kq, x14_1, rfl, HA, HJ1, BK159, HB⟩ := hcut
  cases kq with
  | zero => exact absurd HA.out (by simp [spec_GoodClock.j0])
  | succ kj1 =>
   have H := HA.out
   clear HA
   simp only [spec_GoodClock.j0] at H
   by_cases c8 : x14_1 = true
   ·subst c8
    have H1 : (some false) = some r := by rw [if_pos rfl] at H; exact H
    clear H
    have H := H1
    clear H1
    obtain rfl := Option.some.inj H
    go_wp2
    go_ret
    exact ⟨eE, lV1 GE159⟩
   ·replace c8 := Bool.eq_false_iff.mpr c8
    subst c8
    have H1 : (spec_GoodClock.l0 kj1 l0_1 (l0_1.length : Int) 0 a0_0 l0_1) = some r := by rw [if_neg (show ¬ (false = true) by decide)] at H; exact H
    clear H
    have H := H1
    clear H1
    have H' := Aside0.mk H
    clear H
    have hcz9_0 := cz BK159 0 (.int .i64 a0_0)
    have hcz9_1 := cz BK159 1 (.slice A0_1 l0_1.length c0_1)
    have hfz9_0 := fz BK159 0
    have hfz9_1 := fz BK159 1
    go_wp2
    go_loopg [18] kj1 (fun kq v18 w' => ∃ (x18_2 : Int), v18 = .int .i64 x18_2 ∧ Aside0 (spec_GoodClock.l0 kq l0_1 (l0_1.length : Int) x18_2 a0_0 l0_1 = some r) ∧ Aside0 (kq ≤ kj1) ∧ Aside0 (w'.heap[gb159]? = some (.cells #[.int .i64 a0_0, (.slice A0_1 l0_1.length c0_1)] 25 (0, 0))) ∧ Aside0 (Below w.heap.size w w'))
    case atStart => exact ⟨(0), tE, H', ⟨Nat.le_refl _⟩, ⟨by refine bU ?_; exact BK159.out⟩, ⟨by repeat (first | (with_reducible first | exact HB.out | apply below_alloc | apply pw_below_drewN | apply below_drew1 | refine below_set ?_ GE159.out) | exact HB.out)⟩⟩
    case round =>
     clear H'
     try clear c1
     try clear p2
     try clear c5
     try clear c8
     try clear hcz6_0
     try clear hcz6_1
     try clear hcz7_0
     try clear hcz7_1
     try clear hcz9_0
     try clear hcz9_1
     try clear hfz6_0
     try clear hfz6_1
     try clear hfz7_0
     try clear hfz7_1
     try clear hfz9_0
     try clear hfz9_1
     try clear p2
     obtain ⟨x18_2, rfl, HA, HK2, BK159, HB⟩ := hrel
     cases gk with
     | zero => exact absurd HA.out (by simp [spec_GoodClock.l0])
     | succ k2 =>
      have H := HA.out
      clear HA
      simp only [spec_GoodClock.l0] at H
      by_cases c10 : x18_2 < (l0_1.length : Int)
      ·rw [if_pos c10] at H
       have c10b0 : decide (x18_2 < (l0_1.length : Int)) = true := decide_eq_true c10
       clear c10
       by_cases c11 : 0 ≤ x18_2
       ·rw [if_pos c11] at H
        have c11b0 : decide (0 ≤ x18_2) = true := decide_eq_true c11
        clear c11
        by_cases c12 : x18_2 < (l0_1.length : Int)
        ·rw [if_pos c12] at H
         have c12b0 : decide (x18_2 < (l0_1.length : Int)) = true := decide_eq_true c12
         clear c12
         replace H := Option.bind_eq_some_iff.mp H
         obtain ⟨t163, A130, H⟩ := H
         replace H : (if t163 = true then (if x18_2 > 0 then (if 0 ≤ (wrap64 (x18_2 - 1)) then (if (wrap64 (x18_2 - 1)) < (l0_1.length : Int) then (if ((rd_T47 l0_1 (wrap64 (x18_2 - 1))).f0) ≥ ((rd_T47 l0_1 x18_2).f0) then (some false) else ((spec_l1In.f ((rd_T47 l0_1 x18_2).f1) (wrap64 (a0_0 + 1)) 200000).bind fun t165 => (if t165 = true then ((spec_l1In.f ((rd_T47 l0_1 x18_2).f2) 0 100000).bind fun t166 => (if t166 = true then ((spec_l1In.f ((rd_T47 l0_1 x18_2).f3) 1 1000).bind fun t167 => (if t167 = true then (if ((rd_T47 l0_1 x18_2).f2) = 0 then (if ((rd_T47 l0_1 x18_2).f3) = 1 then (spec_GoodClock.l0 k2 l0_1 (l0_1.length : Int) (wrap64 (x18_2 + 1)) a0_0 l0_1) else (some false)) else (spec_GoodClock.l0 k2 l0_1 (l0_1.length : Int) (wrap64 (x18_2 + 1)) a0_0 l0_1)) else (some false))) else (some false))) else (some false)))) else (none)) else (none)) else ((spec_l1In.f ((rd_T47 l0_1 x18_2).f1) (wrap64 (a0_0 + 1)) 200000).bind fun t168 => (if t168 = true then ((spec_l1In.f ((rd_T47 l0_1 x18_2).f2) 0 100000).bind fun t169 => (if t169 = true then ((spec_l1In.f ((rd_T47 l0_1 x18_2).f3) 1 1000).bind fun t170 => (if t170 = true then (if ((rd_T47 l0_1 x18_2).f2) = 0 then (if ((rd_T47 l0_1 x18_2).f3) = 1 then (spec_GoodClock.l0 k2 l0_1 (l0_1.length : Int) (wrap64 (x18_2 + 1)) a0_0 l0_1) else (some false)) else (spec_GoodClock.l0 k2 l0_1 (l0_1.length : Int) (wrap64 (x18_2 + 1)) a0_0 l0_1)) else (some false))) else (some false))) else (some false)))) else (some false)) = some r := H
         have A13 := Aside0.mk A130
         clear A130
         by_cases c14 : t163 = true
         ·subst c14
          have H1 : (if x18_2 > 0 then (if 0 ≤ (wrap64 (x18_2 - 1)) then (if (wrap64 (x18_2 - 1)) < (l0_1.length : Int) then (if ((rd_T47 l0_1 (wrap64 (x18_2 - 1))).f0) ≥ ((rd_T47 l0_1 x18_2).f0) then (some false) else ((spec_l1In.f ((rd_T47 l0_1 x18_2).f1) (wrap64 (a0_0 + 1)) 200000).bind fun t165 => (if t165 = true then ((spec_l1In.f ((rd_T47 l0_1 x18_2).f2) 0 100000).bind fun t166 => (if t166 = true then ((spec_l1In.f ((rd_T47 l0_1 x18_2).f3) 1 1000).bind fun t167 => (if t167 = true then (if ((rd_T47 l0_1 x18_2).f2) = 0 then (if ((rd_T47 l0_1 x18_2).f3) = 1 then (spec_GoodClock.l0 k2 l0_1 (l0_1.length : Int) (wrap64 (x18_2 + 1)) a0_0 l0_1) else (some false)) else (spec_GoodClock.l0 k2 l0_1 (l0_1.length : Int) (wrap64 (x18_2 + 1)) a0_0 l0_1)) else (some false))) else (some false))) else (some false)))) else (none)) else (none)) else ((spec_l1In.f ((rd_T47 l0_1 x18_2).f1) (wrap64 (a0_0 + 1)) 200000).bind fun t168 => (if t168 = true then ((spec_l1In.f ((rd_T47 l0_1 x18_2).f2) 0 100000).bind fun t169 => (if t169 = true then ((spec_l1In.f ((rd_T47 l0_1 x18_2).f3) 1 1000).bind fun t170 => (if t170 = true then (if ((rd_T47 l0_1 x18_2).f2) = 0 then (if ((rd_T47 l0_1 x18_2).f3) = 1 then (spec_GoodClock.l0 k2 l0_1 (l0_1.length : Int) (wrap64 (x18_2 + 1)) a0_0 l0_1) else (some false)) else (spec_GoodClock.l0 k2 l0_1 (l0_1.length : Int) (wrap64 (x18_2 + 1)) a0_0 l0_1)) else (some false))) else (some false))) else (some false)))) = some r := by rw [if_pos rfl] at H; exact H
          clear H
          have H := H1
          clear H1
          by_cases c15 : x18_2 > 0
          ·rw [if_pos c15] at H
           have c15b0 : decide (0 < x18_2) = true := decide_eq_true c15
           clear c15
           obtain ⟨ji16, hji16⟩ : ∃ j_ : Int, (wrap64 (x18_2 - 1)) = j_ := ⟨_, rfl⟩
           replace H : (if 0 ≤ (ji16) then (if (ji16) < (l0_1.length : Int) then (if ((rd_T47 l0_1 (ji16)).f0) ≥ ((rd_T47 l0_1 x18_2).f0) then (some false) else ((spec_l1In.f ((rd_T47 l0_1 x18_2).f1) (wrap64 (a0_0 + 1)) 200000).bind fun t165 => (if t165 = true then ((spec_l1In.f ((rd_T47 l0_1 x18_2).f2) 0 100000).bind fun t166 => (if t166 = true then ((spec_l1In.f ((rd_T47 l0_1 x18_2).f3) 1 1000).bind fun t167 => (if t167 = true then (if ((rd_T47 l0_1 x18_2).f2) = 0 then (if ((rd_T47 l0_1 x18_2).f3) = 1 then (spec_GoodClock.l0 k2 l0_1 (l0_1.length : Int) (wrap64 (x18_2 + 1)) a0_0 l0_1) else (some false)) else (spec_GoodClock.l0 k2 l0_1 (l0_1.length : Int) (wrap64 (x18_2 + 1)) a0_0 l0_1)) else (some false))) else (some false))) else (some false)))) else (none)) else (none)) = some r := by first | (rw [hji16] at H; exact H) | (simp only [hji16] at H ⊢; exact H)
           (try rw [hji16] at A13)
           have hji16w : (IntKind.i64.wrap (x18_2 - 1)) = ji16 := (i64_w _).trans hji16
           by_cases c17 : 0 ≤ (ji16)
           ·rw [if_pos c17] at H
            have c17b0 : decide (0 ≤ (ji16)) = true := decide_eq_true c17
            clear c17
            by_cases c18 : (ji16) < (l0_1.length : Int)
            ·rw [if_pos c18] at H
             have c18b0 : decide ((ji16) < (l0_1.length : Int)) = true := decide_eq_true c18
             clear c18
             by_cases c19 : ((rd_T47 l0_1 (ji16)).f0) ≥ ((rd_T47 l0_1 x18_2).f0)
             ·rw [if_pos c19] at H
              have c19b0 : decide (((rd_T47 l0_1 x18_2).f0) ≤ ((rd_T47 l0_1 (ji16)).f0)) = true := decide_eq_true c19
              clear c19
              obtain rfl := Option.some.inj H
              have p161 : 0 ≤ (x18_2 : Int) := of_decide_eq_true hE
              have q161 : x18_2 < (l0_1.length : Int) := of_decide_eq_true hE
              obtain ⟨ad161, e161, hx161_0, hx161_1, hx161_2, hx161_3⟩ := at_T47 HR0_1.out x18_2 p161 q161
              cases e161
              replace hx161_0 := (HB.out.cell (World.block_lt_of_cell? w _ hx161_0)).trans hx161_0
              replace hx161_1 := (HB.out.cell (World.block_lt_of_cell? w _ hx161_1)).trans hx161_1
              replace hx161_2 := (HB.out.cell (World.block_lt_of_cell? w _ hx161_2)).trans hx161_2
              replace hx161_3 := (HB.out.cell (World.block_lt_of_cell? w _ hx161_3)).trans hx161_3
              replace p161 := eq_true p161
              replace q161 := eq_true q161
              try go_wp2_with (first | ((with_reducible refine gate_dst (N := 4) rfl ?_); (try (refine gate_guard (by rfl) ?_; dsimp only)); refine box_event rfl (N := 4) rfl (cs := #[.int .i64 0, .int .i64 0, .int .i64 0, .int .i64 0]) (t := 47) sE ?_; intro gb162 hg w20 hbox hb; have BK162 := Aside0.mk hbox; have GW162 := gS w hg (lV1 GE159); have GE162 := gS w hg (lV1 GE159); replace HB := bH (lV1 GE159) hb; have NB159_162 := nL hg (bV BK159); have NB162_159 := nG hg (bV BK159); replace BK159 := bB (bV BK159) hb; clear hb hbox hg; have hnb21 := NB162_159.out; have hnc21 := NB159_162.out; have hcz22_0 := cz BK162 0 (.int .i64 0); have hcz22_1 := cz BK162 1 (.int .i64 0); have hcz22_2 := cz BK162 2 (.int .i64 0); have hcz22_3 := cz BK162 3 (.int .i64 0); have hfz22_0 := fz BK162 0; have hfz22_1 := fz BK162 1; have hfz22_2 := fz BK162 2; have hfz22_3 := fz BK162 3))
              have n0_ : Aside0 (((((w20.setCell ⟨gb162, 0, none⟩ (.int .i64 ((rd_T47 l0_1 x18_2).f0))).setCell ⟨gb162, 1, none⟩ (.int .i64 ((rd_T47 l0_1 x18_2).f1))).setCell ⟨gb162, 2, none⟩ (.int .i64 ((rd_T47 l0_1 x18_2).f2))).setCell ⟨gb162, 3, none⟩ (.int .i64 ((rd_T47 l0_1 x18_2).f3))).heap[gb159]? = some (.cells #[.int .i64 a0_0, .slice (some ad161) l0_1.length c0_1] 25 (0, 0))) := ⟨by refine bU ?_; refine blk_far ?_ NB159_162.out _; refine bU ?_; refine blk_far ?_ NB159_162.out _; refine bU ?_; refine blk_far ?_ NB159_162.out _; refine bU ?_; refine blk_far ?_ NB159_162.out _; refine bU ?_; exact BK159.out⟩
              have n1_ : Aside0 (((((w20.setCell ⟨gb162, 0, none⟩ (.int .i64 ((rd_T47 l0_1 x18_2).f0))).setCell ⟨gb162, 1, none⟩ (.int .i64 ((rd_T47 l0_1 x18_2).f1))).setCell ⟨gb162, 2, none⟩ (.int .i64 ((rd_T47 l0_1 x18_2).f2))).setCell ⟨gb162, 3, none⟩ (.int .i64 ((rd_T47 l0_1 x18_2).f3))).heap[gb162]? = some (.cells #[.int .i64 ((rd_T47 l0_1 x18_2).f0), .int .i64 ((rd_T47 l0_1 x18_2).f1), .int .i64 ((rd_T47 l0_1 x18_2).f2), .int .i64 ((rd_T47 l0_1 x18_2).f3)] 47 (0, 0))) := ⟨by refine bU ?_; refine blk_put (cs := #[.int .i64 ((rd_T47 l0_1 x18_2).f0), .int .i64 ((rd_T47 l0_1 x18_2).f1), .int .i64 ((rd_T47 l0_1 x18_2).f2), .int .i64 0]) ?_ 3 _ rfl; refine bU ?_; refine blk_put (cs := #[.int .i64 ((rd_T47 l0_1 x18_2).f0), .int .i64 ((rd_T47 l0_1 x18_2).f1), .int .i64 0, .int .i64 0]) ?_ 2 _ rfl; refine bU ?_; refine blk_put (cs := #[.int .i64 ((rd_T47 l0_1 x18_2).f0), .int .i64 0, .int .i64 0, .int .i64 0]) ?_ 1 _ rfl; refine bU ?_; refine blk_put (cs := #[.int .i64 0, .int .i64 0, .int .i64 0, .int .i64 0]) ?_ 0 _ rfl; refine bU ?_; exact BK162.out⟩
              have n2_ : Aside0 (Below w.heap.size w ((((w20.setCell ⟨gb162, 0, none⟩ (.int .i64 ((rd_T47 l0_1 x18_2).f0))).setCell ⟨gb162, 1, none⟩ (.int .i64 ((rd_T47 l0_1 x18_2).f1))).setCell ⟨gb162, 2, none⟩ (.int .i64 ((rd_T47 l0_1 x18_2).f2))).setCell ⟨gb162, 3, none⟩ (.int .i64 ((rd_T47 l0_1 x18_2).f3)))) := ⟨by repeat (first | (with_reducible first | exact HB.out | apply below_alloc | apply pw_below_drewN | apply below_drew1 | refine below_set ?_ GE159.out | refine below_set ?_ GE162.out) | exact HB.out)⟩
              (try clear BK159)
              (try clear BK162)
              (try clear HB)
              generalize ((((w20.setCell ⟨gb162, 0, none⟩ (.int .i64 ((rd_T47 l0_1 x18_2).f0))).setCell ⟨gb162, 1, none⟩ (.int .i64 ((rd_T47 l0_1 x18_2).f1))).setCell ⟨gb162, 2, none⟩ (.int .i64 ((rd_T47 l0_1 x18_2).f2))).setCell ⟨gb162, 3, none⟩ (.int .i64 ((rd_T47 l0_1 x18_2).f3))) = w23 at n0_ n1_ n2_ ⊢
              have BK159 := n0_
              have BK162 := n1_
              have HB := n2_
              clear n0_ n1_ n2_
              replace BK159 := Aside0.mk (blk_drew BK159.out)
              replace BK162 := Aside0.mk (blk_drew BK162.out)
              replace HB := Aside0.mk (below_drew1 HB.out)
              have p164 : 0 ≤ ((ji16) : Int) := of_decide_eq_true hE
              have q164 : (ji16) < (l0_1.length : Int) := of_decide_eq_true hE
              obtain ⟨ad164, e164, hx164_0, hx164_1, hx164_2, hx164_3⟩ := at_T47 HR0_1.out (ji16) p164 q164
              have hw164_3 := hx164_3
              have hw164_2 := hx164_2
              have hw164_1 := hx164_1
              have hw164_0 := hx164_0
              obtain rfl : ad161 = ad164 := (by injection e164)
              replace hx164_0 := (HB.out.cell (World.block_lt_of_cell? w _ hx164_0)).trans hx164_0
              replace hx164_1 := (HB.out.cell (World.block_lt_of_cell? w _ hx164_1)).trans hx164_1
              replace hx164_2 := (HB.out.cell (World.block_lt_of_cell? w _ hx164_2)).trans hx164_2
              replace hx164_3 := (HB.out.cell (World.block_lt_of_cell? w _ hx164_3)).trans hx164_3
              replace p164 := eq_true p164
              replace q164 := eq_true q164
              refine start_ (n := 51) (S := fun w' => w'.cell? ⟨gb162, 0, none⟩ = some (.int .i64 ((rd_T47 l0_1 x18_2).f0)) ∧ w'.cell? ⟨gb162, 1, none⟩ = some (.int .i64 ((rd_T47 l0_1 x18_2).f1)) ∧ w'.cell? ⟨gb162, 2, none⟩ = some (.int .i64 ((rd_T47 l0_1 x18_2).f2)) ∧ w'.cell? ⟨gb162, 3, none⟩ = some (.int .i64 ((rd_T47 l0_1 x18_2).f3)) ∧ w'.cell? ⟨gb159, 0, none⟩ = some (.int .i64 a0_0) ∧ w'.cell? ⟨gb159, 1, none⟩ = some (.slice (some ad161) l0_1.length c0_1) ∧ w'.cell? (ad161.add (((ji16)).toNat * 4)) = some (.int .i64 ((rd_T47 l0_1 (ji16)).f0)) ∧ w'.cell? ⟨(ad161.add (((ji16)).toNat * 4)).block, (ad161.add (((ji16)).toNat * 4)).off + 1, none⟩ = some (.int .i64 ((rd_T47 l0_1 (ji16)).f1)) ∧ w'.cell? ⟨(ad161.add (((ji16)).toNat * 4)).block, (ad161.add (((ji16)).toNat * 4)).off + 2, none⟩ = some (.int .i64 ((rd_T47 l0_1 (ji16)).f2)) ∧ w'.cell? ⟨(ad161.add (((ji16)).toNat * 4)).block, (ad161.add (((ji16)).toNat * 4)).off + 3, none⟩ = some (.int .i64 ((rd_T47 l0_1 (ji16)).f3))) (ds := []) #[false, false, false, false, false, false, false, false, false, false, false, false, false, false, false, false, false, false, false, false, false, false, false, false, false, false, false, false, false, false, false, false, false, false, false, false, false, false, false, false, false, false, false, false, false, false, false, false, false, false, false] (by kernel_rfl) rfl rfl ⟨cz BK162 0 _, cz BK162 1 _, cz BK162 2 _, cz BK162 3 _, cz BK159 0 _, cz BK159 1 _, ((HB.out.cell (World.block_lt_of_cell? w _ hw164_0)).trans hw164_0), ((HB.out.cell (World.block_lt_of_cell? w _ hw164_1)).trans hw164_1), ((HB.out.cell (World.block_lt_of_cell? w _ hw164_2)).trans hw164_2), ((HB.out.cell (World.block_lt_of_cell? w _ hw164_3)).trans hw164_3)⟩ (fun hHeld => ?_); refine with_tabW spec_GoodClock.tab6 spec_GoodClock.bits6 (fun HT_ HW_ => ?_)
              generalize w23.drew = w24 at BK159 BK162 HB hx164_0 hx164_1 hx164_2 hx164_3 hHeld ⊢
              refine pureA 0 23 (bz 51 1) rfl rfl (any_of HT_.out (by kernel_rfl)) ?_
              refine takeA 1 24 (bz 51 3) rfl rfl (take_ofW HT_.out HW_.out (by kernel_rfl)) hHeld (by rintro w' ⟨s0, s1, s2, s3, s4, s5, s6, s7, s8, s9⟩; go_simp; with_reducible rfl) ?_
              refine one_ (i := 2) (N := some 25) (bz 51 7) rfl rfl (one_of HT_.out (by kernel_rfl)) (by decide) (fun K hK => ?_)
              refine goes_ Try.func18 (by kernel_rfl) rfl #[.int .i64 ((rd_T47 l0_1 x18_2).f0), .int .i64 0, .int .i64 999] (by rfl) rfl rfl aE ?_
              with_reducible refine (spec_l1In.calls ((rd_T47 l0_1 x18_2).f0) 0 999 true _ A13.out).mono ?_
              rintro e w' ⟨rfl, ⟨nd, rfl⟩⟩
              refine ⟨_, rfl, ?_⟩
              refine hK.out _ _ ⟨cz BK162 0 _, cz BK162 1 _, cz BK162 2 _, cz BK162 3 _, cz BK159 0 _, cz BK159 1 _, ((HB.out.cell (World.block_lt_of_cell? w _ hw164_0)).trans hw164_0), ((HB.out.cell (World.block_lt_of_cell? w _ hw164_1)).trans hw164_1), ((HB.out.cell (World.block_lt_of_cell? w _ hw164_2)).trans hw164_2), ((HB.out.cell (World.block_lt_of_cell? w _ hw164_3)).trans hw164_3)⟩ (fun hHeld => ?_)
              clear hK K
              refine norm_ (a' := ?_) ?_ ?_
              rotate_left
              ·show Act.put _ (some 25) _ = _
               simp only [Act.put, List.setIfInBounds_toArray, List.set_cons_zero, List.set_cons_succ, i64_w, i32_w]
               rfl
              refine pureA 3 26 (bz 51 15) rfl rfl (any_of HT_.out (by kernel_rfl)) ?_
              refine pureA 4 27 (bz 51 31) rfl rfl (any_of HT_.out (by kernel_rfl)) ?_
              refine pureA 5 28 (bz 51 63) rfl rfl (any_of HT_.out (by kernel_rfl)) ?_
              refine pureA 6 29 (bz 51 127) rfl rfl (any_of HT_.out (by kernel_rfl)) ?_
              refine pureA 7 30 (bz 51 255) rfl rfl (any_of HT_.out (by kernel_rfl)) ?_
              refine pureA 8 31 (bz 51 511) rfl rfl (any_of HT_.out (by kernel_rfl)) ?_
              refine pureA 10 33 (bz 51 1535) rfl rfl (any_of HT_.out (by kernel_rfl)) ?_
              refine pureA 11 34 (bz 51 3583) rfl rfl (any_of HT_.out (by kernel_rfl)) ?_
              refine pureA 15 38 (bz 51 36351) rfl rfl (any_of HT_.out (by kernel_rfl)) ?_
              refine takeA 9 32 (bz 51 36863) rfl rfl (take_ofW HT_.out HW_.out (by kernel_rfl)) hHeld (by rintro w' ⟨s0, s1, s2, s3, s4, s5, s6, s7, s8, s9⟩; go_simp; with_reducible rfl) ?_
              refine pureA 12 35 (bz 51 40959) rfl rfl (any_of HT_.out (by kernel_rfl)) ?_
              refine pureA 13 36 (bz 51 49151) rfl rfl (any_of HT_.out (by kernel_rfl)) ?_
              refine takeA 14 37 (bz 51 65535) rfl rfl (take_ofW HT_.out HW_.out (by kernel_rfl)) hHeld (by rintro w' ⟨s0, s1, s2, s3, s4, s5, s6, s7, s8, s9⟩; go_simp; with_reducible rfl) ?_
              refine takeA 16 39 (bz 51 131071) rfl rfl (take_ofW HT_.out HW_.out (by kernel_rfl)) hHeld (by rintro w' ⟨s0, s1, s2, s3, s4, s5, s6, s7, s8, s9⟩; go_simp; with_reducible rfl) ?_
              refine pureA 17 40 (bz 51 262143) rfl rfl (any_of HT_.out (by kernel_rfl)) ?_
              refine pureA 18 41 (bz 51 524287) rfl rfl (any_of HT_.out (by kernel_rfl)) ?_
              refine pureA 19 42 (bz 51 1048575) rfl rfl (any_of HT_.out (by kernel_rfl)) ?_
              refine pureA 20 43 (bz 51 2097151) rfl rfl (any_of HT_.out (by kernel_rfl)) ?_
              refine pureU 21 44 (bz 51 4194303) rfl rfl (any_of HT_.out (by kernel_rfl)) ?_
              refine pureU 22 45 (bz 51 8388607) rfl rfl (any_of HT_.out (by kernel_rfl)) ?_
              refine pureU 23 46 (bz 51 16777215) rfl rfl (any_of HT_.out (by kernel_rfl)) ?_
              refine pureU 24 47 (bz 51 33554431) rfl rfl (any_of HT_.out (by kernel_rfl)) ?_
              refine pureU 25 48 (bz 51 67108863) rfl rfl (any_of HT_.out (by kernel_rfl)) ?_
              refine pureU 26 49 (bz 51 134217727) rfl rfl (any_of HT_.out (by kernel_rfl)) ?_
              refine pureU 27 50 (bz 51 268435455) rfl rfl (any_of HT_.out (by kernel_rfl)) ?_
              refine pureA 28 51 (bz 51 536870911) rfl rfl (any_of HT_.out (by kernel_rfl)) ?_
              refine pureA 29 52 (bz 51 1073741823) rfl rfl (any_of HT_.out (by kernel_rfl)) ?_
              refine pureU 30 53 (bz 51 2147483647) rfl rfl (any_of HT_.out (by kernel_rfl)) ?_
              refine pureU 31 54 (bz 51 4294967295) rfl rfl (any_of HT_.out (by kernel_rfl)) ?_
              refine pureU 32 55 (bz 51 8589934591) rfl rfl (any_of HT_.out (by kernel_rfl)) ?_
              refine pureU 33 56 (bz 51 17179869183) rfl rfl (any_of HT_.out (by kernel_rfl)) ?_
              refine pureA 34 57 (bz 51 34359738367) rfl rfl (any_of HT_.out (by kernel_rfl)) ?_
              refine pureA 35 58 (bz 51 68719476735) rfl rfl (any_of HT_.out (by kernel_rfl)) ?_
              refine pureU 36 59 (bz 51 137438953471) rfl rfl (any_of HT_.out (by kernel_rfl)) ?_
              refine pureU 37 60 (bz 51 274877906943) rfl rfl (any_of HT_.out (by kernel_rfl)) ?_
              refine pureU 38 61 (bz 51 549755813887) rfl rfl (any_of HT_.out (by kernel_rfl)) ?_
              refine pureU 39 62 (bz 51 1099511627775) rfl rfl (any_of HT_.out (by kernel_rfl)) ?_
              refine pureA 40 63 (bz 51 2199023255551) rfl rfl (any_of HT_.out (by kernel_rfl)) ?_
              refine pureA 41 64 (bz 51 4398046511103) rfl rfl (any_of HT_.out (by kernel_rfl)) ?_
              refine pureU 42 65 (bz 51 8796093022207) rfl rfl (any_of HT_.out (by kernel_rfl)) ?_
              refine pureU 43 66 (bz 51 17592186044415) rfl rfl (any_of HT_.out (by kernel_rfl)) ?_
              refine pureU 44 67 (bz 51 35184372088831) rfl rfl (any_of HT_.out (by kernel_rfl)) ?_
              refine pureU 45 68 (bz 51 70368744177663) rfl rfl (any_of HT_.out (by kernel_rfl)) ?_
              refine pureU 46 69 (bz 51 140737488355327) rfl rfl (any_of HT_.out (by kernel_rfl)) ?_
              refine pureU 47 70 (bz 51 281474976710655) rfl rfl (any_of HT_.out (by kernel_rfl)) ?_
              refine pureU 48 71 (bz 51 562949953421311) rfl rfl (any_of HT_.out (by kernel_rfl)) ?_
              refine pureU 49 72 (bz 51 1125899906842623) rfl rfl (any_of HT_.out (by kernel_rfl)) ?_
              refine pureA 50 73 (bz 51 2251799813685247) rfl rfl (any_of HT_.out (by kernel_rfl)) ?_
              refine done_ (done_of HT_.out (by kernel_rfl)) ?_
              try go_wp2
              go_ret
              exact ⟨by first | rfl | (simp [errW_none, errW_some] <;> rfl) | (simp only [← hji16]; first | rfl | (simp [errW_none, errW_some] <;> rfl)) | (simp [*, errW_none, errW_some] <;> rfl), lV2 GE159 GE162⟩
             ·rw [if_neg c19] at H
              have c19b0 : decide (((rd_T47 l0_1 x18_2).f0) ≤ ((rd_T47 l0_1 (ji16)).f0)) = false := decide_eq_false c19
              clear c19
              replace H := Option.bind_eq_some_iff.mp H
              obtain ⟨t165, A250, H⟩ := H
              replace H : (if t165 = true then ((spec_l1In.f ((rd_T47 l0_1 x18_2).f2) 0 100000).bind fun t166 => (if t166 = true then ((spec_l1In.f ((rd_T47 l0_1 x18_2).f3) 1 1000).bind fun t167 => (if t167 = true then (if ((rd_T47 l0_1 x18_2).f2) = 0 then (if ((rd_T47 l0_1 x18_2).f3) = 1 then (spec_GoodClock.l0 k2 l0_1 (l0_1.length : Int) (wrap64 (x18_2 + 1)) a0_0 l0_1) else (some false)) else (spec_GoodClock.l0 k2 l0_1 (l0_1.length : Int) (wrap64 (x18_2 + 1)) a0_0 l0_1)) else (some false))) else (some false))) else (some false)) = some r := H
              have A25 := Aside0.mk A250
              clear A250
              by_cases c26 : t165 = true
              ·subst c26
               have H1 : ((spec_l1In.f ((rd_T47 l0_1 x18_2).f2) 0 100000).bind fun t166 => (if t166 = true then ((spec_l1In.f ((rd_T47 l0_1 x18_2).f3) 1 1000).bind fun t167 => (if t167 = true then (if ((rd_T47 l0_1 x18_2).f2) = 0 then (if ((rd_T47 l0_1 x18_2).f3) = 1 then (spec_GoodClock.l0 k2 l0_1 (l0_1.length : Int) (wrap64 (x18_2 + 1)) a0_0 l0_1) else (some false)) else (spec_GoodClock.l0 k2 l0_1 (l0_1.length : Int) (wrap64 (x18_2 + 1)) a0_0 l0_1)) else (some false))) else (some false))) = some r := by rw [if_pos rfl] at H; exact H
               clear H
               have H := H1
               clear H1
               replace H := Option.bind_eq_some_iff.mp H
               obtain ⟨t166, A270, H⟩ := H
               replace H : (if t166 = true then ((spec_l1In.f ((rd_T47 l0_1 x18_2).f3) 1 1000).bind fun t167 => (if t167 = true then (if ((rd_T47 l0_1 x18_2).f2) = 0 then (if ((rd_T47 l0_1 x18_2).f3) = 1 then (spec_GoodClock.l0 k2 l0_1 (l0_1.length : Int) (wrap64 (x18_2 + 1)) a0_0 l0_1) else (some false)) else (spec_GoodClock.l0 k2 l0_1 (l0_1.length : Int) (wrap64 (x18_2 + 1)) a0_0 l0_1)) else (some false))) else (some false)) = some r := H
               have A27 := Aside0.mk A270
               clear A270
               by_cases c28 : t166 = true
               ·subst c28
                have H1 : ((spec_l1In.f ((rd_T47 l0_1 x18_2).f3) 1 1000).bind fun t167 => (if t167 = true then (if ((rd_T47 l0_1 x18_2).f2) = 0 then (if ((rd_T47 l0_1 x18_2).f3) = 1 then (spec_GoodClock.l0 k2 l0_1 (l0_1.length : Int) (wrap64 (x18_2 + 1)) a0_0 l0_1) else (some false)) else (spec_GoodClock.l0 k2 l0_1 (l0_1.length : Int) (wrap64 (x18_2 + 1)) a0_0 l0_1)) else (some false))) = some r := by rw [if_pos rfl] at H; exact H
                clear H
                have H := H1
                clear H1
                replace H := Option.bind_eq_some_iff.mp H
                obtain ⟨t167, A290, H⟩ := H
                replace H : (if t167 = true then (if ((rd_T47 l0_1 x18_2).f2) = 0 then (if ((rd_T47 l0_1 x18_2).f3) = 1 then (spec_GoodClock.l0 k2 l0_1 (l0_1.length : Int) (wrap64 (x18_2 + 1)) a0_0 l0_1) else (some false)) else (spec_GoodClock.l0 k2 l0_1 (l0_1.length : Int) (wrap64 (x18_2 + 1)) a0_0 l0_1)) else (some false)) = some r := H
                have A29 := Aside0.mk A290
                clear A290
                by_cases c30 : t167 = true
                ·subst c30
                 have H1 : (if ((rd_T47 l0_1 x18_2).f2) = 0 then (if ((rd_T47 l0_1 x18_2).f3) = 1 then (spec_GoodClock.l0 k2 l0_1 (l0_1.length : Int) (wrap64 (x18_2 + 1)) a0_0 l0_1) else (some false)) else (spec_GoodClock.l0 k2 l0_1 (l0_1.length : Int) (wrap64 (x18_2 + 1)) a0_0 l0_1)) = some r := by rw [if_pos rfl] at H; exact H
                 clear H
                 have H := H1
                 clear H1
                 by_cases c31 : ((rd_T47 l0_1 x18_2).f2) = 0
                 ·rw [if_pos c31] at H
                  have c31b0 : (((rd_T47 l0_1 x18_2).f2) == 0) = true := beq_iff_eq.mpr c31
                  have c31b1 : (((rd_T47 l0_1 x18_2).f2) != 0) = false := bne_eq_false_iff_eq.mpr c31
                  clear c31
                  by_cases c32 : ((rd_T47 l0_1 x18_2).f3) = 1
                  ·rw [if_pos c32] at H
                   have c32b0 : (((rd_T47 l0_1 x18_2).f3) == 1) = true := beq_iff_eq.mpr c32
                   have c32b1 : (((rd_T47 l0_1 x18_2).f3) != 1) = false := bne_eq_false_iff_eq.mpr c32
                   clear c32
                   have H' := Aside0.mk H
                   clear H
                   have p161 : 0 ≤ (x18_2 : Int) := of_decide_eq_true hE
                   have q161 : x18_2 < (l0_1.length : Int) := of_decide_eq_true hE
                   obtain ⟨ad161, e161, hx161_0, hx161_1, hx161_2, hx161_3⟩ := at_T47 HR0_1.out x18_2 p161 q161
                   cases e161
                   replace hx161_0 := (HB.out.cell (World.block_lt_of_cell? w _ hx161_0)).trans hx161_0
                   replace hx161_1 := (HB.out.cell (World.block_lt_of_cell? w _ hx161_1)).trans hx161_1
                   replace hx161_2 := (HB.out.cell (World.block_lt_of_cell? w _ hx161_2)).trans hx161_2
                   replace hx161_3 := (HB.out.cell (World.block_lt_of_cell? w _ hx161_3)).trans hx161_3
                   replace p161 := eq_true p161
                   replace q161 := eq_true q161
                   try go_wp2_with (first | ((with_reducible refine gate_dst (N := 4) rfl ?_); (try (refine gate_guard (by rfl) ?_; dsimp only)); refine box_event rfl (N := 4) rfl (cs := #[.int .i64 0, .int .i64 0, .int .i64 0, .int .i64 0]) (t := 47) sE ?_; intro gb162 hg w33 hbox hb; have BK162 := Aside0.mk hbox; have GW162 := gS w hg (lV1 GE159); have GE162 := gS w hg (lV1 GE159); replace HB := bH (lV1 GE159) hb; have NB159_162 := nL hg (bV BK159); have NB162_159 := nG hg (bV BK159); replace BK159 := bB (bV BK159) hb; clear hb hbox hg; have hnb34 := NB162_159.out; have hnc34 := NB159_162.out; have hcz35_0 := cz BK162 0 (.int .i64 0); have hcz35_1 := cz BK162 1 (.int .i64 0); have hcz35_2 := cz BK162 2 (.int .i64 0); have hcz35_3 := cz BK162 3 (.int .i64 0); have hfz35_0 := fz BK162 0; have hfz35_1 := fz BK162 1; have hfz35_2 := fz BK162 2; have hfz35_3 := fz BK162 3))
                   have n0_ : Aside0 (((((w33.setCell ⟨gb162, 0, none⟩ (.int .i64 ((rd_T47 l0_1 x18_2).f0))).setCell ⟨gb162, 1, none⟩ (.int .i64 ((rd_T47 l0_1 x18_2).f1))).setCell ⟨gb162, 2, none⟩ (.int .i64 ((rd_T47 l0_1 x18_2).f2))).setCell ⟨gb162, 3, none⟩ (.int .i64 ((rd_T47 l0_1 x18_2).f3))).heap[gb159]? = some (.cells #[.int .i64 a0_0, .slice (some ad161) l0_1.length c0_1] 25 (0, 0))) := ⟨by refine bU ?_; refine blk_far ?_ NB159_162.out _; refine bU ?_; refine blk_far ?_ NB159_162.out _; refine bU ?_; refine blk_far ?_ NB159_162.out _; refine bU ?_; refine blk_far ?_ NB159_162.out _; refine bU ?_; exact BK159.out⟩
                   have n1_ : Aside0 (((((w33.setCell ⟨gb162, 0, none⟩ (.int .i64 ((rd_T47 l0_1 x18_2).f0))).setCell ⟨gb162, 1, none⟩ (.int .i64 ((rd_T47 l0_1 x18_2).f1))).setCell ⟨gb162, 2, none⟩ (.int .i64 ((rd_T47 l0_1 x18_2).f2))).setCell ⟨gb162, 3, none⟩ (.int .i64 ((rd_T47 l0_1 x18_2).f3))).heap[gb162]? = some (.cells #[.int .i64 ((rd_T47 l0_1 x18_2).f0), .int .i64 ((rd_T47 l0_1 x18_2).f1), .int .i64 ((rd_T47 l0_1 x18_2).f2), .int .i64 ((rd_T47 l0_1 x18_2).f3)] 47 (0, 0))) := ⟨by refine bU ?_; refine blk_put (cs := #[.int .i64 ((rd_T47 l0_1 x18_2).f0), .int .i64 ((rd_T47 l0_1 x18_2).f1), .int .i64 ((rd_T47 l0_1 x18_2).f2), .int .i64 0]) ?_ 3 _ rfl; refine bU ?_; refine blk_put (cs := #[.int .i64 ((rd_T47 l0_1 x18_2).f0), .int .i64 ((rd_T47 l0_1 x18_2).f1), .int .i64 0, .int .i64 0]) ?_ 2 _ rfl; refine bU ?_; refine blk_put (cs := #[.int .i64 ((rd_T47 l0_1 x18_2).f0), .int .i64 0, .int .i64 0, .int .i64 0]) ?_ 1 _ rfl; refine bU ?_; refine blk_put (cs := #[.int .i64 0, .int .i64 0, .int .i64 0, .int .i64 0]) ?_ 0 _ rfl; refine bU ?_; exact BK162.out⟩
                   have n2_ : Aside0 (Below w.heap.size w ((((w33.setCell ⟨gb162, 0, none⟩ (.int .i64 ((rd_T47 l0_1 x18_2).f0))).setCell ⟨gb162, 1, none⟩ (.int .i64 ((rd_T47 l0_1 x18_2).f1))).setCell ⟨gb162, 2, none⟩ (.int .i64 ((rd_T47 l0_1 x18_2).f2))).setCell ⟨gb162, 3, none⟩ (.int .i64 ((rd_T47 l0_1 x18_2).f3)))) := ⟨by repeat (first | (with_reducible first | exact HB.out | apply below_alloc | apply pw_below_drewN | apply below_drew1 | refine below_set ?_ GE159.out | refine below_set ?_ GE162.out) | exact HB.out)⟩
                   (try clear BK159)
                   (try clear BK162)
                   (try clear HB)
                   generalize ((((w33.setCell ⟨gb162, 0, none⟩ (.int .i64 ((rd_T47 l0_1 x18_2).f0))).setCell ⟨gb162, 1, none⟩ (.int .i64 ((rd_T47 l0_1 x18_2).f1))).setCell ⟨gb162, 2, none⟩ (.int .i64 ((rd_T47 l0_1 x18_2).f2))).setCell ⟨gb162, 3, none⟩ (.int .i64 ((rd_T47 l0_1 x18_2).f3))) = w36 at n0_ n1_ n2_ ⊢
                   have BK159 := n0_
                   have BK162 := n1_
                   have HB := n2_
                   clear n0_ n1_ n2_
                   replace BK159 := Aside0.mk (blk_drew BK159.out)
                   replace BK162 := Aside0.mk (blk_drew BK162.out)
                   replace HB := Aside0.mk (below_drew1 HB.out)
                   have p164 : 0 ≤ ((ji16) : Int) := of_decide_eq_true hE
                   have q164 : (ji16) < (l0_1.length : Int) := of_decide_eq_true hE
                   obtain ⟨ad164, e164, hx164_0, hx164_1, hx164_2, hx164_3⟩ := at_T47 HR0_1.out (ji16) p164 q164
                   have hw164_3 := hx164_3
                   have hw164_2 := hx164_2
                   have hw164_1 := hx164_1
                   have hw164_0 := hx164_0
                   obtain rfl : ad161 = ad164 := (by injection e164)
                   replace hx164_0 := (HB.out.cell (World.block_lt_of_cell? w _ hx164_0)).trans hx164_0
                   replace hx164_1 := (HB.out.cell (World.block_lt_of_cell? w _ hx164_1)).trans hx164_1
                   replace hx164_2 := (HB.out.cell (World.block_lt_of_cell? w _ hx164_2)).trans hx164_2
                   replace hx164_3 := (HB.out.cell (World.block_lt_of_cell? w _ hx164_3)).trans hx164_3
                   replace p164 := eq_true p164
                   replace q164 := eq_true q164
                   refine start_ (n := 51) (S := fun w' => w'.cell? ⟨gb162, 0, none⟩ = some (.int .i64 ((rd_T47 l0_1 x18_2).f0)) ∧ w'.cell? ⟨gb162, 1, none⟩ = some (.int .i64 ((rd_T47 l0_1 x18_2).f1)) ∧ w'.cell? ⟨gb162, 2, none⟩ = some (.int .i64 ((rd_T47 l0_1 x18_2).f2)) ∧ w'.cell? ⟨gb162, 3, none⟩ = some (.int .i64 ((rd_T47 l0_1 x18_2).f3)) ∧ w'.cell? ⟨gb159, 0, none⟩ = some (.int .i64 a0_0) ∧ w'.cell? ⟨gb159, 1, none⟩ = some (.slice (some ad161) l0_1.length c0_1) ∧ w'.cell? (ad161.add (((ji16)).toNat * 4)) = some (.int .i64 ((rd_T47 l0_1 (ji16)).f0)) ∧ w'.cell? ⟨(ad161.add (((ji16)).toNat * 4)).block, (ad161.add (((ji16)).toNat * 4)).off + 1, none⟩ = some (.int .i64 ((rd_T47 l0_1 (ji16)).f1)) ∧ w'.cell? ⟨(ad161.add (((ji16)).toNat * 4)).block, (ad161.add (((ji16)).toNat * 4)).off + 2, none⟩ = some (.int .i64 ((rd_T47 l0_1 (ji16)).f2)) ∧ w'.cell? ⟨(ad161.add (((ji16)).toNat * 4)).block, (ad161.add (((ji16)).toNat * 4)).off + 3, none⟩ = some (.int .i64 ((rd_T47 l0_1 (ji16)).f3))) (ds := []) #[false, false, false, false, false, false, false, false, false, false, false, false, false, false, false, false, false, false, false, false, false, false, false, false, false, false, false, false, false, false, false, false, false, false, false, false, false, false, false, false, false, false, false, false, false, false, false, false, false, false, false] (by kernel_rfl) rfl rfl ⟨cz BK162 0 _, cz BK162 1 _, cz BK162 2 _, cz BK162 3 _, cz BK159 0 _, cz BK159 1 _, ((HB.out.cell (World.block_lt_of_cell? w _ hw164_0)).trans hw164_0), ((HB.out.cell (World.block_lt_of_cell? w _ hw164_1)).trans hw164_1), ((HB.out.cell (World.block_lt_of_cell? w _ hw164_2)).trans hw164_2), ((HB.out.cell (World.block_lt_of_cell? w _ hw164_3)).trans hw164_3)⟩ (fun hHeld => ?_); refine with_tabW spec_GoodClock.tab6 spec_GoodClock.bits6 (fun HT_ HW_ => ?_)
                   generalize w36.drew = w37 at BK159 BK162 HB hx164_0 hx164_1 hx164_2 hx164_3 hHeld ⊢
                   refine pureA 0 23 (bz 51 1) rfl rfl (any_of HT_.out (by kernel_rfl)) ?_
                   refine takeA 1 24 (bz 51 3) rfl rfl (take_ofW HT_.out HW_.out (by kernel_rfl)) hHeld (by rintro w' ⟨s0, s1, s2, s3, s4, s5, s6, s7, s8, s9⟩; go_simp; with_reducible rfl) ?_
                   refine one_ (i := 2) (N := some 25) (bz 51 7) rfl rfl (one_of HT_.out (by kernel_rfl)) (by decide) (fun K hK => ?_)
                   refine goes_ Try.func18 (by kernel_rfl) rfl #[.int .i64 ((rd_T47 l0_1 x18_2).f0), .int .i64 0, .int .i64 999] (by rfl) rfl rfl aE ?_
                   with_reducible refine (spec_l1In.calls ((rd_T47 l0_1 x18_2).f0) 0 999 true _ A13.out).mono ?_
                   rintro e w' ⟨rfl, ⟨nd, rfl⟩⟩
                   refine ⟨_, rfl, ?_⟩
                   refine hK.out _ _ ⟨cz BK162 0 _, cz BK162 1 _, cz BK162 2 _, cz BK162 3 _, cz BK159 0 _, cz BK159 1 _, ((HB.out.cell (World.block_lt_of_cell? w _ hw164_0)).trans hw164_0), ((HB.out.cell (World.block_lt_of_cell? w _ hw164_1)).trans hw164_1), ((HB.out.cell (World.block_lt_of_cell? w _ hw164_2)).trans hw164_2), ((HB.out.cell (World.block_lt_of_cell? w _ hw164_3)).trans hw164_3)⟩ (fun hHeld => ?_)
                   clear hK K
                   refine norm_ (a' := ?_) ?_ ?_
                   rotate_left
                   ·show Act.put _ (some 25) _ = _
                    simp only [Act.put, List.setIfInBounds_toArray, List.set_cons_zero, List.set_cons_succ, i64_w, i32_w]
                    rfl
                   refine pureA 3 26 (bz 51 15) rfl rfl (any_of HT_.out (by kernel_rfl)) ?_
                   refine pureA 4 27 (bz 51 31) rfl rfl (any_of HT_.out (by kernel_rfl)) ?_
                   refine pureA 5 28 (bz 51 63) rfl rfl (any_of HT_.out (by kernel_rfl)) ?_
                   refine pureA 6 29 (bz 51 127) rfl rfl (any_of HT_.out (by kernel_rfl)) ?_
                   refine pureA 7 30 (bz 51 255) rfl rfl (any_of HT_.out (by kernel_rfl)) ?_
                   refine pureA 8 31 (bz 51 511) rfl rfl (any_of HT_.out (by kernel_rfl)) ?_
                   refine pureA 10 33 (bz 51 1535) rfl rfl (any_of HT_.out (by kernel_rfl)) ?_
                   refine pureA 11 34 (bz 51 3583) rfl rfl (any_of HT_.out (by kernel_rfl)) ?_
                   refine pureA 15 38 (bz 51 36351) rfl rfl (any_of HT_.out (by kernel_rfl)) ?_
                   refine takeA 9 32 (bz 51 36863) rfl rfl (take_ofW HT_.out HW_.out (by kernel_rfl)) hHeld (by rintro w' ⟨s0, s1, s2, s3, s4, s5, s6, s7, s8, s9⟩; go_simp; with_reducible rfl) ?_
                   refine pureA 12 35 (bz 51 40959) rfl rfl (any_of HT_.out (by kernel_rfl)) ?_
                   refine pureA 13 36 (bz 51 49151) rfl rfl (any_of HT_.out (by kernel_rfl)) ?_
                   refine takeA 14 37 (bz 51 65535) rfl rfl (take_ofW HT_.out HW_.out (by kernel_rfl)) hHeld (by rintro w' ⟨s0, s1, s2, s3, s4, s5, s6, s7, s8, s9⟩; go_simp; with_reducible rfl) ?_
                   refine takeA 16 39 (bz 51 131071) rfl rfl (take_ofW HT_.out HW_.out (by kernel_rfl)) hHeld (by rintro w' ⟨s0, s1, s2, s3, s4, s5, s6, s7, s8, s9⟩; go_simp; with_reducible rfl) ?_
                   refine pureA 17 40 (bz 51 262143) rfl rfl (any_of HT_.out (by kernel_rfl)) ?_
                   refine pureA 18 41 (bz 51 524287) rfl rfl (any_of HT_.out (by kernel_rfl)) ?_
                   refine pureA 19 42 (bz 51 1048575) rfl rfl (any_of HT_.out (by kernel_rfl)) ?_
                   refine pureA 20 43 (bz 51 2097151) rfl rfl (any_of HT_.out (by kernel_rfl)) ?_
                   refine pureA 21 44 (bz 51 4194303) rfl rfl (any_of HT_.out (by kernel_rfl)) ?_
                   refine pureA 23 46 (bz 51 12582911) rfl rfl (any_of HT_.out (by kernel_rfl)) ?_
                   refine takeA 22 45 (bz 51 16777215) rfl rfl (take_ofW HT_.out HW_.out (by kernel_rfl)) hHeld (by rintro w' ⟨s0, s1, s2, s3, s4, s5, s6, s7, s8, s9⟩; go_simp; with_reducible rfl) ?_
                   refine takeA 24 47 (bz 51 33554431) rfl rfl (take_ofW HT_.out HW_.out (by kernel_rfl)) hHeld (by rintro w' ⟨s0, s1, s2, s3, s4, s5, s6, s7, s8, s9⟩; go_simp; with_reducible rfl) ?_
                   refine pureA 25 48 (bz 51 67108863) rfl rfl (any_of HT_.out (by kernel_rfl)) ?_
                   refine one_ (i := 26) (N := some 49) (bz 51 134217727) rfl rfl (one_of HT_.out (by kernel_rfl)) (by decide) (fun K hK => ?_)
                   refine goes_ Try.func18 (by kernel_rfl) rfl #[.int .i64 ((rd_T47 l0_1 x18_2).f1), .int .i64 (wrap64 (a0_0 + 1)), .int .i64 200000] (by rfl) rfl rfl aE ?_
                   with_reducible refine (spec_l1In.calls ((rd_T47 l0_1 x18_2).f1) (wrap64 (a0_0 + 1)) 200000 true _ A25.out).mono ?_
                   rintro e w' ⟨rfl, ⟨nd, rfl⟩⟩
                   refine ⟨_, rfl, ?_⟩
                   refine hK.out _ _ ⟨cz BK162 0 _, cz BK162 1 _, cz BK162 2 _, cz BK162 3 _, cz BK159 0 _, cz BK159 1 _, ((HB.out.cell (World.block_lt_of_cell? w _ hw164_0)).trans hw164_0), ((HB.out.cell (World.block_lt_of_cell? w _ hw164_1)).trans hw164_1), ((HB.out.cell (World.block_lt_of_cell? w _ hw164_2)).trans hw164_2), ((HB.out.cell (World.block_lt_of_cell? w _ hw164_3)).trans hw164_3)⟩ (fun hHeld => ?_)
                   clear hK K
                   refine norm_ (a' := ?_) ?_ ?_
                   rotate_left
                   ·show Act.put _ (some 49) _ = _
                    simp only [Act.put, List.setIfInBounds_toArray, List.set_cons_zero, List.set_cons_succ, i64_w, i32_w]
                    rfl
                   refine pureA 27 50 (bz 51 268435455) rfl rfl (any_of HT_.out (by kernel_rfl)) ?_
                   refine pureA 28 51 (bz 51 536870911) rfl rfl (any_of HT_.out (by kernel_rfl)) ?_
                   refine pureA 29 52 (bz 51 1073741823) rfl rfl (any_of HT_.out (by kernel_rfl)) ?_
                   refine pureA 30 53 (bz 51 2147483647) rfl rfl (any_of HT_.out (by kernel_rfl)) ?_
                   refine takeA 31 54 (bz 51 4294967295) rfl rfl (take_ofW HT_.out HW_.out (by kernel_rfl)) hHeld (by rintro w' ⟨s0, s1, s2, s3, s4, s5, s6, s7, s8, s9⟩; go_simp; with_reducible rfl) ?_
                   refine one_ (i := 32) (N := some 55) (bz 51 8589934591) rfl rfl (one_of HT_.out (by kernel_rfl)) (by decide) (fun K hK => ?_)
                   refine goes_ Try.func18 (by kernel_rfl) rfl #[.int .i64 ((rd_T47 l0_1 x18_2).f2), .int .i64 0, .int .i64 100000] (by rfl) rfl rfl aE ?_
                   with_reducible refine (spec_l1In.calls ((rd_T47 l0_1 x18_2).f2) 0 100000 true _ A27.out).mono ?_
                   rintro e w' ⟨rfl, ⟨nd, rfl⟩⟩
                   refine ⟨_, rfl, ?_⟩
                   refine hK.out _ _ ⟨cz BK162 0 _, cz BK162 1 _, cz BK162 2 _, cz BK162 3 _, cz BK159 0 _, cz BK159 1 _, ((HB.out.cell (World.block_lt_of_cell? w _ hw164_0)).trans hw164_0), ((HB.out.cell (World.block_lt_of_cell? w _ hw164_1)).trans hw164_1), ((HB.out.cell (World.block_lt_of_cell? w _ hw164_2)).trans hw164_2), ((HB.out.cell (World.block_lt_of_cell? w _ hw164_3)).trans hw164_3)⟩ (fun hHeld => ?_)
                   clear hK K
                   refine norm_ (a' := ?_) ?_ ?_
                   rotate_left
                   ·show Act.put _ (some 55) _ = _
                    simp only [Act.put, List.setIfInBounds_toArray, List.set_cons_zero, List.set_cons_succ, i64_w, i32_w]
                    rfl
                   refine pureA 33 56 (bz 51 17179869183) rfl rfl (any_of HT_.out (by kernel_rfl)) ?_
                   refine pureA 34 57 (bz 51 34359738367) rfl rfl (any_of HT_.out (by kernel_rfl)) ?_
                   refine pureA 35 58 (bz 51 68719476735) rfl rfl (any_of HT_.out (by kernel_rfl)) ?_
                   refine pureA 36 59 (bz 51 137438953471) rfl rfl (any_of HT_.out (by kernel_rfl)) ?_
                   refine takeA 37 60 (bz 51 274877906943) rfl rfl (take_ofW HT_.out HW_.out (by kernel_rfl)) hHeld (by rintro w' ⟨s0, s1, s2, s3, s4, s5, s6, s7, s8, s9⟩; go_simp; with_reducible rfl) ?_
                   refine one_ (i := 38) (N := some 61) (bz 51 549755813887) rfl rfl (one_of HT_.out (by kernel_rfl)) (by decide) (fun K hK => ?_)
                   refine goes_ Try.func18 (by kernel_rfl) rfl #[.int .i64 ((rd_T47 l0_1 x18_2).f3), .int .i64 1, .int .i64 1000] (by rfl) rfl rfl aE ?_
                   with_reducible refine (spec_l1In.calls ((rd_T47 l0_1 x18_2).f3) 1 1000 true _ A29.out).mono ?_
                   rintro e w' ⟨rfl, ⟨nd, rfl⟩⟩
                   refine ⟨_, rfl, ?_⟩
                   refine hK.out _ _ ⟨cz BK162 0 _, cz BK162 1 _, cz BK162 2 _, cz BK162 3 _, cz BK159 0 _, cz BK159 1 _, ((HB.out.cell (World.block_lt_of_cell? w _ hw164_0)).trans hw164_0), ((HB.out.cell (World.block_lt_of_cell? w _ hw164_1)).trans hw164_1), ((HB.out.cell (World.block_lt_of_cell? w _ hw164_2)).trans hw164_2), ((HB.out.cell (World.block_lt_of_cell? w _ hw164_3)).trans hw164_3)⟩ (fun hHeld => ?_)
                   clear hK K
                   refine norm_ (a' := ?_) ?_ ?_
                   rotate_left
                   ·show Act.put _ (some 61) _ = _
                    simp only [Act.put, List.setIfInBounds_toArray, List.set_cons_zero, List.set_cons_succ, i64_w, i32_w]
                    rfl
                   refine pureA 39 62 (bz 51 1099511627775) rfl rfl (any_of HT_.out (by kernel_rfl)) ?_
                   refine pureA 40 63 (bz 51 2199023255551) rfl rfl (any_of HT_.out (by kernel_rfl)) ?_
                   refine pureA 41 64 (bz 51 4398046511103) rfl rfl (any_of HT_.out (by kernel_rfl)) ?_
                   refine pureA 42 65 (bz 51 8796093022207) rfl rfl (any_of HT_.out (by kernel_rfl)) ?_
                   refine takeA 43 66 (bz 51 17592186044415) rfl rfl (take_ofW HT_.out HW_.out (by kernel_rfl)) hHeld (by rintro w' ⟨s0, s1, s2, s3, s4, s5, s6, s7, s8, s9⟩; go_simp; with_reducible rfl) ?_
                   refine pureA 44 67 (bz 51 35184372088831) rfl rfl (any_of HT_.out (by kernel_rfl)) ?_
                   refine pureA 45 68 (bz 51 70368744177663) rfl rfl (any_of HT_.out (by kernel_rfl)) ?_
                   refine pureA 46 69 (bz 51 140737488355327) rfl rfl (any_of HT_.out (by kernel_rfl)) ?_
                   refine takeA 47 70 (bz 51 281474976710655) rfl rfl (take_ofW HT_.out HW_.out (by kernel_rfl)) hHeld (by rintro w' ⟨s0, s1, s2, s3, s4, s5, s6, s7, s8, s9⟩; go_simp; with_reducible rfl) ?_
                   refine pureA 48 71 (bz 51 562949953421311) rfl rfl (any_of HT_.out (by kernel_rfl)) ?_
                   refine pureA 49 72 (bz 51 1125899906842623) rfl rfl (any_of HT_.out (by kernel_rfl)) ?_
                   refine pureA 50 73 (bz 51 2251799813685247) rfl rfl (any_of HT_.out (by kernel_rfl)) ?_
                   refine done_ (done_of HT_.out (by kernel_rfl)) ?_
                   try go_wp2
                   go_roundg k2
                   case measure => have := HJ1.out; have := HK2.out; omega
                   case rel => exact ⟨(wrap64 (x18_2 + 1)), tE, H', ⟨by have := HJ1.out; have := HK2.out; omega⟩, ⟨by refine bU ?_; exact BK159.out⟩, ⟨by repeat (first | (with_reducible first | exact HB.out | apply below_alloc | apply pw_below_drewN | apply below_drew1 | refine below_set ?_ GE159.out | refine below_set ?_ GE162.out) | exact HB.out)⟩⟩
                  ·rw [if_neg c32] at H
                   have c32b0 : (((rd_T47 l0_1 x18_2).f3) == 1) = false := beq_eq_false_iff_ne.mpr c32
                   have c32b1 : (((rd_T47 l0_1 x18_2).f3) != 1) = true := bne_iff_ne.mpr c32
                   obtain rfl := Option.some.inj H
                   have p161 : 0 ≤ (x18_2 : Int) := of_decide_eq_true hE
                   have q161 : x18_2 < (l0_1.length : Int) := of_decide_eq_true hE
                   obtain ⟨ad161, e161, hx161_0, hx161_1, hx161_2, hx161_3⟩ := at_T47 HR0_1.out x18_2 p161 q161
                   cases e161
                   replace hx161_0 := (HB.out.cell (World.block_lt_of_cell? w _ hx161_0)).trans hx161_0
                   replace hx161_1 := (HB.out.cell (World.block_lt_of_cell? w _ hx161_1)).trans hx161_1
                   replace hx161_2 := (HB.out.cell (World.block_lt_of_cell? w _ hx161_2)).trans hx161_2
                   replace hx161_3 := (HB.out.cell (World.block_lt_of_cell? w _ hx161_3)).trans hx161_3
                   replace p161 := eq_true p161
                   replace q161 := eq_true q161
                   try go_wp2_with (first | ((with_reducible refine gate_dst (N := 4) rfl ?_); (try (refine gate_guard (by rfl) ?_; dsimp only)); refine box_event rfl (N := 4) rfl (cs := #[.int .i64 0, .int .i64 0, .int .i64 0, .int .i64 0]) (t := 47) sE ?_; intro gb162 hg w38 hbox hb; have BK162 := Aside0.mk hbox; have GW162 := gS w hg (lV1 GE159); have GE162 := gS w hg (lV1 GE159); replace HB := bH (lV1 GE159) hb; have NB159_162 := nL hg (bV BK159); have NB162_159 := nG hg (bV BK159); replace BK159 := bB (bV BK159) hb; clear hb hbox hg; have hnb39 := NB162_159.out; have hnc39 := NB159_162.out; have hcz40_0 := cz BK162 0 (.int .i64 0); have hcz40_1 := cz BK162 1 (.int .i64 0); have hcz40_2 := cz BK162 2 (.int .i64 0); have hcz40_3 := cz BK162 3 (.int .i64 0); have hfz40_0 := fz BK162 0; have hfz40_1 := fz BK162 1; have hfz40_2 := fz BK162 2; have hfz40_3 := fz BK162 3))
                   have n0_ : Aside0 (((((w38.setCell ⟨gb162, 0, none⟩ (.int .i64 ((rd_T47 l0_1 x18_2).f0))).setCell ⟨gb162, 1, none⟩ (.int .i64 ((rd_T47 l0_1 x18_2).f1))).setCell ⟨gb162, 2, none⟩ (.int .i64 ((rd_T47 l0_1 x18_2).f2))).setCell ⟨gb162, 3, none⟩ (.int .i64 ((rd_T47 l0_1 x18_2).f3))).heap[gb159]? = some (.cells #[.int .i64 a0_0, .slice (some ad161) l0_1.length c0_1] 25 (0, 0))) := ⟨by refine bU ?_; refine blk_far ?_ NB159_162.out _; refine bU ?_; refine blk_far ?_ NB159_162.out _; refine bU ?_; refine blk_far ?_ NB159_162.out _; refine bU ?_; refine blk_far ?_ NB159_162.out _; refine bU ?_; exact BK159.out⟩
                   have n1_ : Aside0 (((((w38.setCell ⟨gb162, 0, none⟩ (.int .i64 ((rd_T47 l0_1 x18_2).f0))).setCell ⟨gb162, 1, none⟩ (.int .i64 ((rd_T47 l0_1 x18_2).f1))).setCell ⟨gb162, 2, none⟩ (.int .i64 ((rd_T47 l0_1 x18_2).f2))).setCell ⟨gb162, 3, none⟩ (.int .i64 ((rd_T47 l0_1 x18_2).f3))).heap[gb162]? = some (.cells #[.int .i64 ((rd_T47 l0_1 x18_2).f0), .int .i64 ((rd_T47 l0_1 x18_2).f1), .int .i64 ((rd_T47 l0_1 x18_2).f2), .int .i64 ((rd_T47 l0_1 x18_2).f3)] 47 (0, 0))) := ⟨by refine bU ?_; refine blk_put (cs := #[.int .i64 ((rd_T47 l0_1 x18_2).f0), .int .i64 ((rd_T47 l0_1 x18_2).f1), .int .i64 ((rd_T47 l0_1 x18_2).f2), .int .i64 0]) ?_ 3 _ rfl; refine bU ?_; refine blk_put (cs := #[.int .i64 ((rd_T47 l0_1 x18_2).f0), .int .i64 ((rd_T47 l0_1 x18_2).f1), .int .i64 0, .int .i64 0]) ?_ 2 _ rfl; refine bU ?_; refine blk_put (cs := #[.int .i64 ((rd_T47 l0_1 x18_2).f0), .int .i64 0, .int .i64 0, .int .i64 0]) ?_ 1 _ rfl; refine bU ?_; refine blk_put (cs := #[.int .i64 0, .int .i64 0, .int .i64 0, .int .i64 0]) ?_ 0 _ rfl; refine bU ?_; exact BK162.out⟩
                   have n2_ : Aside0 (Below w.heap.size w ((((w38.setCell ⟨gb162, 0, none⟩ (.int .i64 ((rd_T47 l0_1 x18_2).f0))).setCell ⟨gb162, 1, none⟩ (.int .i64 ((rd_T47 l0_1 x18_2).f1))).setCell ⟨gb162, 2, none⟩ (.int .i64 ((rd_T47 l0_1 x18_2).f2))).setCell ⟨gb162, 3, none⟩ (.int .i64 ((rd_T47 l0_1 x18_2).f3)))) := ⟨by repeat (first | (with_reducible first | exact HB.out | apply below_alloc | apply pw_below_drewN | apply below_drew1 | refine below_set ?_ GE159.out | refine below_set ?_ GE162.out) | exact HB.out)⟩
                   (try clear BK159)
                   (try clear BK162)
                   (try clear HB)
                   generalize ((((w38.setCell ⟨gb162, 0, none⟩ (.int .i64 ((rd_T47 l0_1 x18_2).f0))).setCell ⟨gb162, 1, none⟩ (.int .i64 ((rd_T47 l0_1 x18_2).f1))).setCell ⟨gb162, 2, none⟩ (.int .i64 ((rd_T47 l0_1 x18_2).f2))).setCell ⟨gb162, 3, none⟩ (.int .i64 ((rd_T47 l0_1 x18_2).f3))) = w41 at n0_ n1_ n2_ ⊢
                   have BK159 := n0_
                   have BK162 := n1_
                   have HB := n2_
                   clear n0_ n1_ n2_
                   replace BK159 := Aside0.mk (blk_drew BK159.out)
                   replace BK162 := Aside0.mk (blk_drew BK162.out)
                   replace HB := Aside0.mk (below_drew1 HB.out)
                   have p164 : 0 ≤ ((ji16) : Int) := of_decide_eq_true hE
                   have q164 : (ji16) < (l0_1.length : Int) := of_decide_eq_true hE
                   obtain ⟨ad164, e164, hx164_0, hx164_1, hx164_2, hx164_3⟩ := at_T47 HR0_1.out (ji16) p164 q164
                   have hw164_3 := hx164_3
                   have hw164_2 := hx164_2
                   have hw164_1 := hx164_1
                   have hw164_0 := hx164_0
                   obtain rfl : ad161 = ad164 := (by injection e164)
                   replace hx164_0 := (HB.out.cell (World.block_lt_of_cell? w _ hx164_0)).trans hx164_0
                   replace hx164_1 := (HB.out.cell (World.block_lt_of_cell? w _ hx164_1)).trans hx164_1
                   replace hx164_2 := (HB.out.cell (World.block_lt_of_cell? w _ hx164_2)).trans hx164_2
                   replace hx164_3 := (HB.out.cell (World.block_lt_of_cell? w _ hx164_3)).trans hx164_3
                   replace p164 := eq_true p164
                   replace q164 := eq_true q164
                   refine start_ (n := 51) (S := fun w' => w'.cell? ⟨gb162, 0, none⟩ = some (.int .i64 ((rd_T47 l0_1 x18_2).f0)) ∧ w'.cell? ⟨gb162, 1, none⟩ = some (.int .i64 ((rd_T47 l0_1 x18_2).f1)) ∧ w'.cell? ⟨gb162, 2, none⟩ = some (.int .i64 ((rd_T47 l0_1 x18_2).f2)) ∧ w'.cell? ⟨gb162, 3, none⟩ = some (.int .i64 ((rd_T47 l0_1 x18_2).f3)) ∧ w'.cell? ⟨gb159, 0, none⟩ = some (.int .i64 a0_0) ∧ w'.cell? ⟨gb159, 1, none⟩ = some (.slice (some ad161) l0_1.length c0_1) ∧ w'.cell? (ad161.add (((ji16)).toNat * 4)) = some (.int .i64 ((rd_T47 l0_1 (ji16)).f0)) ∧ w'.cell? ⟨(ad161.add (((ji16)).toNat * 4)).block, (ad161.add (((ji16)).toNat * 4)).off + 1, none⟩ = some (.int .i64 ((rd_T47 l0_1 (ji16)).f1)) ∧ w'.cell? ⟨(ad161.add (((ji16)).toNat * 4)).block, (ad161.add (((ji16)).toNat * 4)).off + 2, none⟩ = some (.int .i64 ((rd_T47 l0_1 (ji16)).f2)) ∧ w'.cell? ⟨(ad161.add (((ji16)).toNat * 4)).block, (ad161.add (((ji16)).toNat * 4)).off + 3, none⟩ = some (.int .i64 ((rd_T47 l0_1 (ji16)).f3))) (ds := []) #[false, false, false, false, false, false, false, false, false, false, false, false, false, false, false, false, false, false, false, false, false, false, false, false, false, false, false, false, false, false, false, false, false, false, false, false, false, false, false, false, false, false, false, false, false, false, false, false, false, false, false] (by kernel_rfl) rfl rfl ⟨cz BK162 0 _, cz BK162 1 _, cz BK162 2 _, cz BK162 3 _, cz BK159 0 _, cz BK159 1 _, ((HB.out.cell (World.block_lt_of_cell? w _ hw164_0)).trans hw164_0), ((HB.out.cell (World.block_lt_of_cell? w _ hw164_1)).trans hw164_1), ((HB.out.cell (World.block_lt_of_cell? w _ hw164_2)).trans hw164_2), ((HB.out.cell (World.block_lt_of_cell? w _ hw164_3)).trans hw164_3)⟩ (fun hHeld => ?_); refine with_tabW spec_GoodClock.tab6 spec_GoodClock.bits6 (fun HT_ HW_ => ?_)
                   generalize w41.drew = w42 at BK159 BK162 HB hx164_0 hx164_1 hx164_2 hx164_3 hHeld ⊢
                   refine pureA 0 23 (bz 51 1) rfl rfl (any_of HT_.out (by kernel_rfl)) ?_
                   refine takeA 1 24 (bz 51 3) rfl rfl (take_ofW HT_.out HW_.out (by kernel_rfl)) hHeld (by rintro w' ⟨s0, s1, s2, s3, s4, s5, s6, s7, s8, s9⟩; go_simp; with_reducible rfl) ?_
                   refine one_ (i := 2) (N := some 25) (bz 51 7) rfl rfl (one_of HT_.out (by kernel_rfl)) (by decide) (fun K hK => ?_)
                   refine goes_ Try.func18 (by kernel_rfl) rfl #[.int .i64 ((rd_T47 l0_1 x18_2).f0), .int .i64 0, .int .i64 999] (by rfl) rfl rfl aE ?_
                   with_reducible refine (spec_l1In.calls ((rd_T47 l0_1 x18_2).f0) 0 999 true _ A13.out).mono ?_
                   rintro e w' ⟨rfl, ⟨nd, rfl⟩⟩
                   refine ⟨_, rfl, ?_⟩
                   refine hK.out _ _ ⟨cz BK162 0 _, cz BK162 1 _, cz BK162 2 _, cz BK162 3 _, cz BK159 0 _, cz BK159 1 _, ((HB.out.cell (World.block_lt_of_cell? w _ hw164_0)).trans hw164_0), ((HB.out.cell (World.block_lt_of_cell? w _ hw164_1)).trans hw164_1), ((HB.out.cell (World.block_lt_of_cell? w _ hw164_2)).trans hw164_2), ((HB.out.cell (World.block_lt_of_cell? w _ hw164_3)).trans hw164_3)⟩ (fun hHeld => ?_)
                   clear hK K
                   refine norm_ (a' := ?_) ?_ ?_
                   rotate_left
                   ·show Act.put _ (some 25) _ = _
                    simp only [Act.put, List.setIfInBounds_toArray, List.set_cons_zero, List.set_cons_succ, i64_w, i32_w]
                    rfl
                   refine pureA 3 26 (bz 51 15) rfl rfl (any_of HT_.out (by kernel_rfl)) ?_
                   refine pureA 4 27 (bz 51 31) rfl rfl (any_of HT_.out (by kernel_rfl)) ?_
                   refine pureA 5 28 (bz 51 63) rfl rfl (any_of HT_.out (by kernel_rfl)) ?_
                   refine pureA 6 29 (bz 51 127) rfl rfl (any_of HT_.out (by kernel_rfl)) ?_
                   refine pureA 7 30 (bz 51 255) rfl rfl (any_of HT_.out (by kernel_rfl)) ?_
                   refine pureA 8 31 (bz 51 511) rfl rfl (any_of HT_.out (by kernel_rfl)) ?_
                   refine pureA 10 33 (bz 51 1535) rfl rfl (any_of HT_.out (by kernel_rfl)) ?_
                   refine pureA 11 34 (bz 51 3583) rfl rfl (any_of HT_.out (by kernel_rfl)) ?_
                   refine pureA 15 38 (bz 51 36351) rfl rfl (any_of HT_.out (by kernel_rfl)) ?_
                   refine takeA 9 32 (bz 51 36863) rfl rfl (take_ofW HT_.out HW_.out (by kernel_rfl)) hHeld (by rintro w' ⟨s0, s1, s2, s3, s4, s5, s6, s7, s8, s9⟩; go_simp; with_reducible rfl) ?_
                   refine pureA 12 35 (bz 51 40959) rfl rfl (any_of HT_.out (by kernel_rfl)) ?_
                   refine pureA 13 36 (bz 51 49151) rfl rfl (any_of HT_.out (by kernel_rfl)) ?_
                   refine takeA 14 37 (bz 51 65535) rfl rfl (take_ofW HT_.out HW_.out (by kernel_rfl)) hHeld (by rintro w' ⟨s0, s1, s2, s3, s4, s5, s6, s7, s8, s9⟩; go_simp; with_reducible rfl) ?_
                   refine takeA 16 39 (bz 51 131071) rfl rfl (take_ofW HT_.out HW_.out (by kernel_rfl)) hHeld (by rintro w' ⟨s0, s1, s2, s3, s4, s5, s6, s7, s8, s9⟩; go_simp; with_reducible rfl) ?_
                   refine pureA 17 40 (bz 51 262143) rfl rfl (any_of HT_.out (by kernel_rfl)) ?_
                   refine pureA 18 41 (bz 51 524287) rfl rfl (any_of HT_.out (by kernel_rfl)) ?_
                   refine pureA 19 42 (bz 51 1048575) rfl rfl (any_of HT_.out (by kernel_rfl)) ?_
                   refine pureA 20 43 (bz 51 2097151) rfl rfl (any_of HT_.out (by kernel_rfl)) ?_
                   refine pureA 21 44 (bz 51 4194303) rfl rfl (any_of HT_.out (by kernel_rfl)) ?_
                   refine pureA 23 46 (bz 51 12582911) rfl rfl (any_of HT_.out (by kernel_rfl)) ?_
                   refine takeA 22 45 (bz 51 16777215) rfl rfl (take_ofW HT_.out HW_.out (by kernel_rfl)) hHeld (by rintro w' ⟨s0, s1, s2, s3, s4, s5, s6, s7, s8, s9⟩; go_simp; with_reducible rfl) ?_
                   refine takeA 24 47 (bz 51 33554431) rfl rfl (take_ofW HT_.out HW_.out (by kernel_rfl)) hHeld (by rintro w' ⟨s0, s1, s2, s3, s4, s5, s6, s7, s8, s9⟩; go_simp; with_reducible rfl) ?_
                   refine pureA 25 48 (bz 51 67108863) rfl rfl (any_of HT_.out (by kernel_rfl)) ?_
                   refine one_ (i := 26) (N := some 49) (bz 51 134217727) rfl rfl (one_of HT_.out (by kernel_rfl)) (by decide) (fun K hK => ?_)
                   refine goes_ Try.func18 (by kernel_rfl) rfl #[.int .i64 ((rd_T47 l0_1 x18_2).f1), .int .i64 (wrap64 (a0_0 + 1)), .int .i64 200000] (by rfl) rfl rfl aE ?_
                   with_reducible refine (spec_l1In.calls ((rd_T47 l0_1 x18_2).f1) (wrap64 (a0_0 + 1)) 200000 true _ A25.out).mono ?_
                   rintro e w' ⟨rfl, ⟨nd, rfl⟩⟩
                   refine ⟨_, rfl, ?_⟩
                   refine hK.out _ _ ⟨cz BK162 0 _, cz BK162 1 _, cz BK162 2 _, cz BK162 3 _, cz BK159 0 _, cz BK159 1 _, ((HB.out.cell (World.block_lt_of_cell? w _ hw164_0)).trans hw164_0), ((HB.out.cell (World.block_lt_of_cell? w _ hw164_1)).trans hw164_1), ((HB.out.cell (World.block_lt_of_cell? w _ hw164_2)).trans hw164_2), ((HB.out.cell (World.block_lt_of_cell? w _ hw164_3)).trans hw164_3)⟩ (fun hHeld => ?_)
                   clear hK K
                   refine norm_ (a' := ?_) ?_ ?_
                   rotate_left
                   ·show Act.put _ (some 49) _ = _
                    simp only [Act.put, List.setIfInBounds_toArray, List.set_cons_zero, List.set_cons_succ, i64_w, i32_w]
                    rfl
                   refine pureA 27 50 (bz 51 268435455) rfl rfl (any_of HT_.out (by kernel_rfl)) ?_
                   refine pureA 28 51 (bz 51 536870911) rfl rfl (any_of HT_.out (by kernel_rfl)) ?_
                   refine pureA 29 52 (bz 51 1073741823) rfl rfl (any_of HT_.out (by kernel_rfl)) ?_
                   refine pureA 30 53 (bz 51 2147483647) rfl rfl (any_of HT_.out (by kernel_rfl)) ?_
                   refine takeA 31 54 (bz 51 4294967295) rfl rfl (take_ofW HT_.out HW_.out (by kernel_rfl)) hHeld (by rintro w' ⟨s0, s1, s2, s3, s4, s5, s6, s7, s8, s9⟩; go_simp; with_reducible rfl) ?_
                   refine one_ (i := 32) (N := some 55) (bz 51 8589934591) rfl rfl (one_of HT_.out (by kernel_rfl)) (by decide) (fun K hK => ?_)
                   refine goes_ Try.func18 (by kernel_rfl) rfl #[.int .i64 ((rd_T47 l0_1 x18_2).f2), .int .i64 0, .int .i64 100000] (by rfl) rfl rfl aE ?_
                   with_reducible refine (spec_l1In.calls ((rd_T47 l0_1 x18_2).f2) 0 100000 true _ A27.out).mono ?_
                   rintro e w' ⟨rfl, ⟨nd, rfl⟩⟩
                   refine ⟨_, rfl, ?_⟩
                   refine hK.out _ _ ⟨cz BK162 0 _, cz BK162 1 _, cz BK162 2 _, cz BK162 3 _, cz BK159 0 _, cz BK159 1 _, ((HB.out.cell (World.block_lt_of_cell? w _ hw164_0)).trans hw164_0), ((HB.out.cell (World.block_lt_of_cell? w _ hw164_1)).trans hw164_1), ((HB.out.cell (World.block_lt_of_cell? w _ hw164_2)).trans hw164_2), ((HB.out.cell (World.block_lt_of_cell? w _ hw164_3)).trans hw164_3)⟩ (fun hHeld => ?_)
                   clear hK K
                   refine norm_ (a' := ?_) ?_ ?_
                   rotate_left
                   ·show Act.put _ (some 55) _ = _
                    simp only [Act.put, List.setIfInBounds_toArray, List.set_cons_zero, List.set_cons_succ, i64_w, i32_w]
                    rfl
                   refine pureA 33 56 (bz 51 17179869183) rfl rfl (any_of HT_.out (by kernel_rfl)) ?_
                   refine pureA 34 57 (bz 51 34359738367) rfl rfl (any_of HT_.out (by kernel_rfl)) ?_
                   refine pureA 35 58 (bz 51 68719476735) rfl rfl (any_of HT_.out (by kernel_rfl)) ?_
                   refine pureA 36 59 (bz 51 137438953471) rfl rfl (any_of HT_.out (by kernel_rfl)) ?_
                   refine takeA 37 60 (bz 51 274877906943) rfl rfl (take_ofW HT_.out HW_.out (by kernel_rfl)) hHeld (by rintro w' ⟨s0, s1, s2, s3, s4, s5, s6, s7, s8, s9⟩; go_simp; with_reducible rfl) ?_
                   refine one_ (i := 38) (N := some 61) (bz 51 549755813887) rfl rfl (one_of HT_.out (by kernel_rfl)) (by decide) (fun K hK => ?_)
                   refine goes_ Try.func18 (by kernel_rfl) rfl #[.int .i64 ((rd_T47 l0_1 x18_2).f3), .int .i64 1, .int .i64 1000] (by rfl) rfl rfl aE ?_
                   with_reducible refine (spec_l1In.calls ((rd_T47 l0_1 x18_2).f3) 1 1000 true _ A29.out).mono ?_
                   rintro e w' ⟨rfl, ⟨nd, rfl⟩⟩
                   refine ⟨_, rfl, ?_⟩
                   refine hK.out _ _ ⟨cz BK162 0 _, cz BK162 1 _, cz BK162 2 _, cz BK162 3 _, cz BK159 0 _, cz BK159 1 _, ((HB.out.cell (World.block_lt_of_cell? w _ hw164_0)).trans hw164_0), ((HB.out.cell (World.block_lt_of_cell? w _ hw164_1)).trans hw164_1), ((HB.out.cell (World.block_lt_of_cell? w _ hw164_2)).trans hw164_2), ((HB.out.cell (World.block_lt_of_cell? w _ hw164_3)).trans hw164_3)⟩ (fun hHeld => ?_)
                   clear hK K
                   refine norm_ (a' := ?_) ?_ ?_
                   rotate_left
                   ·show Act.put _ (some 61) _ = _
                    simp only [Act.put, List.setIfInBounds_toArray, List.set_cons_zero, List.set_cons_succ, i64_w, i32_w]
                    rfl
                   refine pureA 39 62 (bz 51 1099511627775) rfl rfl (any_of HT_.out (by kernel_rfl)) ?_
                   refine pureA 40 63 (bz 51 2199023255551) rfl rfl (any_of HT_.out (by kernel_rfl)) ?_
                   refine pureA 41 64 (bz 51 4398046511103) rfl rfl (any_of HT_.out (by kernel_rfl)) ?_
                   refine pureA 42 65 (bz 51 8796093022207) rfl rfl (any_of HT_.out (by kernel_rfl)) ?_
                   refine takeA 43 66 (bz 51 17592186044415) rfl rfl (take_ofW HT_.out HW_.out (by kernel_rfl)) hHeld (by rintro w' ⟨s0, s1, s2, s3, s4, s5, s6, s7, s8, s9⟩; go_simp; with_reducible rfl) ?_
                   refine pureA 44 67 (bz 51 35184372088831) rfl rfl (any_of HT_.out (by kernel_rfl)) ?_
                   refine pureA 45 68 (bz 51 70368744177663) rfl rfl (any_of HT_.out (by kernel_rfl)) ?_
                   refine pureA 46 69 (bz 51 140737488355327) rfl rfl (any_of HT_.out (by kernel_rfl)) ?_
                   refine takeA 47 70 (bz 51 281474976710655) rfl rfl (take_ofW HT_.out HW_.out (by kernel_rfl)) hHeld (by rintro w' ⟨s0, s1, s2, s3, s4, s5, s6, s7, s8, s9⟩; go_simp; with_reducible rfl) ?_
                   refine pureA 48 71 (bz 51 562949953421311) rfl rfl (any_of HT_.out (by kernel_rfl)) ?_
                   refine pureA 49 72 (bz 51 1125899906842623) rfl rfl (any_of HT_.out (by kernel_rfl)) ?_
                   refine pureA 50 73 (bz 51 2251799813685247) rfl rfl (any_of HT_.out (by kernel_rfl)) ?_
                   refine done_ (done_of HT_.out (by kernel_rfl)) ?_
                   try go_wp2
                   go_ret
                   exact ⟨by first | rfl | (simp [errW_none, errW_some] <;> rfl) | (simp only [← hji16]; first | rfl | (simp [errW_none, errW_some] <;> rfl)) | (simp [*, errW_none, errW_some] <;> rfl), lV2 GE159 GE162⟩
                 ·rw [if_neg c31] at H
                  have c31b0 : (((rd_T47 l0_1 x18_2).f2) == 0) = false := beq_eq_false_iff_ne.mpr c31
                  have c31b1 : (((rd_T47 l0_1 x18_2).f2) != 0) = true := bne_iff_ne.mpr c31
                  have H' := Aside0.mk H
                  clear H
                  have p161 : 0 ≤ (x18_2 : Int) := of_decide_eq_true hE
                  have q161 : x18_2 < (l0_1.length : Int) := of_decide_eq_true hE
                  obtain ⟨ad161, e161, hx161_0, hx161_1, hx161_2, hx161_3⟩ := at_T47 HR0_1.out x18_2 p161 q161
                  cases e161
                  replace hx161_0 := (HB.out.cell (World.block_lt_of_cell? w _ hx161_0)).trans hx161_0
                  replace hx161_1 := (HB.out.cell (World.block_lt_of_cell? w _ hx161_1)).trans hx161_1
                  replace hx161_2 := (HB.out.cell (World.block_lt_of_cell? w _ hx161_2)).trans hx161_2
                  replace hx161_3 := (HB.out.cell (World.block_lt_of_cell? w _ hx161_3)).trans hx161_3
                  replace p161 := eq_true p161
                  replace q161 := eq_true q161
                  try go_wp2_with (first | ((with_reducible refine gate_dst (N := 4) rfl ?_); (try (refine gate_guard (by rfl) ?_; dsimp only)); refine box_event rfl (N := 4) rfl (cs := #[.int .i64 0, .int .i64 0, .int .i64 0, .int .i64 0]) (t := 47) sE ?_; intro gb162 hg w43 hbox hb; have BK162 := Aside0.mk hbox; have GW162 := gS w hg (lV1 GE159); have GE162 := gS w hg (lV1 GE159); replace HB := bH (lV1 GE159) hb; have NB159_162 := nL hg (bV BK159); have NB162_159 := nG hg (bV BK159); replace BK159 := bB (bV BK159) hb; clear hb hbox hg; have hnb44 := NB162_159.out; have hnc44 := NB159_162.out; have hcz45_0 := cz BK162 0 (.int .i64 0); have hcz45_1 := cz BK162 1 (.int .i64 0); have hcz45_2 := cz BK162 2 (.int .i64 0); have hcz45_3 := cz BK162 3 (.int .i64 0); have hfz45_0 := fz BK162 0; have hfz45_1 := fz BK162 1; have hfz45_2 := fz BK162 2; have hfz45_3 := fz BK162 3))
                  have n0_ : Aside0 (((((w43.setCell ⟨gb162, 0, none⟩ (.int .i64 ((rd_T47 l0_1 x18_2).f0))).setCell ⟨gb162, 1, none⟩ (.int .i64 ((rd_T47 l0_1 x18_2).f1))).setCell ⟨gb162, 2, none⟩ (.int .i64 ((rd_T47 l0_1 x18_2).f2))).setCell ⟨gb162, 3, none⟩ (.int .i64 ((rd_T47 l0_1 x18_2).f3))).heap[gb159]? = some (.cells #[.int .i64 a0_0, .slice (some ad161) l0_1.length c0_1] 25 (0, 0))) := ⟨by refine bU ?_; refine blk_far ?_ NB159_162.out _; refine bU ?_; refine blk_far ?_ NB159_162.out _; refine bU ?_; refine blk_far ?_ NB159_162.out _; refine bU ?_; refine blk_far ?_ NB159_162.out _; refine bU ?_; exact BK159.out⟩
                  have n1_ : Aside0 (((((w43.setCell ⟨gb162, 0, none⟩ (.int .i64 ((rd_T47 l0_1 x18_2).f0))).setCell ⟨gb162, 1, none⟩ (.int .i64 ((rd_T47 l0_1 x18_2).f1))).setCell ⟨gb162, 2, none⟩ (.int .i64 ((rd_T47 l0_1 x18_2).f2))).setCell ⟨gb162, 3, none⟩ (.int .i64 ((rd_T47 l0_1 x18_2).f3))).heap[gb162]? = some (.cells #[.int .i64 ((rd_T47 l0_1 x18_2).f0), .int .i64 ((rd_T47 l0_1 x18_2).f1), .int .i64 ((rd_T47 l0_1 x18_2).f2), .int .i64 ((rd_T47 l0_1 x18_2).f3)] 47 (0, 0))) := ⟨by refine bU ?_; refine blk_put (cs := #[.int .i64 ((rd_T47 l0_1 x18_2).f0), .int .i64 ((rd_T47 l0_1 x18_2).f1), .int .i64 ((rd_T47 l0_1 x18_2).f2), .int .i64 0]) ?_ 3 _ rfl; refine bU ?_; refine blk_put (cs := #[.int .i64 ((rd_T47 l0_1 x18_2).f0), .int .i64 ((rd_T47 l0_1 x18_2).f1), .int .i64 0, .int .i64 0]) ?_ 2 _ rfl; refine bU ?_; refine blk_put (cs := #[.int .i64 ((rd_T47 l0_1 x18_2).f0), .int .i64 0, .int .i64 0, .int .i64 0]) ?_ 1 _ rfl; refine bU ?_; refine blk_put (cs := #[.int .i64 0, .int .i64 0, .int .i64 0, .int .i64 0]) ?_ 0 _ rfl; refine bU ?_; exact BK162.out⟩
                  have n2_ : Aside0 (Below w.heap.size w ((((w43.setCell ⟨gb162, 0, none⟩ (.int .i64 ((rd_T47 l0_1 x18_2).f0))).setCell ⟨gb162, 1, none⟩ (.int .i64 ((rd_T47 l0_1 x18_2).f1))).setCell ⟨gb162, 2, none⟩ (.int .i64 ((rd_T47 l0_1 x18_2).f2))).setCell ⟨gb162, 3, none⟩ (.int .i64 ((rd_T47 l0_1 x18_2).f3)))) := ⟨by repeat (first | (with_reducible first | exact HB.out | apply below_alloc | apply pw_below_drewN | apply below_drew1 | refine below_set ?_ GE159.out | refine below_set ?_ GE162.out) | exact HB.out)⟩
                  (try clear BK159)
                  (try clear BK162)
                  (try clear HB)
                  generalize ((((w43.setCell ⟨gb162, 0, none⟩ (.int .i64 ((rd_T47 l0_1 x18_2).f0))).setCell ⟨gb162, 1, none⟩ (.int .i64 ((rd_T47 l0_1 x18_2).f1))).setCell ⟨gb162, 2, none⟩ (.int .i64 ((rd_T47 l0_1 x18_2).f2))).setCell ⟨gb162, 3, none⟩ (.int .i64 ((rd_T47 l0_1 x18_2).f3))) = w46 at n0_ n1_ n2_ ⊢
                  have BK159 := n0_
                  have BK162 := n1_
                  have HB := n2_
                  clear n0_ n1_ n2_
                  replace BK159 := Aside0.mk (blk_drew BK159.out)
                  replace BK162 := Aside0.mk (blk_drew BK162.out)
                  replace HB := Aside0.mk (below_drew1 HB.out)
                  have p164 : 0 ≤ ((ji16) : Int) := of_decide_eq_true hE
                  have q164 : (ji16) < (l0_1.length : Int) := of_decide_eq_true hE
                  obtain ⟨ad164, e164, hx164_0, hx164_1, hx164_2, hx164_3⟩ := at_T47 HR0_1.out (ji16) p164 q164
                  have hw164_3 := hx164_3
                  have hw164_2 := hx164_2
                  have hw164_1 := hx164_1
                  have hw164_0 := hx164_0
                  obtain rfl : ad161 = ad164 := (by injection e164)
                  replace hx164_0 := (HB.out.cell (World.block_lt_of_cell? w _ hx164_0)).trans hx164_0
                  replace hx164_1 := (HB.out.cell (World.block_lt_of_cell? w _ hx164_1)).trans hx164_1
                  replace hx164_2 := (HB.out.cell (World.block_lt_of_cell? w _ hx164_2)).trans hx164_2
                  replace hx164_3 := (HB.out.cell (World.block_lt_of_cell? w _ hx164_3)).trans hx164_3
                  replace p164 := eq_true p164
                  replace q164 := eq_true q164
                  refine start_ (n := 51) (S := fun w' => w'.cell? ⟨gb162, 0, none⟩ = some (.int .i64 ((rd_T47 l0_1 x18_2).f0)) ∧ w'.cell? ⟨gb162, 1, none⟩ = some (.int .i64 ((rd_T47 l0_1 x18_2).f1)) ∧ w'.cell? ⟨gb162, 2, none⟩ = some (.int .i64 ((rd_T47 l0_1 x18_2).f2)) ∧ w'.cell? ⟨gb162, 3, none⟩ = some (.int .i64 ((rd_T47 l0_1 x18_2).f3)) ∧ w'.cell? ⟨gb159, 0, none⟩ = some (.int .i64 a0_0) ∧ w'.cell? ⟨gb159, 1, none⟩ = some (.slice (some ad161) l0_1.length c0_1) ∧ w'.cell? (ad161.add (((ji16)).toNat * 4)) = some (.int .i64 ((rd_T47 l0_1 (ji16)).f0)) ∧ w'.cell? ⟨(ad161.add (((ji16)).toNat * 4)).block, (ad161.add (((ji16)).toNat * 4)).off + 1, none⟩ = some (.int .i64 ((rd_T47 l0_1 (ji16)).f1)) ∧ w'.cell? ⟨(ad161.add (((ji16)).toNat * 4)).block, (ad161.add (((ji16)).toNat * 4)).off + 2, none⟩ = some (.int .i64 ((rd_T47 l0_1 (ji16)).f2)) ∧ w'.cell? ⟨(ad161.add (((ji16)).toNat * 4)).block, (ad161.add (((ji16)).toNat * 4)).off + 3, none⟩ = some (.int .i64 ((rd_T47 l0_1 (ji16)).f3))) (ds := []) #[false, false, false, false, false, false, false, false, false, false, false, false, false, false, false, false, false, false, false, false, false, false, false, false, false, false, false, false, false, false, false, false, false, false, false, false, false, false, false, false, false, false, false, false, false, false, false, false, false, false, false] (by kernel_rfl) rfl rfl ⟨cz BK162 0 _, cz BK162 1 _, cz BK162 2 _, cz BK162 3 _, cz BK159 0 _, cz BK159 1 _, ((HB.out.cell (World.block_lt_of_cell? w _ hw164_0)).trans hw164_0), ((HB.out.cell (World.block_lt_of_cell? w _ hw164_1)).trans hw164_1), ((HB.out.cell (World.block_lt_of_cell? w _ hw164_2)).trans hw164_2), ((HB.out.cell (World.block_lt_of_cell? w _ hw164_3)).trans hw164_3)⟩ (fun hHeld => ?_); refine with_tabW spec_GoodClock.tab6 spec_GoodClock.bits6 (fun HT_ HW_ => ?_)
                  generalize w46.drew = w47 at BK159 BK162 HB hx164_0 hx164_1 hx164_2 hx164_3 hHeld ⊢
                  refine pureA 0 23 (bz 51 1) rfl rfl (any_of HT_.out (by kernel_rfl)) ?_
                  refine takeA 1 24 (bz 51 3) rfl rfl (take_ofW HT_.out HW_.out (by kernel_rfl)) hHeld (by rintro w' ⟨s0, s1, s2, s3, s4, s5, s6, s7, s8, s9⟩; go_simp; with_reducible rfl) ?_
                  refine one_ (i := 2) (N := some 25) (bz 51 7) rfl rfl (one_of HT_.out (by kernel_rfl)) (by decide) (fun K hK => ?_)
                  refine goes_ Try.func18 (by kernel_rfl) rfl #[.int .i64 ((rd_T47 l0_1 x18_2).f0), .int .i64 0, .int .i64 999] (by rfl) rfl rfl aE ?_
                  with_reducible refine (spec_l1In.calls ((rd_T47 l0_1 x18_2).f0) 0 999 true _ A13.out).mono ?_
                  rintro e w' ⟨rfl, ⟨nd, rfl⟩⟩
                  refine ⟨_, rfl, ?_⟩
                  refine hK.out _ _ ⟨cz BK162 0 _, cz BK162 1 _, cz BK162 2 _, cz BK162 3 _, cz BK159 0 _, cz BK159 1 _, ((HB.out.cell (World.block_lt_of_cell? w _ hw164_0)).trans hw164_0), ((HB.out.cell (World.block_lt_of_cell? w _ hw164_1)).trans hw164_1), ((HB.out.cell (World.block_lt_of_cell? w _ hw164_2)).trans hw164_2), ((HB.out.cell (World.block_lt_of_cell? w _ hw164_3)).trans hw164_3)⟩ (fun hHeld => ?_)
                  clear hK K
                  refine norm_ (a' := ?_) ?_ ?_
                  rotate_left
                  ·show Act.put _ (some 25) _ = _
                   simp only [Act.put, List.setIfInBounds_toArray, List.set_cons_zero, List.set_cons_succ, i64_w, i32_w]
                   rfl
                  refine pureA 3 26 (bz 51 15) rfl rfl (any_of HT_.out (by kernel_rfl)) ?_
                  refine pureA 4 27 (bz 51 31) rfl rfl (any_of HT_.out (by kernel_rfl)) ?_
                  refine pureA 5 28 (bz 51 63) rfl rfl (any_of HT_.out (by kernel_rfl)) ?_
                  refine pureA 6 29 (bz 51 127) rfl rfl (any_of HT_.out (by kernel_rfl)) ?_
                  refine pureA 7 30 (bz 51 255) rfl rfl (any_of HT_.out (by kernel_rfl)) ?_
                  refine pureA 8 31 (bz 51 511) rfl rfl (any_of HT_.out (by kernel_rfl)) ?_
                  refine pureA 10 33 (bz 51 1535) rfl rfl (any_of HT_.out (by kernel_rfl)) ?_
                  refine pureA 11 34 (bz 51 3583) rfl rfl (any_of HT_.out (by kernel_rfl)) ?_
                  refine pureA 15 38 (bz 51 36351) rfl rfl (any_of HT_.out (by kernel_rfl)) ?_
                  refine takeA 9 32 (bz 51 36863) rfl rfl (take_ofW HT_.out HW_.out (by kernel_rfl)) hHeld (by rintro w' ⟨s0, s1, s2, s3, s4, s5, s6, s7, s8, s9⟩; go_simp; with_reducible rfl) ?_
                  refine pureA 12 35 (bz 51 40959) rfl rfl (any_of HT_.out (by kernel_rfl)) ?_
                  refine pureA 13 36 (bz 51 49151) rfl rfl (any_of HT_.out (by kernel_rfl)) ?_
                  refine takeA 14 37 (bz 51 65535) rfl rfl (take_ofW HT_.out HW_.out (by kernel_rfl)) hHeld (by rintro w' ⟨s0, s1, s2, s3, s4, s5, s6, s7, s8, s9⟩; go_simp; with_reducible rfl) ?_
                  refine takeA 16 39 (bz 51 131071) rfl rfl (take_ofW HT_.out HW_.out (by kernel_rfl)) hHeld (by rintro w' ⟨s0, s1, s2, s3, s4, s5, s6, s7, s8, s9⟩; go_simp; with_reducible rfl) ?_
                  refine pureA 17 40 (bz 51 262143) rfl rfl (any_of HT_.out (by kernel_rfl)) ?_
                  refine pureA 18 41 (bz 51 524287) rfl rfl (any_of HT_.out (by kernel_rfl)) ?_
                  refine pureA 19 42 (bz 51 1048575) rfl rfl (any_of HT_.out (by kernel_rfl)) ?_
                  refine pureA 20 43 (bz 51 2097151) rfl rfl (any_of HT_.out (by kernel_rfl)) ?_
                  refine pureA 21 44 (bz 51 4194303) rfl rfl (any_of HT_.out (by kernel_rfl)) ?_
                  refine pureA 23 46 (bz 51 12582911) rfl rfl (any_of HT_.out (by kernel_rfl)) ?_
                  refine takeA 22 45 (bz 51 16777215) rfl rfl (take_ofW HT_.out HW_.out (by kernel_rfl)) hHeld (by rintro w' ⟨s0, s1, s2, s3, s4, s5, s6, s7, s8, s9⟩; go_simp; with_reducible rfl) ?_
                  refine takeA 24 47 (bz 51 33554431) rfl rfl (take_ofW HT_.out HW_.out (by kernel_rfl)) hHeld (by rintro w' ⟨s0, s1, s2, s3, s4, s5, s6, s7, s8, s9⟩; go_simp; with_reducible rfl) ?_
                  refine pureA 25 48 (bz 51 67108863) rfl rfl (any_of HT_.out (by kernel_rfl)) ?_
                  refine one_ (i := 26) (N := some 49) (bz 51 134217727) rfl rfl (one_of HT_.out (by kernel_rfl)) (by decide) (fun K hK => ?_)
                  refine goes_ Try.func18 (by kernel_rfl) rfl #[.int .i64 ((rd_T47 l0_1 x18_2).f1), .int .i64 (wrap64 (a0_0 + 1)), .int .i64 200000] (by rfl) rfl rfl aE ?_
                  with_reducible refine (spec_l1In.calls ((rd_T47 l0_1 x18_2).f1) (wrap64 (a0_0 + 1)) 200000 true _ A25.out).mono ?_
                  rintro e w' ⟨rfl, ⟨nd, rfl⟩⟩
                  refine ⟨_, rfl, ?_⟩
                  refine hK.out _ _ ⟨cz BK162 0 _, cz BK162 1 _, cz BK162 2 _, cz BK162 3 _, cz BK159 0 _, cz BK159 1 _, ((HB.out.cell (World.block_lt_of_cell? w _ hw164_0)).trans hw164_0), ((HB.out.cell (World.block_lt_of_cell? w _ hw164_1)).trans hw164_1), ((HB.out.cell (World.block_lt_of_cell? w _ hw164_2)).trans hw164_2), ((HB.out.cell (World.block_lt_of_cell? w _ hw164_3)).trans hw164_3)⟩ (fun hHeld => ?_)
                  clear hK K
                  refine norm_ (a' := ?_) ?_ ?_
                  rotate_left
                  ·show Act.put _ (some 49) _ = _
                   simp only [Act.put, List.setIfInBounds_toArray, List.set_cons_zero, List.set_cons_succ, i64_w, i32_w]
                   rfl
                  refine pureA 27 50 (bz 51 268435455) rfl rfl (any_of HT_.out (by kernel_rfl)) ?_
                  refine pureA 28 51 (bz 51 536870911) rfl rfl (any_of HT_.out (by kernel_rfl)) ?_
                  refine pureA 29 52 (bz 51 1073741823) rfl rfl (any_of HT_.out (by kernel_rfl)) ?_
                  refine pureA 30 53 (bz 51 2147483647) rfl rfl (any_of HT_.out (by kernel_rfl)) ?_
                  refine takeA 31 54 (bz 51 4294967295) rfl rfl (take_ofW HT_.out HW_.out (by kernel_rfl)) hHeld (by rintro w' ⟨s0, s1, s2, s3, s4, s5, s6, s7, s8, s9⟩; go_simp; with_reducible rfl) ?_
                  refine one_ (i := 32) (N := some 55) (bz 51 8589934591) rfl rfl (one_of HT_.out (by kernel_rfl)) (by decide) (fun K hK => ?_)
                  refine goes_ Try.func18 (by kernel_rfl) rfl #[.int .i64 ((rd_T47 l0_1 x18_2).f2), .int .i64 0, .int .i64 100000] (by rfl) rfl rfl aE ?_
                  with_reducible refine (spec_l1In.calls ((rd_T47 l0_1 x18_2).f2) 0 100000 true _ A27.out).mono ?_
                  rintro e w' ⟨rfl, ⟨nd, rfl⟩⟩
                  refine ⟨_, rfl, ?_⟩
                  refine hK.out _ _ ⟨cz BK162 0 _, cz BK162 1 _, cz BK162 2 _, cz BK162 3 _, cz BK159 0 _, cz BK159 1 _, ((HB.out.cell (World.block_lt_of_cell? w _ hw164_0)).trans hw164_0), ((HB.out.cell (World.block_lt_of_cell? w _ hw164_1)).trans hw164_1), ((HB.out.cell (World.block_lt_of_cell? w _ hw164_2)).trans hw164_2), ((HB.out.cell (World.block_lt_of_cell? w _ hw164_3)).trans hw164_3)⟩ (fun hHeld => ?_)
                  clear hK K
                  refine norm_ (a' := ?_) ?_ ?_
                  rotate_left
                  ·show Act.put _ (some 55) _ = _
                   simp only [Act.put, List.setIfInBounds_toArray, List.set_cons_zero, List.set_cons_succ, i64_w, i32_w]
                   rfl
                  refine pureA 33 56 (bz 51 17179869183) rfl rfl (any_of HT_.out (by kernel_rfl)) ?_
                  refine pureA 34 57 (bz 51 34359738367) rfl rfl (any_of HT_.out (by kernel_rfl)) ?_
                  refine pureA 35 58 (bz 51 68719476735) rfl rfl (any_of HT_.out (by kernel_rfl)) ?_
                  refine pureA 36 59 (bz 51 137438953471) rfl rfl (any_of HT_.out (by kernel_rfl)) ?_
                  refine takeA 37 60 (bz 51 274877906943) rfl rfl (take_ofW HT_.out HW_.out (by kernel_rfl)) hHeld (by rintro w' ⟨s0, s1, s2, s3, s4, s5, s6, s7, s8, s9⟩; go_simp; with_reducible rfl) ?_
                  refine one_ (i := 38) (N := some 61) (bz 51 549755813887) rfl rfl (one_of HT_.out (by kernel_rfl)) (by decide) (fun K hK => ?_)
                  refine goes_ Try.func18 (by kernel_rfl) rfl #[.int .i64 ((rd_T47 l0_1 x18_2).f3), .int .i64 1, .int .i64 1000] (by rfl) rfl rfl aE ?_
                  with_reducible refine (spec_l1In.calls ((rd_T47 l0_1 x18_2).f3) 1 1000 true _ A29.out).mono ?_
                  rintro e w' ⟨rfl, ⟨nd, rfl⟩⟩
                  refine ⟨_, rfl, ?_⟩
                  refine hK.out _ _ ⟨cz BK162 0 _, cz BK162 1 _, cz BK162 2 _, cz BK162 3 _, cz BK159 0 _, cz BK159 1 _, ((HB.out.cell (World.block_lt_of_cell? w _ hw164_0)).trans hw164_0), ((HB.out.cell (World.block_lt_of_cell? w _ hw164_1)).trans hw164_1), ((HB.out.cell (World.block_lt_of_cell? w _ hw164_2)).trans hw164_2), ((HB.out.cell (World.block_lt_of_cell? w _ hw164_3)).trans hw164_3)⟩ (fun hHeld => ?_)
                  clear hK K
                  refine norm_ (a' := ?_) ?_ ?_
                  rotate_left
                  ·show Act.put _ (some 61) _ = _
                   simp only [Act.put, List.setIfInBounds_toArray, List.set_cons_zero, List.set_cons_succ, i64_w, i32_w]
                   rfl
                  refine pureA 39 62 (bz 51 1099511627775) rfl rfl (any_of HT_.out (by kernel_rfl)) ?_
                  refine pureA 40 63 (bz 51 2199023255551) rfl rfl (any_of HT_.out (by kernel_rfl)) ?_
                  refine pureA 41 64 (bz 51 4398046511103) rfl rfl (any_of HT_.out (by kernel_rfl)) ?_
                  refine pureA 42 65 (bz 51 8796093022207) rfl rfl (any_of HT_.out (by kernel_rfl)) ?_
                  refine takeA 43 66 (bz 51 17592186044415) rfl rfl (take_ofW HT_.out HW_.out (by kernel_rfl)) hHeld (by rintro w' ⟨s0, s1, s2, s3, s4, s5, s6, s7, s8, s9⟩; go_simp; with_reducible rfl) ?_
                  refine pureA 44 67 (bz 51 35184372088831) rfl rfl (any_of HT_.out (by kernel_rfl)) ?_
                  refine pureA 45 68 (bz 51 70368744177663) rfl rfl (any_of HT_.out (by kernel_rfl)) ?_
                  refine pureU 46 69 (bz 51 140737488355327) rfl rfl (any_of HT_.out (by kernel_rfl)) ?_
                  refine pureU 47 70 (bz 51 281474976710655) rfl rfl (any_of HT_.out (by kernel_rfl)) ?_
                  refine pureU 48 71 (bz 51 562949953421311) rfl rfl (any_of HT_.out (by kernel_rfl)) ?_
                  refine pureA 49 72 (bz 51 1125899906842623) rfl rfl (any_of HT_.out (by kernel_rfl)) ?_
                  refine pureA 50 73 (bz 51 2251799813685247) rfl rfl (any_of HT_.out (by kernel_rfl)) ?_
                  refine done_ (done_of HT_.out (by kernel_rfl)) ?_
                  try go_wp2
                  go_roundg k2
                  case measure => have := HJ1.out; have := HK2.out; omega
                  case rel => exact ⟨(wrap64 (x18_2 + 1)), tE, H', ⟨by have := HJ1.out; have := HK2.out; omega⟩, ⟨by refine bU ?_; exact BK159.out⟩, ⟨by repeat (first | (with_reducible first | exact HB.out | apply below_alloc | apply pw_below_drewN | apply below_drew1 | refine below_set ?_ GE159.out | refine below_set ?_ GE162.out) | exact HB.out)⟩⟩
                ·replace c30 := Bool.eq_false_iff.mpr c30
                 subst c30
                 have H1 : (some false) = some r := by rw [if_neg (show ¬ (false = true) by decide)] at H; exact H
                 clear H
                 have H := H1
                 clear H1
                 obtain rfl := Option.some.inj H
                 have p161 : 0 ≤ (x18_2 : Int) := of_decide_eq_true hE
                 have q161 : x18_2 < (l0_1.length : Int) := of_decide_eq_true hE
                 obtain ⟨ad161, e161, hx161_0, hx161_1, hx161_2, hx161_3⟩ := at_T47 HR0_1.out x18_2 p161 q161
                 cases e161
                 replace hx161_0 := (HB.out.cell (World.block_lt_of_cell? w _ hx161_0)).trans hx161_0
                 replace hx161_1 := (HB.out.cell (World.block_lt_of_cell? w _ hx161_1)).trans hx161_1
                 replace hx161_2 := (HB.out.cell (World.block_lt_of_cell? w _ hx161_2)).trans hx161_2
                 replace hx161_3 := (HB.out.cell (World.block_lt_of_cell? w _ hx161_3)).trans hx161_3
                 replace p161 := eq_true p161
                 replace q161 := eq_true q161
                 try go_wp2_with (first | ((with_reducible refine gate_dst (N := 4) rfl ?_); (try (refine gate_guard (by rfl) ?_; dsimp only)); refine box_event rfl (N := 4) rfl (cs := #[.int .i64 0, .int .i64 0, .int .i64 0, .int .i64 0]) (t := 47) sE ?_; intro gb162 hg w48 hbox hb; have BK162 := Aside0.mk hbox; have GW162 := gS w hg (lV1 GE159); have GE162 := gS w hg (lV1 GE159); replace HB := bH (lV1 GE159) hb; have NB159_162 := nL hg (bV BK159); have NB162_159 := nG hg (bV BK159); replace BK159 := bB (bV BK159) hb; clear hb hbox hg; have hnb49 := NB162_159.out; have hnc49 := NB159_162.out; have hcz50_0 := cz BK162 0 (.int .i64 0); have hcz50_1 := cz BK162 1 (.int .i64 0); have hcz50_2 := cz BK162 2 (.int .i64 0); have hcz50_3 := cz BK162 3 (.int .i64 0); have hfz50_0 := fz BK162 0; have hfz50_1 := fz BK162 1; have hfz50_2 := fz BK162 2; have hfz50_3 := fz BK162 3))
                 have n0_ : Aside0 (((((w48.setCell ⟨gb162, 0, none⟩ (.int .i64 ((rd_T47 l0_1 x18_2).f0))).setCell ⟨gb162, 1, none⟩ (.int .i64 ((rd_T47 l0_1 x18_2).f1))).setCell ⟨gb162, 2, none⟩ (.int .i64 ((rd_T47 l0_1 x18_2).f2))).setCell ⟨gb162, 3, none⟩ (.int .i64 ((rd_T47 l0_1 x18_2).f3))).heap[gb159]? = some (.cells #[.int .i64 a0_0, .slice (some ad161) l0_1.length c0_1] 25 (0, 0))) := ⟨by refine bU ?_; refine blk_far ?_ NB159_162.out _; refine bU ?_; refine blk_far ?_ NB159_162.out _; refine bU ?_; refine blk_far ?_ NB159_162.out _; refine bU ?_; refine blk_far ?_ NB159_162.out _; refine bU ?_; exact BK159.out⟩
                 have n1_ : Aside0 (((((w48.setCell ⟨gb162, 0, none⟩ (.int .i64 ((rd_T47 l0_1 x18_2).f0))).setCell ⟨gb162, 1, none⟩ (.int .i64 ((rd_T47 l0_1 x18_2).f1))).setCell ⟨gb162, 2, none⟩ (.int .i64 ((rd_T47 l0_1 x18_2).f2))).setCell ⟨gb162, 3, none⟩ (.int .i64 ((rd_T47 l0_1 x18_2).f3))).heap[gb162]? = some (.cells #[.int .i64 ((rd_T47 l0_1 x18_2).f0), .int .i64 ((rd_T47 l0_1 x18_2).f1), .int .i64 ((rd_T47 l0_1 x18_2).f2), .int .i64 ((rd_T47 l0_1 x18_2).f3)] 47 (0, 0))) := ⟨by refine bU ?_; refine blk_put (cs := #[.int .i64 ((rd_T47 l0_1 x18_2).f0), .int .i64 ((rd_T47 l0_1 x18_2).f1), .int .i64 ((rd_T47 l0_1 x18_2).f2), .int .i64 0]) ?_ 3 _ rfl; refine bU ?_; refine blk_put (cs := #[.int .i64 ((rd_T47 l0_1 x18_2).f0), .int .i64 ((rd_T47 l0_1 x18_2).f1), .int .i64 0, .int .i64 0]) ?_ 2 _ rfl; refine bU ?_; refine blk_put (cs := #[.int .i64 ((rd_T47 l0_1 x18_2).f0), .int .i64 0, .int .i64 0, .int .i64 0]) ?_ 1 _ rfl; refine bU ?_; refine blk_put (cs := #[.int .i64 0, .int .i64 0, .int .i64 0, .int .i64 0]) ?_ 0 _ rfl; refine bU ?_; exact BK162.out⟩
                 have n2_ : Aside0 (Below w.heap.size w ((((w48.setCell ⟨gb162, 0, none⟩ (.int .i64 ((rd_T47 l0_1 x18_2).f0))).setCell ⟨gb162, 1, none⟩ (.int .i64 ((rd_T47 l0_1 x18_2).f1))).setCell ⟨gb162, 2, none⟩ (.int .i64 ((rd_T47 l0_1 x18_2).f2))).setCell ⟨gb162, 3, none⟩ (.int .i64 ((rd_T47 l0_1 x18_2).f3)))) := ⟨by repeat (first | (with_reducible first | exact HB.out | apply below_alloc | apply pw_below_drewN | apply below_drew1 | refine below_set ?_ GE159.out | refine below_set ?_ GE162.out) | exact HB.out)⟩
                 (try clear BK159)
                 (try clear BK162)
                 (try clear HB)
                 generalize ((((w48.setCell ⟨gb162, 0, none⟩ (.int .i64 ((rd_T47 l0_1 x18_2).f0))).setCell ⟨gb162, 1, none⟩ (.int .i64 ((rd_T47 l0_1 x18_2).f1))).setCell ⟨gb162, 2, none⟩ (.int .i64 ((rd_T47 l0_1 x18_2).f2))).setCell ⟨gb162, 3, none⟩ (.int .i64 ((rd_T47 l0_1 x18_2).f3))) = w51 at n0_ n1_ n2_ ⊢
                 have BK159 := n0_
                 have BK162 := n1_
                 have HB := n2_
                 clear n0_ n1_ n2_
                 replace BK159 := Aside0.mk (blk_drew BK159.out)
                 replace BK162 := Aside0.mk (blk_drew BK162.out)
                 replace HB := Aside0.mk (below_drew1 HB.out)
                 have p164 : 0 ≤ ((ji16) : Int) := of_decide_eq_true hE
                 have q164 : (ji16) < (l0_1.length : Int) := of_decide_eq_true hE
                 obtain ⟨ad164, e164, hx164_0, hx164_1, hx164_2, hx164_3⟩ := at_T47 HR0_1.out (ji16) p164 q164
                 have hw164_3 := hx164_3
                 have hw164_2 := hx164_2
                 have hw164_1 := hx164_1
                 have hw164_0 := hx164_0
                 obtain rfl : ad161 = ad164 := (by injection e164)
                 replace hx164_0 := (HB.out.cell (World.block_lt_of_cell? w _ hx164_0)).trans hx164_0
                 replace hx164_1 := (HB.out.cell (World.block_lt_of_cell? w _ hx164_1)).trans hx164_1
                 replace hx164_2 := (HB.out.cell (World.block_lt_of_cell? w _ hx164_2)).trans hx164_2
                 replace hx164_3 := (HB.out.cell (World.block_lt_of_cell? w _ hx164_3)).trans hx164_3
                 replace p164 := eq_true p164
                 replace q164 := eq_true q164
                 refine start_ (n := 51) (S := fun w' => w'.cell? ⟨gb162, 0, none⟩ = some (.int .i64 ((rd_T47 l0_1 x18_2).f0)) ∧ w'.cell? ⟨gb162, 1, none⟩ = some (.int .i64 ((rd_T47 l0_1 x18_2).f1)) ∧ w'.cell? ⟨gb162, 2, none⟩ = some (.int .i64 ((rd_T47 l0_1 x18_2).f2)) ∧ w'.cell? ⟨gb162, 3, none⟩ = some (.int .i64 ((rd_T47 l0_1 x18_2).f3)) ∧ w'.cell? ⟨gb159, 0, none⟩ = some (.int .i64 a0_0) ∧ w'.cell? ⟨gb159, 1, none⟩ = some (.slice (some ad161) l0_1.length c0_1) ∧ w'.cell? (ad161.add (((ji16)).toNat * 4)) = some (.int .i64 ((rd_T47 l0_1 (ji16)).f0)) ∧ w'.cell? ⟨(ad161.add (((ji16)).toNat * 4)).block, (ad161.add (((ji16)).toNat * 4)).off + 1, none⟩ = some (.int .i64 ((rd_T47 l0_1 (ji16)).f1)) ∧ w'.cell? ⟨(ad161.add (((ji16)).toNat * 4)).block, (ad161.add (((ji16)).toNat * 4)).off + 2, none⟩ = some (.int .i64 ((rd_T47 l0_1 (ji16)).f2)) ∧ w'.cell? ⟨(ad161.add (((ji16)).toNat * 4)).block, (ad161.add (((ji16)).toNat * 4)).off + 3, none⟩ = some (.int .i64 ((rd_T47 l0_1 (ji16)).f3))) (ds := []) #[false, false, false, false, false, false, false, false, false, false, false, false, false, false, false, false, false, false, false, false, false, false, false, false, false, false, false, false, false, false, false, false, false, false, false, false, false, false, false, false, false, false, false, false, false, false, false, false, false, false, false] (by kernel_rfl) rfl rfl ⟨cz BK162 0 _, cz BK162 1 _, cz BK162 2 _, cz BK162 3 _, cz BK159 0 _, cz BK159 1 _, ((HB.out.cell (World.block_lt_of_cell? w _ hw164_0)).trans hw164_0), ((HB.out.cell (World.block_lt_of_cell? w _ hw164_1)).trans hw164_1), ((HB.out.cell (World.block_lt_of_cell? w _ hw164_2)).trans hw164_2), ((HB.out.cell (World.block_lt_of_cell? w _ hw164_3)).trans hw164_3)⟩ (fun hHeld => ?_); refine with_tabW spec_GoodClock.tab6 spec_GoodClock.bits6 (fun HT_ HW_ => ?_)
                 generalize w51.drew = w52 at BK159 BK162 HB hx164_0 hx164_1 hx164_2 hx164_3 hHeld ⊢
                 refine pureA 0 23 (bz 51 1) rfl rfl (any_of HT_.out (by kernel_rfl)) ?_
                 refine takeA 1 24 (bz 51 3) rfl rfl (take_ofW HT_.out HW_.out (by kernel_rfl)) hHeld (by rintro w' ⟨s0, s1, s2, s3, s4, s5, s6, s7, s8, s9⟩; go_simp; with_reducible rfl) ?_
                 refine one_ (i := 2) (N := some 25) (bz 51 7) rfl rfl (one_of HT_.out (by kernel_rfl)) (by decide) (fun K hK => ?_)
                 refine goes_ Try.func18 (by kernel_rfl) rfl #[.int .i64 ((rd_T47 l0_1 x18_2).f0), .int .i64 0, .int .i64 999] (by rfl) rfl rfl aE ?_
                 with_reducible refine (spec_l1In.calls ((rd_T47 l0_1 x18_2).f0) 0 999 true _ A13.out).mono ?_
                 rintro e w' ⟨rfl, ⟨nd, rfl⟩⟩
                 refine ⟨_, rfl, ?_⟩
                 refine hK.out _ _ ⟨cz BK162 0 _, cz BK162 1 _, cz BK162 2 _, cz BK162 3 _, cz BK159 0 _, cz BK159 1 _, ((HB.out.cell (World.block_lt_of_cell? w _ hw164_0)).trans hw164_0), ((HB.out.cell (World.block_lt_of_cell? w _ hw164_1)).trans hw164_1), ((HB.out.cell (World.block_lt_of_cell? w _ hw164_2)).trans hw164_2), ((HB.out.cell (World.block_lt_of_cell? w _ hw164_3)).trans hw164_3)⟩ (fun hHeld => ?_)
                 clear hK K
                 refine norm_ (a' := ?_) ?_ ?_
                 rotate_left
                 ·show Act.put _ (some 25) _ = _
                  simp only [Act.put, List.setIfInBounds_toArray, List.set_cons_zero, List.set_cons_succ, i64_w, i32_w]
                  rfl
                 refine pureA 3 26 (bz 51 15) rfl rfl (any_of HT_.out (by kernel_rfl)) ?_
                 refine pureA 4 27 (bz 51 31) rfl rfl (any_of HT_.out (by kernel_rfl)) ?_
                 refine pureA 5 28 (bz 51 63) rfl rfl (any_of HT_.out (by kernel_rfl)) ?_
                 refine pureA 6 29 (bz 51 127) rfl rfl (any_of HT_.out (by kernel_rfl)) ?_
                 refine pureA 7 30 (bz 51 255) rfl rfl (any_of HT_.out (by kernel_rfl)) ?_
                 refine pureA 8 31 (bz 51 511) rfl rfl (any_of HT_.out (by kernel_rfl)) ?_
                 refine pureA 10 33 (bz 51 1535) rfl rfl (any_of HT_.out (by kernel_rfl)) ?_
                 refine pureA 11 34 (bz 51 3583) rfl rfl (any_of HT_.out (by kernel_rfl)) ?_
                 refine pureA 15 38 (bz 51 36351) rfl rfl (any_of HT_.out (by kernel_rfl)) ?_
                 refine takeA 9 32 (bz 51 36863) rfl rfl (take_ofW HT_.out HW_.out (by kernel_rfl)) hHeld (by rintro w' ⟨s0, s1, s2, s3, s4, s5, s6, s7, s8, s9⟩; go_simp; with_reducible rfl) ?_
                 refine pureA 12 35 (bz 51 40959) rfl rfl (any_of HT_.out (by kernel_rfl)) ?_
                 refine pureA 13 36 (bz 51 49151) rfl rfl (any_of HT_.out (by kernel_rfl)) ?_
                 refine takeA 14 37 (bz 51 65535) rfl rfl (take_ofW HT_.out HW_.out (by kernel_rfl)) hHeld (by rintro w' ⟨s0, s1, s2, s3, s4, s5, s6, s7, s8, s9⟩; go_simp; with_reducible rfl) ?_
                 refine takeA 16 39 (bz 51 131071) rfl rfl (take_ofW HT_.out HW_.out (by kernel_rfl)) hHeld (by rintro w' ⟨s0, s1, s2, s3, s4, s5, s6, s7, s8, s9⟩; go_simp; with_reducible rfl) ?_
                 refine pureA 17 40 (bz 51 262143) rfl rfl (any_of HT_.out (by kernel_rfl)) ?_
                 refine pureA 18 41 (bz 51 524287) rfl rfl (any_of HT_.out (by kernel_rfl)) ?_
                 refine pureA 19 42 (bz 51 1048575) rfl rfl (any_of HT_.out (by kernel_rfl)) ?_
                 refine pureA 20 43 (bz 51 2097151) rfl rfl (any_of HT_.out (by kernel_rfl)) ?_
                 refine pureA 21 44 (bz 51 4194303) rfl rfl (any_of HT_.out (by kernel_rfl)) ?_
                 refine pureA 23 46 (bz 51 12582911) rfl rfl (any_of HT_.out (by kernel_rfl)) ?_
                 refine takeA 22 45 (bz 51 16777215) rfl rfl (take_ofW HT_.out HW_.out (by kernel_rfl)) hHeld (by rintro w' ⟨s0, s1, s2, s3, s4, s5, s6, s7, s8, s9⟩; go_simp; with_reducible rfl) ?_
                 refine takeA 24 47 (bz 51 33554431) rfl rfl (take_ofW HT_.out HW_.out (by kernel_rfl)) hHeld (by rintro w' ⟨s0, s1, s2, s3, s4, s5, s6, s7, s8, s9⟩; go_simp; with_reducible rfl) ?_
                 refine pureA 25 48 (bz 51 67108863) rfl rfl (any_of HT_.out (by kernel_rfl)) ?_
                 refine one_ (i := 26) (N := some 49) (bz 51 134217727) rfl rfl (one_of HT_.out (by kernel_rfl)) (by decide) (fun K hK => ?_)
                 refine goes_ Try.func18 (by kernel_rfl) rfl #[.int .i64 ((rd_T47 l0_1 x18_2).f1), .int .i64 (wrap64 (a0_0 + 1)), .int .i64 200000] (by rfl) rfl rfl aE ?_
                 with_reducible refine (spec_l1In.calls ((rd_T47 l0_1 x18_2).f1) (wrap64 (a0_0 + 1)) 200000 true _ A25.out).mono ?_
                 rintro e w' ⟨rfl, ⟨nd, rfl⟩⟩
                 refine ⟨_, rfl, ?_⟩
                 refine hK.out _ _ ⟨cz BK162 0 _, cz BK162 1 _, cz BK162 2 _, cz BK162 3 _, cz BK159 0 _, cz BK159 1 _, ((HB.out.cell (World.block_lt_of_cell? w _ hw164_0)).trans hw164_0), ((HB.out.cell (World.block_lt_of_cell? w _ hw164_1)).trans hw164_1), ((HB.out.cell (World.block_lt_of_cell? w _ hw164_2)).trans hw164_2), ((HB.out.cell (World.block_lt_of_cell? w _ hw164_3)).trans hw164_3)⟩ (fun hHeld => ?_)
                 clear hK K
                 refine norm_ (a' := ?_) ?_ ?_
                 rotate_left
                 ·show Act.put _ (some 49) _ = _
                  simp only [Act.put, List.setIfInBounds_toArray, List.set_cons_zero, List.set_cons_succ, i64_w, i32_w]
                  rfl
                 refine pureA 27 50 (bz 51 268435455) rfl rfl (any_of HT_.out (by kernel_rfl)) ?_
                 refine pureA 28 51 (bz 51 536870911) rfl rfl (any_of HT_.out (by kernel_rfl)) ?_
                 refine pureA 29 52 (bz 51 1073741823) rfl rfl (any_of HT_.out (by kernel_rfl)) ?_
                 refine pureA 30 53 (bz 51 2147483647) rfl rfl (any_of HT_.out (by kernel_rfl)) ?_
                 refine takeA 31 54 (bz 51 4294967295) rfl rfl (take_ofW HT_.out HW_.out (by kernel_rfl)) hHeld (by rintro w' ⟨s0, s1, s2, s3, s4, s5, s6, s7, s8, s9⟩; go_simp; with_reducible rfl) ?_
                 refine one_ (i := 32) (N := some 55) (bz 51 8589934591) rfl rfl (one_of HT_.out (by kernel_rfl)) (by decide) (fun K hK => ?_)
                 refine goes_ Try.func18 (by kernel_rfl) rfl #[.int .i64 ((rd_T47 l0_1 x18_2).f2), .int .i64 0, .int .i64 100000] (by rfl) rfl rfl aE ?_
                 with_reducible refine (spec_l1In.calls ((rd_T47 l0_1 x18_2).f2) 0 100000 true _ A27.out).mono ?_
                 rintro e w' ⟨rfl, ⟨nd, rfl⟩⟩
                 refine ⟨_, rfl, ?_⟩
                 refine hK.out _ _ ⟨cz BK162 0 _, cz BK162 1 _, cz BK162 2 _, cz BK162 3 _, cz BK159 0 _, cz BK159 1 _, ((HB.out.cell (World.block_lt_of_cell? w _ hw164_0)).trans hw164_0), ((HB.out.cell (World.block_lt_of_cell? w _ hw164_1)).trans hw164_1), ((HB.out.cell (World.block_lt_of_cell? w _ hw164_2)).trans hw164_2), ((HB.out.cell (World.block_lt_of_cell? w _ hw164_3)).trans hw164_3)⟩ (fun hHeld => ?_)
                 clear hK K
                 refine norm_ (a' := ?_) ?_ ?_
                 rotate_left
                 ·show Act.put _ (some 55) _ = _
                  simp only [Act.put, List.setIfInBounds_toArray, List.set_cons_zero, List.set_cons_succ, i64_w, i32_w]
                  rfl
                 refine pureA 33 56 (bz 51 17179869183) rfl rfl (any_of HT_.out (by kernel_rfl)) ?_
                 refine pureA 34 57 (bz 51 34359738367) rfl rfl (any_of HT_.out (by kernel_rfl)) ?_
                 refine pureA 35 58 (bz 51 68719476735) rfl rfl (any_of HT_.out (by kernel_rfl)) ?_
                 refine pureA 36 59 (bz 51 137438953471) rfl rfl (any_of HT_.out (by kernel_rfl)) ?_
                 refine takeA 37 60 (bz 51 274877906943) rfl rfl (take_ofW HT_.out HW_.out (by kernel_rfl)) hHeld (by rintro w' ⟨s0, s1, s2, s3, s4, s5, s6, s7, s8, s9⟩; go_simp; with_reducible rfl) ?_
                 refine one_ (i := 38) (N := some 61) (bz 51 549755813887) rfl rfl (one_of HT_.out (by kernel_rfl)) (by decide) (fun K hK => ?_)
                 refine goes_ Try.func18 (by kernel_rfl) rfl #[.int .i64 ((rd_T47 l0_1 x18_2).f3), .int .i64 1, .int .i64 1000] (by rfl) rfl rfl aE ?_
                 with_reducible refine (spec_l1In.calls ((rd_T47 l0_1 x18_2).f3) 1 1000 false _ A29.out).mono ?_
                 rintro e w' ⟨rfl, ⟨nd, rfl⟩⟩
                 refine ⟨_, rfl, ?_⟩
                 refine hK.out _ _ ⟨cz BK162 0 _, cz BK162 1 _, cz BK162 2 _, cz BK162 3 _, cz BK159 0 _, cz BK159 1 _, ((HB.out.cell (World.block_lt_of_cell? w _ hw164_0)).trans hw164_0), ((HB.out.cell (World.block_lt_of_cell? w _ hw164_1)).trans hw164_1), ((HB.out.cell (World.block_lt_of_cell? w _ hw164_2)).trans hw164_2), ((HB.out.cell (World.block_lt_of_cell? w _ hw164_3)).trans hw164_3)⟩ (fun hHeld => ?_)
                 clear hK K
                 refine norm_ (a' := ?_) ?_ ?_
                 rotate_left
                 ·show Act.put _ (some 61) _ = _
                  simp only [Act.put, List.setIfInBounds_toArray, List.set_cons_zero, List.set_cons_succ, i64_w, i32_w]
                  rfl
                 refine pureA 39 62 (bz 51 1099511627775) rfl rfl (any_of HT_.out (by kernel_rfl)) ?_
                 refine pureA 40 63 (bz 51 2199023255551) rfl rfl (any_of HT_.out (by kernel_rfl)) ?_
                 refine pureA 41 64 (bz 51 4398046511103) rfl rfl (any_of HT_.out (by kernel_rfl)) ?_
                 refine pureU 42 65 (bz 51 8796093022207) rfl rfl (any_of HT_.out (by kernel_rfl)) ?_
                 refine pureU 43 66 (bz 51 17592186044415) rfl rfl (any_of HT_.out (by kernel_rfl)) ?_
                 refine pureU 44 67 (bz 51 35184372088831) rfl rfl (any_of HT_.out (by kernel_rfl)) ?_
                 refine pureU 45 68 (bz 51 70368744177663) rfl rfl (any_of HT_.out (by kernel_rfl)) ?_
                 refine pureU 46 69 (bz 51 140737488355327) rfl rfl (any_of HT_.out (by kernel_rfl)) ?_
                 refine pureU 47 70 (bz 51 281474976710655) rfl rfl (any_of HT_.out (by kernel_rfl)) ?_
                 refine pureU 48 71 (bz 51 562949953421311) rfl rfl (any_of HT_.out (by kernel_rfl)) ?_
                 refine pureU 49 72 (bz 51 1125899906842623) rfl rfl (any_of HT_.out (by kernel_rfl)) ?_
                 refine pureA 50 73 (bz 51 2251799813685247) rfl rfl (any_of HT_.out (by kernel_rfl)) ?_
                 refine done_ (done_of HT_.out (by kernel_rfl)) ?_
                 try go_wp2
                 go_ret
                 exact ⟨by first | rfl | (simp [errW_none, errW_some] <;> rfl) | (simp only [← hji16]; first | rfl | (simp [errW_none, errW_some] <;> rfl)) | (simp [*, errW_none, errW_some] <;> rfl), lV2 GE159 GE162⟩
               ·replace c28 := Bool.eq_false_iff.mpr c28
                subst c28
                have H1 : (some false) = some r := by rw [if_neg (show ¬ (false = true) by decide)] at H; exact H
                clear H
                have H := H1
                clear H1
                obtain rfl := Option.some.inj H
                have p161 : 0 ≤ (x18_2 : Int) := of_decide_eq_true hE
                have q161 : x18_2 < (l0_1.length : Int) := of_decide_eq_true hE
                obtain ⟨ad161, e161, hx161_0, hx161_1, hx161_2, hx161_3⟩ := at_T47 HR0_1.out x18_2 p161 q161
                cases e161
                replace hx161_0 := (HB.out.cell (World.block_lt_of_cell? w _ hx161_0)).trans hx161_0
                replace hx161_1 := (HB.out.cell (World.block_lt_of_cell? w _ hx161_1)).trans hx161_1
                replace hx161_2 := (HB.out.cell (World.block_lt_of_cell? w _ hx161_2)).trans hx161_2
                replace hx161_3 := (HB.out.cell (World.block_lt_of_cell? w _ hx161_3)).trans hx161_3
                replace p161 := eq_true p161
                replace q161 := eq_true q161
                try go_wp2_with (first | ((with_reducible refine gate_dst (N := 4) rfl ?_); (try (refine gate_guard (by rfl) ?_; dsimp only)); refine box_event rfl (N := 4) rfl (cs := #[.int .i64 0, .int .i64 0, .int .i64 0, .int .i64 0]) (t := 47) sE ?_; intro gb162 hg w53 hbox hb; have BK162 := Aside0.mk hbox; have GW162 := gS w hg (lV1 GE159); have GE162 := gS w hg (lV1 GE159); replace HB := bH (lV1 GE159) hb; have NB159_162 := nL hg (bV BK159); have NB162_159 := nG hg (bV BK159); replace BK159 := bB (bV BK159) hb; clear hb hbox hg; have hnb54 := NB162_159.out; have hnc54 := NB159_162.out; have hcz55_0 := cz BK162 0 (.int .i64 0); have hcz55_1 := cz BK162 1 (.int .i64 0); have hcz55_2 := cz BK162 2 (.int .i64 0); have hcz55_3 := cz BK162 3 (.int .i64 0); have hfz55_0 := fz BK162 0; have hfz55_1 := fz BK162 1; have hfz55_2 := fz BK162 2; have hfz55_3 := fz BK162 3))
                have n0_ : Aside0 (((((w53.setCell ⟨gb162, 0, none⟩ (.int .i64 ((rd_T47 l0_1 x18_2).f0))).setCell ⟨gb162, 1, none⟩ (.int .i64 ((rd_T47 l0_1 x18_2).f1))).setCell ⟨gb162, 2, none⟩ (.int .i64 ((rd_T47 l0_1 x18_2).f2))).setCell ⟨gb162, 3, none⟩ (.int .i64 ((rd_T47 l0_1 x18_2).f3))).heap[gb159]? = some (.cells #[.int .i64 a0_0, .slice (some ad161) l0_1.length c0_1] 25 (0, 0))) := ⟨by refine bU ?_; refine blk_far ?_ NB159_162.out _; refine bU ?_; refine blk_far ?_ NB159_162.out _; refine bU ?_; refine blk_far ?_ NB159_162.out _; refine bU ?_; refine blk_far ?_ NB159_162.out _; refine bU ?_; exact BK159.out⟩
                have n1_ : Aside0 (((((w53.setCell ⟨gb162, 0, none⟩ (.int .i64 ((rd_T47 l0_1 x18_2).f0))).setCell ⟨gb162, 1, none⟩ (.int .i64 ((rd_T47 l0_1 x18_2).f1))).setCell ⟨gb162, 2, none⟩ (.int .i64 ((rd_T47 l0_1 x18_2).f2))).setCell ⟨gb162, 3, none⟩ (.int .i64 ((rd_T47 l0_1 x18_2).f3))).heap[gb162]? = some (.cells #[.int .i64 ((rd_T47 l0_1 x18_2).f0), .int .i64 ((rd_T47 l0_1 x18_2).f1), .int .i64 ((rd_T47 l0_1 x18_2).f2), .int .i64 ((rd_T47 l0_1 x18_2).f3)] 47 (0, 0))) := ⟨by refine bU ?_; refine blk_put (cs := #[.int .i64 ((rd_T47 l0_1 x18_2).f0), .int .i64 ((rd_T47 l0_1 x18_2).f1), .int .i64 ((rd_T47 l0_1 x18_2).f2), .int .i64 0]) ?_ 3 _ rfl; refine bU ?_; refine blk_put (cs := #[.int .i64 ((rd_T47 l0_1 x18_2).f0), .int .i64 ((rd_T47 l0_1 x18_2).f1), .int .i64 0, .int .i64 0]) ?_ 2 _ rfl; refine bU ?_; refine blk_put (cs := #[.int .i64 ((rd_T47 l0_1 x18_2).f0), .int .i64 0, .int .i64 0, .int .i64 0]) ?_ 1 _ rfl; refine bU ?_; refine blk_put (cs := #[.int .i64 0, .int .i64 0, .int .i64 0, .int .i64 0]) ?_ 0 _ rfl; refine bU ?_; exact BK162.out⟩
                have n2_ : Aside0 (Below w.heap.size w ((((w53.setCell ⟨gb162, 0, none⟩ (.int .i64 ((rd_T47 l0_1 x18_2).f0))).setCell ⟨gb162, 1, none⟩ (.int .i64 ((rd_T47 l0_1 x18_2).f1))).setCell ⟨gb162, 2, none⟩ (.int .i64 ((rd_T47 l0_1 x18_2).f2))).setCell ⟨gb162, 3, none⟩ (.int .i64 ((rd_T47 l0_1 x18_2).f3)))) := ⟨by repeat (first | (with_reducible first | exact HB.out | apply below_alloc | apply pw_below_drewN | apply below_drew1 | refine below_set ?_ GE159.out | refine below_set ?_ GE162.out) | exact HB.out)⟩
                (try clear BK159)
                (try clear BK162)
                (try clear HB)
                generalize ((((w53.setCell ⟨gb162, 0, none⟩ (.int .i64 ((rd_T47 l0_1 x18_2).f0))).setCell ⟨gb162, 1, none⟩ (.int .i64 ((rd_T47 l0_1 x18_2).f1))).setCell ⟨gb162, 2, none⟩ (.int .i64 ((rd_T47 l0_1 x18_2).f2))).setCell ⟨gb162, 3, none⟩ (.int .i64 ((rd_T47 l0_1 x18_2).f3))) = w56 at n0_ n1_ n2_ ⊢
                have BK159 := n0_
                have BK162 := n1_
                have HB := n2_
                clear n0_ n1_ n2_
                replace BK159 := Aside0.mk (blk_drew BK159.out)
                replace BK162 := Aside0.mk (blk_drew BK162.out)
                replace HB := Aside0.mk (below_drew1 HB.out)
                have p164 : 0 ≤ ((ji16) : Int) := of_decide_eq_true hE
                have q164 : (ji16) < (l0_1.length : Int) := of_decide_eq_true hE
                obtain ⟨ad164, e164, hx164_0, hx164_1, hx164_2, hx164_3⟩ := at_T47 HR0_1.out (ji16) p164 q164
                have hw164_3 := hx164_3
                have hw164_2 := hx164_2
                have hw164_1 := hx164_1
                have hw164_0 := hx164_0
                obtain rfl : ad161 = ad164 := (by injection e164)
                replace hx164_0 := (HB.out.cell (World.block_lt_of_cell? w _ hx164_0)).trans hx164_0
                replace hx164_1 := (HB.out.cell (World.block_lt_of_cell? w _ hx164_1)).trans hx164_1
                replace hx164_2 := (HB.out.cell (World.block_lt_of_cell? w _ hx164_2)).trans hx164_2
                replace hx164_3 := (HB.out.cell (World.block_lt_of_cell? w _ hx164_3)).trans hx164_3
                replace p164 := eq_true p164
                replace q164 := eq_true q164
                refine start_ (n := 51) (S := fun w' => w'.cell? ⟨gb162, 0, none⟩ = some (.int .i64 ((rd_T47 l0_1 x18_2).f0)) ∧ w'.cell? ⟨gb162, 1, none⟩ = some (.int .i64 ((rd_T47 l0_1 x18_2).f1)) ∧ w'.cell? ⟨gb162, 2, none⟩ = some (.int .i64 ((rd_T47 l0_1 x18_2).f2)) ∧ w'.cell? ⟨gb162, 3, none⟩ = some (.int .i64 ((rd_T47 l0_1 x18_2).f3)) ∧ w'.cell? ⟨gb159, 0, none⟩ = some (.int .i64 a0_0) ∧ w'.cell? ⟨gb159, 1, none⟩ = some (.slice (some ad161) l0_1.length c0_1) ∧ w'.cell? (ad161.add (((ji16)).toNat * 4)) = some (.int .i64 ((rd_T47 l0_1 (ji16)).f0)) ∧ w'.cell? ⟨(ad161.add (((ji16)).toNat * 4)).block, (ad161.add (((ji16)).toNat * 4)).off + 1, none⟩ = some (.int .i64 ((rd_T47 l0_1 (ji16)).f1)) ∧ w'.cell? ⟨(ad161.add (((ji16)).toNat * 4)).block, (ad161.add (((ji16)).toNat * 4)).off + 2, none⟩ = some (.int .i64 ((rd_T47 l0_1 (ji16)).f2)) ∧ w'.cell? ⟨(ad161.add (((ji16)).toNat * 4)).block, (ad161.add (((ji16)).toNat * 4)).off + 3, none⟩ = some (.int .i64 ((rd_T47 l0_1 (ji16)).f3))) (ds := []) #[false, false, false, false, false, false, false, false, false, false, false, false, false, false, false, false, false, false, false, false, false, false, false, false, false, false, false, false, false, false, false, false, false, false, false, false, false, false, false, false, false, false, false, false, false, false, false, false, false, false, false] (by kernel_rfl) rfl rfl ⟨cz BK162 0 _, cz BK162 1 _, cz BK162 2 _, cz BK162 3 _, cz BK159 0 _, cz BK159 1 _, ((HB.out.cell (World.block_lt_of_cell? w _ hw164_0)).trans hw164_0), ((HB.out.cell (World.block_lt_of_cell? w _ hw164_1)).trans hw164_1), ((HB.out.cell (World.block_lt_of_cell? w _ hw164_2)).trans hw164_2), ((HB.out.cell (World.block_lt_of_cell? w _ hw164_3)).trans hw164_3)⟩ (fun hHeld => ?_); refine with_tabW spec_GoodClock.tab6 spec_GoodClock.bits6 (fun HT_ HW_ => ?_)
                generalize w56.drew = w57 at BK159 BK162 HB hx164_0 hx164_1 hx164_2 hx164_3 hHeld ⊢
                refine pureA 0 23 (bz 51 1) rfl rfl (any_of HT_.out (by kernel_rfl)) ?_
                refine takeA 1 24 (bz 51 3) rfl rfl (take_ofW HT_.out HW_.out (by kernel_rfl)) hHeld (by rintro w' ⟨s0, s1, s2, s3, s4, s5, s6, s7, s8, s9⟩; go_simp; with_reducible rfl) ?_
                refine one_ (i := 2) (N := some 25) (bz 51 7) rfl rfl (one_of HT_.out (by kernel_rfl)) (by decide) (fun K hK => ?_)
                refine goes_ Try.func18 (by kernel_rfl) rfl #[.int .i64 ((rd_T47 l0_1 x18_2).f0), .int .i64 0, .int .i64 999] (by rfl) rfl rfl aE ?_
                with_reducible refine (spec_l1In.calls ((rd_T47 l0_1 x18_2).f0) 0 999 true _ A13.out).mono ?_
                rintro e w' ⟨rfl, ⟨nd, rfl⟩⟩
                refine ⟨_, rfl, ?_⟩
                refine hK.out _ _ ⟨cz BK162 0 _, cz BK162 1 _, cz BK162 2 _, cz BK162 3 _, cz BK159 0 _, cz BK159 1 _, ((HB.out.cell (World.block_lt_of_cell? w _ hw164_0)).trans hw164_0), ((HB.out.cell (World.block_lt_of_cell? w _ hw164_1)).trans hw164_1), ((HB.out.cell (World.block_lt_of_cell? w _ hw164_2)).trans hw164_2), ((HB.out.cell (World.block_lt_of_cell? w _ hw164_3)).trans hw164_3)⟩ (fun hHeld => ?_)
                clear hK K
                refine norm_ (a' := ?_) ?_ ?_
                rotate_left
                ·show Act.put _ (some 25) _ = _
                 simp only [Act.put, List.setIfInBounds_toArray, List.set_cons_zero, List.set_cons_succ, i64_w, i32_w]
                 rfl
                refine pureA 3 26 (bz 51 15) rfl rfl (any_of HT_.out (by kernel_rfl)) ?_
                refine pureA 4 27 (bz 51 31) rfl rfl (any_of HT_.out (by kernel_rfl)) ?_
                refine pureA 5 28 (bz 51 63) rfl rfl (any_of HT_.out (by kernel_rfl)) ?_
                refine pureA 6 29 (bz 51 127) rfl rfl (any_of HT_.out (by kernel_rfl)) ?_
                refine pureA 7 30 (bz 51 255) rfl rfl (any_of HT_.out (by kernel_rfl)) ?_
                refine pureA 8 31 (bz 51 511) rfl rfl (any_of HT_.out (by kernel_rfl)) ?_
                refine pureA 10 33 (bz 51 1535) rfl rfl (any_of HT_.out (by kernel_rfl)) ?_
                refine pureA 11 34 (bz 51 3583) rfl rfl (any_of HT_.out (by kernel_rfl)) ?_
                refine pureA 15 38 (bz 51 36351) rfl rfl (any_of HT_.out (by kernel_rfl)) ?_
                refine takeA 9 32 (bz 51 36863) rfl rfl (take_ofW HT_.out HW_.out (by kernel_rfl)) hHeld (by rintro w' ⟨s0, s1, s2, s3, s4, s5, s6, s7, s8, s9⟩; go_simp; with_reducible rfl) ?_
                refine pureA 12 35 (bz 51 40959) rfl rfl (any_of HT_.out (by kernel_rfl)) ?_
                refine pureA 13 36 (bz 51 49151) rfl rfl (any_of HT_.out (by kernel_rfl)) ?_
                refine takeA 14 37 (bz 51 65535) rfl rfl (take_ofW HT_.out HW_.out (by kernel_rfl)) hHeld (by rintro w' ⟨s0, s1, s2, s3, s4, s5, s6, s7, s8, s9⟩; go_simp; with_reducible rfl) ?_
                refine takeA 16 39 (bz 51 131071) rfl rfl (take_ofW HT_.out HW_.out (by kernel_rfl)) hHeld (by rintro w' ⟨s0, s1, s2, s3, s4, s5, s6, s7, s8, s9⟩; go_simp; with_reducible rfl) ?_
                refine pureA 17 40 (bz 51 262143) rfl rfl (any_of HT_.out (by kernel_rfl)) ?_
                refine pureA 18 41 (bz 51 524287) rfl rfl (any_of HT_.out (by kernel_rfl)) ?_
                refine pureA 19 42 (bz 51 1048575) rfl rfl (any_of HT_.out (by kernel_rfl)) ?_
                refine pureA 20 43 (bz 51 2097151) rfl rfl (any_of HT_.out (by kernel_rfl)) ?_
                refine pureA 21 44 (bz 51 4194303) rfl rfl (any_of HT_.out (by kernel_rfl)) ?_
                refine pureA 23 46 (bz 51 12582911) rfl rfl (any_of HT_.out (by kernel_rfl)) ?_
                refine takeA 22 45 (bz 51 16777215) rfl rfl (take_ofW HT_.out HW_.out (by kernel_rfl)) hHeld (by rintro w' ⟨s0, s1, s2, s3, s4, s5, s6, s7, s8, s9⟩; go_simp; with_reducible rfl) ?_
                refine takeA 24 47 (bz 51 33554431) rfl rfl (take_ofW HT_.out HW_.out (by kernel_rfl)) hHeld (by rintro w' ⟨s0, s1, s2, s3, s4, s5, s6, s7, s8, s9⟩; go_simp; with_reducible rfl) ?_
                refine pureA 25 48 (bz 51 67108863) rfl rfl (any_of HT_.out (by kernel_rfl)) ?_
                refine one_ (i := 26) (N := some 49) (bz 51 134217727) rfl rfl (one_of HT_.out (by kernel_rfl)) (by decide) (fun K hK => ?_)
                refine goes_ Try.func18 (by kernel_rfl) rfl #[.int .i64 ((rd_T47 l0_1 x18_2).f1), .int .i64 (wrap64 (a0_0 + 1)), .int .i64 200000] (by rfl) rfl rfl aE ?_
                with_reducible refine (spec_l1In.calls ((rd_T47 l0_1 x18_2).f1) (wrap64 (a0_0 + 1)) 200000 true _ A25.out).mono ?_
                rintro e w' ⟨rfl, ⟨nd, rfl⟩⟩
                refine ⟨_, rfl, ?_⟩
                refine hK.out _ _ ⟨cz BK162 0 _, cz BK162 1 _, cz BK162 2 _, cz BK162 3 _, cz BK159 0 _, cz BK159 1 _, ((HB.out.cell (World.block_lt_of_cell? w _ hw164_0)).trans hw164_0), ((HB.out.cell (World.block_lt_of_cell? w _ hw164_1)).trans hw164_1), ((HB.out.cell (World.block_lt_of_cell? w _ hw164_2)).trans hw164_2), ((HB.out.cell (World.block_lt_of_cell? w _ hw164_3)).trans hw164_3)⟩ (fun hHeld => ?_)
                clear hK K
                refine norm_ (a' := ?_) ?_ ?_
                rotate_left
                ·show Act.put _ (some 49) _ = _
                 simp only [Act.put, List.setIfInBounds_toArray, List.set_cons_zero, List.set_cons_succ, i64_w, i32_w]
                 rfl
                refine pureA 27 50 (bz 51 268435455) rfl rfl (any_of HT_.out (by kernel_rfl)) ?_
                refine pureA 28 51 (bz 51 536870911) rfl rfl (any_of HT_.out (by kernel_rfl)) ?_
                refine pureA 29 52 (bz 51 1073741823) rfl rfl (any_of HT_.out (by kernel_rfl)) ?_
                refine pureA 30 53 (bz 51 2147483647) rfl rfl (any_of HT_.out (by kernel_rfl)) ?_
                refine takeA 31 54 (bz 51 4294967295) rfl rfl (take_ofW HT_.out HW_.out (by kernel_rfl)) hHeld (by rintro w' ⟨s0, s1, s2, s3, s4, s5, s6, s7, s8, s9⟩; go_simp; with_reducible rfl) ?_
                refine one_ (i := 32) (N := some 55) (bz 51 8589934591) rfl rfl (one_of HT_.out (by kernel_rfl)) (by decide) (fun K hK => ?_)
                refine goes_ Try.func18 (by kernel_rfl) rfl #[.int .i64 ((rd_T47 l0_1 x18_2).f2), .int .i64 0, .int .i64 100000] (by rfl) rfl rfl aE ?_
                with_reducible refine (spec_l1In.calls ((rd_T47 l0_1 x18_2).f2) 0 100000 false _ A27.out).mono ?_
                rintro e w' ⟨rfl, ⟨nd, rfl⟩⟩
                refine ⟨_, rfl, ?_⟩
                refine hK.out _ _ ⟨cz BK162 0 _, cz BK162 1 _, cz BK162 2 _, cz BK162 3 _, cz BK159 0 _, cz BK159 1 _, ((HB.out.cell (World.block_lt_of_cell? w _ hw164_0)).trans hw164_0), ((HB.out.cell (World.block_lt_of_cell? w _ hw164_1)).trans hw164_1), ((HB.out.cell (World.block_lt_of_cell? w _ hw164_2)).trans hw164_2), ((HB.out.cell (World.block_lt_of_cell? w _ hw164_3)).trans hw164_3)⟩ (fun hHeld => ?_)
                clear hK K
                refine norm_ (a' := ?_) ?_ ?_
                rotate_left
                ·show Act.put _ (some 55) _ = _
                 simp only [Act.put, List.setIfInBounds_toArray, List.set_cons_zero, List.set_cons_succ, i64_w, i32_w]
                 rfl
                refine pureA 33 56 (bz 51 17179869183) rfl rfl (any_of HT_.out (by kernel_rfl)) ?_
                refine pureA 34 57 (bz 51 34359738367) rfl rfl (any_of HT_.out (by kernel_rfl)) ?_
                refine pureA 35 58 (bz 51 68719476735) rfl rfl (any_of HT_.out (by kernel_rfl)) ?_
                refine pureU 36 59 (bz 51 137438953471) rfl rfl (any_of HT_.out (by kernel_rfl)) ?_
                refine pureU 37 60 (bz 51 274877906943) rfl rfl (any_of HT_.out (by kernel_rfl)) ?_
                refine pureU 38 61 (bz 51 549755813887) rfl rfl (any_of HT_.out (by kernel_rfl)) ?_
                refine pureU 39 62 (bz 51 1099511627775) rfl rfl (any_of HT_.out (by kernel_rfl)) ?_
                refine pureA 40 63 (bz 51 2199023255551) rfl rfl (any_of HT_.out (by kernel_rfl)) ?_
                refine pureA 41 64 (bz 51 4398046511103) rfl rfl (any_of HT_.out (by kernel_rfl)) ?_
                refine pureU 42 65 (bz 51 8796093022207) rfl rfl (any_of HT_.out (by kernel_rfl)) ?_
                refine pureU 43 66 (bz 51 17592186044415) rfl rfl (any_of HT_.out (by kernel_rfl)) ?_
                refine pureU 44 67 (bz 51 35184372088831) rfl rfl (any_of HT_.out (by kernel_rfl)) ?_
                refine pureU 45 68 (bz 51 70368744177663) rfl rfl (any_of HT_.out (by kernel_rfl)) ?_
                refine pureU 46 69 (bz 51 140737488355327) rfl rfl (any_of HT_.out (by kernel_rfl)) ?_
                refine pureU 47 70 (bz 51 281474976710655) rfl rfl (any_of HT_.out (by kernel_rfl)) ?_
                refine pureU 48 71 (bz 51 562949953421311) rfl rfl (any_of HT_.out (by kernel_rfl)) ?_
                refine pureU 49 72 (bz 51 1125899906842623) rfl rfl (any_of HT_.out (by kernel_rfl)) ?_
                refine pureA 50 73 (bz 51 2251799813685247) rfl rfl (any_of HT_.out (by kernel_rfl)) ?_
                refine done_ (done_of HT_.out (by kernel_rfl)) ?_
                try go_wp2
                go_ret
                exact ⟨by first | rfl | (simp [errW_none, errW_some] <;> rfl) | (simp only [← hji16]; first | rfl | (simp [errW_none, errW_some] <;> rfl)) | (simp [*, errW_none, errW_some] <;> rfl), lV2 GE159 GE162⟩
              ·replace c26 := Bool.eq_false_iff.mpr c26
               subst c26
               have H1 : (some false) = some r := by rw [if_neg (show ¬ (false = true) by decide)] at H; exact H
               clear H
               have H := H1
               clear H1
               obtain rfl := Option.some.inj H
               have p161 : 0 ≤ (x18_2 : Int) := of_decide_eq_true hE
               have q161 : x18_2 < (l0_1.length : Int) := of_decide_eq_true hE
               obtain ⟨ad161, e161, hx161_0, hx161_1, hx161_2, hx161_3⟩ := at_T47 HR0_1.out x18_2 p161 q161
               cases e161
               replace hx161_0 := (HB.out.cell (World.block_lt_of_cell? w _ hx161_0)).trans hx161_0
               replace hx161_1 := (HB.out.cell (World.block_lt_of_cell? w _ hx161_1)).trans hx161_1
               replace hx161_2 := (HB.out.cell (World.block_lt_of_cell? w _ hx161_2)).trans hx161_2
               replace hx161_3 := (HB.out.cell (World.block_lt_of_cell? w _ hx161_3)).trans hx161_3
               replace p161 := eq_true p161
               replace q161 := eq_true q161
               try go_wp2_with (first | ((with_reducible refine gate_dst (N := 4) rfl ?_); (try (refine gate_guard (by rfl) ?_; dsimp only)); refine box_event rfl (N := 4) rfl (cs := #[.int .i64 0, .int .i64 0, .int .i64 0, .int .i64 0]) (t := 47) sE ?_; intro gb162 hg w58 hbox hb; have BK162 := Aside0.mk hbox; have GW162 := gS w hg (lV1 GE159); have GE162 := gS w hg (lV1 GE159); replace HB := bH (lV1 GE159) hb; have NB159_162 := nL hg (bV BK159); have NB162_159 := nG hg (bV BK159); replace BK159 := bB (bV BK159) hb; clear hb hbox hg; have hnb59 := NB162_159.out; have hnc59 := NB159_162.out; have hcz60_0 := cz BK162 0 (.int .i64 0); have hcz60_1 := cz BK162 1 (.int .i64 0); have hcz60_2 := cz BK162 2 (.int .i64 0); have hcz60_3 := cz BK162 3 (.int .i64 0); have hfz60_0 := fz BK162 0; have hfz60_1 := fz BK162 1; have hfz60_2 := fz BK162 2; have hfz60_3 := fz BK162 3))
               have n0_ : Aside0 (((((w58.setCell ⟨gb162, 0, none⟩ (.int .i64 ((rd_T47 l0_1 x18_2).f0))).setCell ⟨gb162, 1, none⟩ (.int .i64 ((rd_T47 l0_1 x18_2).f1))).setCell ⟨gb162, 2, none⟩ (.int .i64 ((rd_T47 l0_1 x18_2).f2))).setCell ⟨gb162, 3, none⟩ (.int .i64 ((rd_T47 l0_1 x18_2).f3))).heap[gb159]? = some (.cells #[.int .i64 a0_0, .slice (some ad161) l0_1.length c0_1] 25 (0, 0))) := ⟨by refine bU ?_; refine blk_far ?_ NB159_162.out _; refine bU ?_; refine blk_far ?_ NB159_162.out _; refine bU ?_; refine blk_far ?_ NB159_162.out _; refine bU ?_; refine blk_far ?_ NB159_162.out _; refine bU ?_; exact BK159.out⟩
               have n1_ : Aside0 (((((w58.setCell ⟨gb162, 0, none⟩ (.int .i64 ((rd_T47 l0_1 x18_2).f0))).setCell ⟨gb162, 1, none⟩ (.int .i64 ((rd_T47 l0_1 x18_2).f1))).setCell ⟨gb162, 2, none⟩ (.int .i64 ((rd_T47 l0_1 x18_2).f2))).setCell ⟨gb162, 3, none⟩ (.int .i64 ((rd_T47 l0_1 x18_2).f3))).heap[gb162]? = some (.cells #[.int .i64 ((rd_T47 l0_1 x18_2).f0), .int .i64 ((rd_T47 l0_1 x18_2).f1), .int .i64 ((rd_T47 l0_1 x18_2).f2), .int .i64 ((rd_T47 l0_1 x18_2).f3)] 47 (0, 0))) := ⟨by refine bU ?_; refine blk_put (cs := #[.int .i64 ((rd_T47 l0_1 x18_2).f0), .int .i64 ((rd_T47 l0_1 x18_2).f1), .int .i64 ((rd_T47 l0_1 x18_2).f2), .int .i64 0]) ?_ 3 _ rfl; refine bU ?_; refine blk_put (cs := #[.int .i64 ((rd_T47 l0_1 x18_2).f0), .int .i64 ((rd_T47 l0_1 x18_2).f1), .int .i64 0, .int .i64 0]) ?_ 2 _ rfl; refine bU ?_; refine blk_put (cs := #[.int .i64 ((rd_T47 l0_1 x18_2).f0), .int .i64 0, .int .i64 0, .int .i64 0]) ?_ 1 _ rfl; refine bU ?_; refine blk_put (cs := #[.int .i64 0, .int .i64 0, .int .i64 0, .int .i64 0]) ?_ 0 _ rfl; refine bU ?_; exact BK162.out⟩
               have n2_ : Aside0 (Below w.heap.size w ((((w58.setCell ⟨gb162, 0, none⟩ (.int .i64 ((rd_T47 l0_1 x18_2).f0))).setCell ⟨gb162, 1, none⟩ (.int .i64 ((rd_T47 l0_1 x18_2).f1))).setCell ⟨gb162, 2, none⟩ (.int .i64 ((rd_T47 l0_1 x18_2).f2))).setCell ⟨gb162, 3, none⟩ (.int .i64 ((rd_T47 l0_1 x18_2).f3)))) := ⟨by repeat (first | (with_reducible first | exact HB.out | apply below_alloc | apply pw_below_drewN | apply below_drew1 | refine below_set ?_ GE159.out | refine below_set ?_ GE162.out) | exact HB.out)⟩
               (try clear BK159)
               (try clear BK162)
               (try clear HB)
               generalize ((((w58.setCell ⟨gb162, 0, none⟩ (.int .i64 ((rd_T47 l0_1 x18_2).f0))).setCell ⟨gb162, 1, none⟩ (.int .i64 ((rd_T47 l0_1 x18_2).f1))).setCell ⟨gb162, 2, none⟩ (.int .i64 ((rd_T47 l0_1 x18_2).f2))).setCell ⟨gb162, 3, none⟩ (.int .i64 ((rd_T47 l0_1 x18_2).f3))) = w61 at n0_ n1_ n2_ ⊢
               have BK159 := n0_
               have BK162 := n1_
               have HB := n2_
               clear n0_ n1_ n2_
               replace BK159 := Aside0.mk (blk_drew BK159.out)
               replace BK162 := Aside0.mk (blk_drew BK162.out)
               replace HB := Aside0.mk (below_drew1 HB.out)
               have p164 : 0 ≤ ((ji16) : Int) := of_decide_eq_true hE
               have q164 : (ji16) < (l0_1.length : Int) := of_decide_eq_true hE
               obtain ⟨ad164, e164, hx164_0, hx164_1, hx164_2, hx164_3⟩ := at_T47 HR0_1.out (ji16) p164 q164
               have hw164_3 := hx164_3
               have hw164_2 := hx164_2
               have hw164_1 := hx164_1
               have hw164_0 := hx164_0
               obtain rfl : ad161 = ad164 := (by injection e164)
               replace hx164_0 := (HB.out.cell (World.block_lt_of_cell? w _ hx164_0)).trans hx164_0
               replace hx164_1 := (HB.out.cell (World.block_lt_of_cell? w _ hx164_1)).trans hx164_1
               replace hx164_2 := (HB.out.cell (World.block_lt_of_cell? w _ hx164_2)).trans hx164_2
               replace hx164_3 := (HB.out.cell (World.block_lt_of_cell? w _ hx164_3)).trans hx164_3
               replace p164 := eq_true p164
               replace q164 := eq_true q164
               refine start_ (n := 51) (S := fun w' => w'.cell? ⟨gb162, 0, none⟩ = some (.int .i64 ((rd_T47 l0_1 x18_2).f0)) ∧ w'.cell? ⟨gb162, 1, none⟩ = some (.int .i64 ((rd_T47 l0_1 x18_2).f1)) ∧ w'.cell? ⟨gb162, 2, none⟩ = some (.int .i64 ((rd_T47 l0_1 x18_2).f2)) ∧ w'.cell? ⟨gb162, 3, none⟩ = some (.int .i64 ((rd_T47 l0_1 x18_2).f3)) ∧ w'.cell? ⟨gb159, 0, none⟩ = some (.int .i64 a0_0) ∧ w'.cell? ⟨gb159, 1, none⟩ = some (.slice (some ad161) l0_1.length c0_1) ∧ w'.cell? (ad161.add (((ji16)).toNat * 4)) = some (.int .i64 ((rd_T47 l0_1 (ji16)).f0)) ∧ w'.cell? ⟨(ad161.add (((ji16)).toNat * 4)).block, (ad161.add (((ji16)).toNat * 4)).off + 1, none⟩ = some (.int .i64 ((rd_T47 l0_1 (ji16)).f1)) ∧ w'.cell? ⟨(ad161.add (((ji16)).toNat * 4)).block, (ad161.add (((ji16)).toNat * 4)).off + 2, none⟩ = some (.int .i64 ((rd_T47 l0_1 (ji16)).f2)) ∧ w'.cell? ⟨(ad161.add (((ji16)).toNat * 4)).block, (ad161.add (((ji16)).toNat * 4)).off + 3, none⟩ = some (.int .i64 ((rd_T47 l0_1 (ji16)).f3))) (ds := []) #[false, false, false, false, false, false, false, false, false, false, false, false, false, false, false, false, false, false, false, false, false, false, false, false, false, false, false, false, false, false, false, false, false, false, false, false, false, false, false, false, false, false, false, false, false, false, false, false, false, false, false] (by kernel_rfl) rfl rfl ⟨cz BK162 0 _, cz BK162 1 _, cz BK162 2 _, cz BK162 3 _, cz BK159 0 _, cz BK159 1 _, ((HB.out.cell (World.block_lt_of_cell? w _ hw164_0)).trans hw164_0), ((HB.out.cell (World.block_lt_of_cell? w _ hw164_1)).trans hw164_1), ((HB.out.cell (World.block_lt_of_cell? w _ hw164_2)).trans hw164_2), ((HB.out.cell (World.block_lt_of_cell? w _ hw164_3)).trans hw164_3)⟩ (fun hHeld => ?_); refine with_tabW spec_GoodClock.tab6 spec_GoodClock.bits6 (fun HT_ HW_ => ?_)
               generalize w61.drew = w62 at BK159 BK162 HB hx164_0 hx164_1 hx164_2 hx164_3 hHeld ⊢
               refine pureA 0 23 (bz 51 1) rfl rfl (any_of HT_.out (by kernel_rfl)) ?_
               refine takeA 1 24 (bz 51 3) rfl rfl (take_ofW HT_.out HW_.out (by kernel_rfl)) hHeld (by rintro w' ⟨s0, s1, s2, s3, s4, s5, s6, s7, s8, s9⟩; go_simp; with_reducible rfl) ?_
               refine one_ (i := 2) (N := some 25) (bz 51 7) rfl rfl (one_of HT_.out (by kernel_rfl)) (by decide) (fun K hK => ?_)
               refine goes_ Try.func18 (by kernel_rfl) rfl #[.int .i64 ((rd_T47 l0_1 x18_2).f0), .int .i64 0, .int .i64 999] (by rfl) rfl rfl aE ?_
               with_reducible refine (spec_l1In.calls ((rd_T47 l0_1 x18_2).f0) 0 999 true _ A13.out).mono ?_
               rintro e w' ⟨rfl, ⟨nd, rfl⟩⟩
               refine ⟨_, rfl, ?_⟩
               refine hK.out _ _ ⟨cz BK162 0 _, cz BK162 1 _, cz BK162 2 _, cz BK162 3 _, cz BK159 0 _, cz BK159 1 _, ((HB.out.cell (World.block_lt_of_cell? w _ hw164_0)).trans hw164_0), ((HB.out.cell (World.block_lt_of_cell? w _ hw164_1)).trans hw164_1), ((HB.out.cell (World.block_lt_of_cell? w _ hw164_2)).trans hw164_2), ((HB.out.cell (World.block_lt_of_cell? w _ hw164_3)).trans hw164_3)⟩ (fun hHeld => ?_)
               clear hK K
               refine norm_ (a' := ?_) ?_ ?_
               rotate_left
               ·show Act.put _ (some 25) _ = _
                simp only [Act.put, List.setIfInBounds_toArray, List.set_cons_zero, List.set_cons_succ, i64_w, i32_w]
                rfl
               refine pureA 3 26 (bz 51 15) rfl rfl (any_of HT_.out (by kernel_rfl)) ?_
               refine pureA 4 27 (bz 51 31) rfl rfl (any_of HT_.out (by kernel_rfl)) ?_
               refine pureA 5 28 (bz 51 63) rfl rfl (any_of HT_.out (by kernel_rfl)) ?_
               refine pureA 6 29 (bz 51 127) rfl rfl (any_of HT_.out (by kernel_rfl)) ?_
               refine pureA 7 30 (bz 51 255) rfl rfl (any_of HT_.out (by kernel_rfl)) ?_
               refine pureA 8 31 (bz 51 511) rfl rfl (any_of HT_.out (by kernel_rfl)) ?_
               refine pureA 10 33 (bz 51 1535) rfl rfl (any_of HT_.out (by kernel_rfl)) ?_
               refine pureA 11 34 (bz 51 3583) rfl rfl (any_of HT_.out (by kernel_rfl)) ?_
               refine pureA 15 38 (bz 51 36351) rfl rfl (any_of HT_.out (by kernel_rfl)) ?_
               refine takeA 9 32 (bz 51 36863) rfl rfl (take_ofW HT_.out HW_.out (by kernel_rfl)) hHeld (by rintro w' ⟨s0, s1, s2, s3, s4, s5, s6, s7, s8, s9⟩; go_simp; with_reducible rfl) ?_
               refine pureA 12 35 (bz 51 40959) rfl rfl (any_of HT_.out (by kernel_rfl)) ?_
               refine pureA 13 36 (bz 51 49151) rfl rfl (any_of HT_.out (by kernel_rfl)) ?_
               refine takeA 14 37 (bz 51 65535) rfl rfl (take_ofW HT_.out HW_.out (by kernel_rfl)) hHeld (by rintro w' ⟨s0, s1, s2, s3, s4, s5, s6, s7, s8, s9⟩; go_simp; with_reducible rfl) ?_
               refine takeA 16 39 (bz 51 131071) rfl rfl (take_ofW HT_.out HW_.out (by kernel_rfl)) hHeld (by rintro w' ⟨s0, s1, s2, s3, s4, s5, s6, s7, s8, s9⟩; go_simp; with_reducible rfl) ?_
               refine pureA 17 40 (bz 51 262143) rfl rfl (any_of HT_.out (by kernel_rfl)) ?_
               refine pureA 18 41 (bz 51 524287) rfl rfl (any_of HT_.out (by kernel_rfl)) ?_
               refine pureA 19 42 (bz 51 1048575) rfl rfl (any_of HT_.out (by kernel_rfl)) ?_
               refine pureA 20 43 (bz 51 2097151) rfl rfl (any_of HT_.out (by kernel_rfl)) ?_
               refine pureA 21 44 (bz 51 4194303) rfl rfl (any_of HT_.out (by kernel_rfl)) ?_
               refine pureA 23 46 (bz 51 12582911) rfl rfl (any_of HT_.out (by kernel_rfl)) ?_
               refine takeA 22 45 (bz 51 16777215) rfl rfl (take_ofW HT_.out HW_.out (by kernel_rfl)) hHeld (by rintro w' ⟨s0, s1, s2, s3, s4, s5, s6, s7, s8, s9⟩; go_simp; with_reducible rfl) ?_
               refine takeA 24 47 (bz 51 33554431) rfl rfl (take_ofW HT_.out HW_.out (by kernel_rfl)) hHeld (by rintro w' ⟨s0, s1, s2, s3, s4, s5, s6, s7, s8, s9⟩; go_simp; with_reducible rfl) ?_
               refine pureA 25 48 (bz 51 67108863) rfl rfl (any_of HT_.out (by kernel_rfl)) ?_
               refine one_ (i := 26) (N := some 49) (bz 51 134217727) rfl rfl (one_of HT_.out (by kernel_rfl)) (by decide) (fun K hK => ?_)
               refine goes_ Try.func18 (by kernel_rfl) rfl #[.int .i64 ((rd_T47 l0_1 x18_2).f1), .int .i64 (wrap64 (a0_0 + 1)), .int .i64 200000] (by rfl) rfl rfl aE ?_
               with_reducible refine (spec_l1In.calls ((rd_T47 l0_1 x18_2).f1) (wrap64 (a0_0 + 1)) 200000 false _ A25.out).mono ?_
               rintro e w' ⟨rfl, ⟨nd, rfl⟩⟩
               refine ⟨_, rfl, ?_⟩
               refine hK.out _ _ ⟨cz BK162 0 _, cz BK162 1 _, cz BK162 2 _, cz BK162 3 _, cz BK159 0 _, cz BK159 1 _, ((HB.out.cell (World.block_lt_of_cell? w _ hw164_0)).trans hw164_0), ((HB.out.cell (World.block_lt_of_cell? w _ hw164_1)).trans hw164_1), ((HB.out.cell (World.block_lt_of_cell? w _ hw164_2)).trans hw164_2), ((HB.out.cell (World.block_lt_of_cell? w _ hw164_3)).trans hw164_3)⟩ (fun hHeld => ?_)
               clear hK K
               refine norm_ (a' := ?_) ?_ ?_
               rotate_left
               ·show Act.put _ (some 49) _ = _
                simp only [Act.put, List.setIfInBounds_toArray, List.set_cons_zero, List.set_cons_succ, i64_w, i32_w]
                rfl
               refine pureA 27 50 (bz 51 268435455) rfl rfl (any_of HT_.out (by kernel_rfl)) ?_
               refine pureA 28 51 (bz 51 536870911) rfl rfl (any_of HT_.out (by kernel_rfl)) ?_
               refine pureA 29 52 (bz 51 1073741823) rfl rfl (any_of HT_.out (by kernel_rfl)) ?_
               refine pureU 30 53 (bz 51 2147483647) rfl rfl (any_of HT_.out (by kernel_rfl)) ?_
               refine pureU 31 54 (bz 51 4294967295) rfl rfl (any_of HT_.out (by kernel_rfl)) ?_
               refine pureU 32 55 (bz 51 8589934591) rfl rfl (any_of HT_.out (by kernel_rfl)) ?_
               refine pureU 33 56 (bz 51 17179869183) rfl rfl (any_of HT_.out (by kernel_rfl)) ?_
               refine pureA 34 57 (bz 51 34359738367) rfl rfl (any_of HT_.out (by kernel_rfl)) ?_
               refine pureA 35 58 (bz 51 68719476735) rfl rfl (any_of HT_.out (by kernel_rfl)) ?_
               refine pureU 36 59 (bz 51 137438953471) rfl rfl (any_of HT_.out (by kernel_rfl)) ?_
               refine pureU 37 60 (bz 51 274877906943) rfl rfl (any_of HT_.out (by kernel_rfl)) ?_
               refine pureU 38 61 (bz 51 549755813887) rfl rfl (any_of HT_.out (by kernel_rfl)) ?_
               refine pureU 39 62 (bz 51 1099511627775) rfl rfl (any_of HT_.out (by kernel_rfl)) ?_
               refine pureA 40 63 (bz 51 2199023255551) rfl rfl (any_of HT_.out (by kernel_rfl)) ?_
               refine pureA 41 64 (bz 51 4398046511103) rfl rfl (any_of HT_.out (by kernel_rfl)) ?_
               refine pureU 42 65 (bz 51 8796093022207) rfl rfl (any_of HT_.out (by kernel_rfl)) ?_
               refine pureU 43 66 (bz 51 17592186044415) rfl rfl (any_of HT_.out (by kernel_rfl)) ?_
               refine pureU 44 67 (bz 51 35184372088831) rfl rfl (any_of HT_.out (by kernel_rfl)) ?_
               refine pureU 45 68 (bz 51 70368744177663) rfl rfl (any_of HT_.out (by kernel_rfl)) ?_
               refine pureU 46 69 (bz 51 140737488355327) rfl rfl (any_of HT_.out (by kernel_rfl)) ?_
               refine pureU 47 70 (bz 51 281474976710655) rfl rfl (any_of HT_.out (by kernel_rfl)) ?_
               refine pureU 48 71 (bz 51 562949953421311) rfl rfl (any_of HT_.out (by kernel_rfl)) ?_
               refine pureU 49 72 (bz 51 1125899906842623) rfl rfl (any_of HT_.out (by kernel_rfl)) ?_
               refine pureA 50 73 (bz 51 2251799813685247) rfl rfl (any_of HT_.out (by kernel_rfl)) ?_
               refine done_ (done_of HT_.out (by kernel_rfl)) ?_
               try go_wp2
               go_ret
               exact ⟨by first | rfl | (simp [errW_none, errW_some] <;> rfl) | (simp only [← hji16]; first | rfl | (simp [errW_none, errW_some] <;> rfl)) | (simp [*, errW_none, errW_some] <;> rfl), lV2 GE159 GE162⟩
            ·rw [if_neg c18] at H
             exact absurd H (by simp)
           ·rw [if_neg c17] at H
            exact absurd H (by simp)
          ·rw [if_neg c15] at H
           have c15b0 : decide (0 < x18_2) = false := decide_eq_false c15
           clear c15
           replace H := Option.bind_eq_some_iff.mp H
           obtain ⟨t168, A630, H⟩ := H
           replace H : (if t168 = true then ((spec_l1In.f ((rd_T47 l0_1 x18_2).f2) 0 100000).bind fun t169 => (if t169 = true then ((spec_l1In.f ((rd_T47 l0_1 x18_2).f3) 1 1000).bind fun t170 => (if t170 = true then (if ((rd_T47 l0_1 x18_2).f2) = 0 then (if ((rd_T47 l0_1 x18_2).f3) = 1 then (spec_GoodClock.l0 k2 l0_1 (l0_1.length : Int) (wrap64 (x18_2 + 1)) a0_0 l0_1) else (some false)) else (spec_GoodClock.l0 k2 l0_1 (l0_1.length : Int) (wrap64 (x18_2 + 1)) a0_0 l0_1)) else (some false))) else (some false))) else (some false)) = some r := H
           have A63 := Aside0.mk A630
           clear A630
           by_cases c64 : t168 = true
           ·subst c64
            have H1 : ((spec_l1In.f ((rd_T47 l0_1 x18_2).f2) 0 100000).bind fun t169 => (if t169 = true then ((spec_l1In.f ((rd_T47 l0_1 x18_2).f3) 1 1000).bind fun t170 => (if t170 = true then (if ((rd_T47 l0_1 x18_2).f2) = 0 then (if ((rd_T47 l0_1 x18_2).f3) = 1 then (spec_GoodClock.l0 k2 l0_1 (l0_1.length : Int) (wrap64 (x18_2 + 1)) a0_0 l0_1) else (some false)) else (spec_GoodClock.l0 k2 l0_1 (l0_1.length : Int) (wrap64 (x18_2 + 1)) a0_0 l0_1)) else (some false))) else (some false))) = some r := by rw [if_pos rfl] at H; exact H
            clear H
            have H := H1
            clear H1
            replace H := Option.bind_eq_some_iff.mp H
            obtain ⟨t169, A650, H⟩ := H
            replace H : (if t169 = true then ((spec_l1In.f ((rd_T47 l0_1 x18_2).f3) 1 1000).bind fun t170 => (if t170 = true then (if ((rd_T47 l0_1 x18_2).f2) = 0 then (if ((rd_T47 l0_1 x18_2).f3) = 1 then (spec_GoodClock.l0 k2 l0_1 (l0_1.length : Int) (wrap64 (x18_2 + 1)) a0_0 l0_1) else (some false)) else (spec_GoodClock.l0 k2 l0_1 (l0_1.length : Int) (wrap64 (x18_2 + 1)) a0_0 l0_1)) else (some false))) else (some false)) = some r := H
            have A65 := Aside0.mk A650
            clear A650
            by_cases c66 : t169 = true
            ·subst c66
             have H1 : ((spec_l1In.f ((rd_T47 l0_1 x18_2).f3) 1 1000).bind fun t170 => (if t170 = true then (if ((rd_T47 l0_1 x18_2).f2) = 0 then (if ((rd_T47 l0_1 x18_2).f3) = 1 then (spec_GoodClock.l0 k2 l0_1 (l0_1.length : Int) (wrap64 (x18_2 + 1)) a0_0 l0_1) else (some false)) else (spec_GoodClock.l0 k2 l0_1 (l0_1.length : Int) (wrap64 (x18_2 + 1)) a0_0 l0_1)) else (some false))) = some r := by rw [if_pos rfl] at H; exact H
             clear H
             have H := H1
             clear H1
             replace H := Option.bind_eq_some_iff.mp H
             obtain ⟨t170, A670, H⟩ := H
             replace H : (if t170 = true then (if ((rd_T47 l0_1 x18_2).f2) = 0 then (if ((rd_T47 l0_1 x18_2).f3) = 1 then (spec_GoodClock.l0 k2 l0_1 (l0_1.length : Int) (wrap64 (x18_2 + 1)) a0_0 l0_1) else (some false)) else (spec_GoodClock.l0 k2 l0_1 (l0_1.length : Int) (wrap64 (x18_2 + 1)) a0_0 l0_1)) else (some false)) = some r := H
             have A67 := Aside0.mk A670
             clear A670
             by_cases c68 : t170 = true
             ·subst c68
              have H1 : (if ((rd_T47 l0_1 x18_2).f2) = 0 then (if ((rd_T47 l0_1 x18_2).f3) = 1 then (spec_GoodClock.l0 k2 l0_1 (l0_1.length : Int) (wrap64 (x18_2 + 1)) a0_0 l0_1) else (some false)) else (spec_GoodClock.l0 k2 l0_1 (l0_1.length : Int) (wrap64 (x18_2 + 1)) a0_0 l0_1)) = some r := by rw [if_pos rfl] at H; exact H
              clear H
              have H := H1
              clear H1
              by_cases c69 : ((rd_T47 l0_1 x18_2).f2) = 0
              ·rw [if_pos c69] at H
               have c69b0 : (((rd_T47 l0_1 x18_2).f2) == 0) = true := beq_iff_eq.mpr c69
               have c69b1 : (((rd_T47 l0_1 x18_2).f2) != 0) = false := bne_eq_false_iff_eq.mpr c69
               clear c69
               by_cases c70 : ((rd_T47 l0_1 x18_2).f3) = 1
               ·rw [if_pos c70] at H
                have c70b0 : (((rd_T47 l0_1 x18_2).f3) == 1) = true := beq_iff_eq.mpr c70
                have c70b1 : (((rd_T47 l0_1 x18_2).f3) != 1) = false := bne_eq_false_iff_eq.mpr c70
                clear c70
                have H' := Aside0.mk H
                clear H
                have p161 : 0 ≤ (x18_2 : Int) := of_decide_eq_true hE
                have q161 : x18_2 < (l0_1.length : Int) := of_decide_eq_true hE
                obtain ⟨ad161, e161, hx161_0, hx161_1, hx161_2, hx161_3⟩ := at_T47 HR0_1.out x18_2 p161 q161
                cases e161
                replace hx161_0 := (HB.out.cell (World.block_lt_of_cell? w _ hx161_0)).trans hx161_0
                replace hx161_1 := (HB.out.cell (World.block_lt_of_cell? w _ hx161_1)).trans hx161_1
                replace hx161_2 := (HB.out.cell (World.block_lt_of_cell? w _ hx161_2)).trans hx161_2
                replace hx161_3 := (HB.out.cell (World.block_lt_of_cell? w _ hx161_3)).trans hx161_3
                replace p161 := eq_true p161
                replace q161 := eq_true q161
                try go_wp2_with (first | ((with_reducible refine gate_dst (N := 4) rfl ?_); (try (refine gate_guard (by rfl) ?_; dsimp only)); refine box_event rfl (N := 4) rfl (cs := #[.int .i64 0, .int .i64 0, .int .i64 0, .int .i64 0]) (t := 47) sE ?_; intro gb162 hg w71 hbox hb; have BK162 := Aside0.mk hbox; have GW162 := gS w hg (lV1 GE159); have GE162 := gS w hg (lV1 GE159); replace HB := bH (lV1 GE159) hb; have NB159_162 := nL hg (bV BK159); have NB162_159 := nG hg (bV BK159); replace BK159 := bB (bV BK159) hb; clear hb hbox hg; have hnb72 := NB162_159.out; have hnc72 := NB159_162.out; have hcz73_0 := cz BK162 0 (.int .i64 0); have hcz73_1 := cz BK162 1 (.int .i64 0); have hcz73_2 := cz BK162 2 (.int .i64 0); have hcz73_3 := cz BK162 3 (.int .i64 0); have hfz73_0 := fz BK162 0; have hfz73_1 := fz BK162 1; have hfz73_2 := fz BK162 2; have hfz73_3 := fz BK162 3))
                have n0_ : Aside0 (((((w71.setCell ⟨gb162, 0, none⟩ (.int .i64 ((rd_T47 l0_1 x18_2).f0))).setCell ⟨gb162, 1, none⟩ (.int .i64 ((rd_T47 l0_1 x18_2).f1))).setCell ⟨gb162, 2, none⟩ (.int .i64 ((rd_T47 l0_1 x18_2).f2))).setCell ⟨gb162, 3, none⟩ (.int .i64 ((rd_T47 l0_1 x18_2).f3))).heap[gb159]? = some (.cells #[.int .i64 a0_0, .slice (some ad161) l0_1.length c0_1] 25 (0, 0))) := ⟨by refine bU ?_; refine blk_far ?_ NB159_162.out _; refine bU ?_; refine blk_far ?_ NB159_162.out _; refine bU ?_; refine blk_far ?_ NB159_162.out _; refine bU ?_; refine blk_far ?_ NB159_162.out _; refine bU ?_; exact BK159.out⟩
                have n1_ : Aside0 (((((w71.setCell ⟨gb162, 0, none⟩ (.int .i64 ((rd_T47 l0_1 x18_2).f0))).setCell ⟨gb162, 1, none⟩ (.int .i64 ((rd_T47 l0_1 x18_2).f1))).setCell ⟨gb162, 2, none⟩ (.int .i64 ((rd_T47 l0_1 x18_2).f2))).setCell ⟨gb162, 3, none⟩ (.int .i64 ((rd_T47 l0_1 x18_2).f3))).heap[gb162]? = some (.cells #[.int .i64 ((rd_T47 l0_1 x18_2).f0), .int .i64 ((rd_T47 l0_1 x18_2).f1), .int .i64 ((rd_T47 l0_1 x18_2).f2), .int .i64 ((rd_T47 l0_1 x18_2).f3)] 47 (0, 0))) := ⟨by refine bU ?_; refine blk_put (cs := #[.int .i64 ((rd_T47 l0_1 x18_2).f0), .int .i64 ((rd_T47 l0_1 x18_2).f1), .int .i64 ((rd_T47 l0_1 x18_2).f2), .int .i64 0]) ?_ 3 _ rfl; refine bU ?_; refine blk_put (cs := #[.int .i64 ((rd_T47 l0_1 x18_2).f0), .int .i64 ((rd_T47 l0_1 x18_2).f1), .int .i64 0, .int .i64 0]) ?_ 2 _ rfl; refine bU ?_; refine blk_put (cs := #[.int .i64 ((rd_T47 l0_1 x18_2).f0), .int .i64 0, .int .i64 0, .int .i64 0]) ?_ 1 _ rfl; refine bU ?_; refine blk_put (cs := #[.int .i64 0, .int .i64 0, .int .i64 0, .int .i64 0]) ?_ 0 _ rfl; refine bU ?_; exact BK162.out⟩
                have n2_ : Aside0 (Below w.heap.size w ((((w71.setCell ⟨gb162, 0, none⟩ (.int .i64 ((rd_T47 l0_1 x18_2).f0))).setCell ⟨gb162, 1, none⟩ (.int .i64 ((rd_T47 l0_1 x18_2).f1))).setCell ⟨gb162, 2, none⟩ (.int .i64 ((rd_T47 l0_1 x18_2).f2))).setCell ⟨gb162, 3, none⟩ (.int .i64 ((rd_T47 l0_1 x18_2).f3)))) := ⟨by repeat (first | (with_reducible first | exact HB.out | apply below_alloc | apply pw_below_drewN | apply below_drew1 | refine below_set ?_ GE159.out | refine below_set ?_ GE162.out) | exact HB.out)⟩
                (try clear BK159)
                (try clear BK162)
                (try clear HB)
                generalize ((((w71.setCell ⟨gb162, 0, none⟩ (.int .i64 ((rd_T47 l0_1 x18_2).f0))).setCell ⟨gb162, 1, none⟩ (.int .i64 ((rd_T47 l0_1 x18_2).f1))).setCell ⟨gb162, 2, none⟩ (.int .i64 ((rd_T47 l0_1 x18_2).f2))).setCell ⟨gb162, 3, none⟩ (.int .i64 ((rd_T47 l0_1 x18_2).f3))) = w74 at n0_ n1_ n2_ ⊢
                have BK159 := n0_
                have BK162 := n1_
                have HB := n2_
                clear n0_ n1_ n2_
                replace BK159 := Aside0.mk (blk_drew BK159.out)
                replace BK162 := Aside0.mk (blk_drew BK162.out)
                replace HB := Aside0.mk (below_drew1 HB.out)
                refine start_ (n := 51) (S := fun w' => w'.cell? ⟨gb162, 0, none⟩ = some (.int .i64 ((rd_T47 l0_1 x18_2).f0)) ∧ w'.cell? ⟨gb162, 1, none⟩ = some (.int .i64 ((rd_T47 l0_1 x18_2).f1)) ∧ w'.cell? ⟨gb162, 2, none⟩ = some (.int .i64 ((rd_T47 l0_1 x18_2).f2)) ∧ w'.cell? ⟨gb162, 3, none⟩ = some (.int .i64 ((rd_T47 l0_1 x18_2).f3)) ∧ w'.cell? ⟨gb159, 0, none⟩ = some (.int .i64 a0_0) ∧ w'.cell? ⟨gb159, 1, none⟩ = some (.slice (some ad161) l0_1.length c0_1)) (ds := []) #[false, false, false, false, false, false, false, false, false, false, false, false, false, false, false, false, false, false, false, false, false, false, false, false, false, false, false, false, false, false, false, false, false, false, false, false, false, false, false, false, false, false, false, false, false, false, false, false, false, false, false] (by kernel_rfl) rfl rfl ⟨cz BK162 0 _, cz BK162 1 _, cz BK162 2 _, cz BK162 3 _, cz BK159 0 _, cz BK159 1 _⟩ (fun hHeld => ?_); refine with_tabW spec_GoodClock.tab6 spec_GoodClock.bits6 (fun HT_ HW_ => ?_)
                generalize w74.drew = w75 at BK159 BK162 HB hHeld ⊢
                refine pureA 0 23 (bz 51 1) rfl rfl (any_of HT_.out (by kernel_rfl)) ?_
                refine takeA 1 24 (bz 51 3) rfl rfl (take_ofW HT_.out HW_.out (by kernel_rfl)) hHeld (by rintro w' ⟨s0, s1, s2, s3, s4, s5⟩; go_simp; with_reducible rfl) ?_
                refine one_ (i := 2) (N := some 25) (bz 51 7) rfl rfl (one_of HT_.out (by kernel_rfl)) (by decide) (fun K hK => ?_)
                refine goes_ Try.func18 (by kernel_rfl) rfl #[.int .i64 ((rd_T47 l0_1 x18_2).f0), .int .i64 0, .int .i64 999] (by rfl) rfl rfl aE ?_
                with_reducible refine (spec_l1In.calls ((rd_T47 l0_1 x18_2).f0) 0 999 true _ A13.out).mono ?_
                rintro e w' ⟨rfl, ⟨nd, rfl⟩⟩
                refine ⟨_, rfl, ?_⟩
                refine hK.out _ _ ⟨cz BK162 0 _, cz BK162 1 _, cz BK162 2 _, cz BK162 3 _, cz BK159 0 _, cz BK159 1 _⟩ (fun hHeld => ?_)
                clear hK K
                refine norm_ (a' := ?_) ?_ ?_
                rotate_left
                ·show Act.put _ (some 25) _ = _
                 simp only [Act.put, List.setIfInBounds_toArray, List.set_cons_zero, List.set_cons_succ, i64_w, i32_w]
                 rfl
                refine pureA 3 26 (bz 51 15) rfl rfl (any_of HT_.out (by kernel_rfl)) ?_
                refine pureA 4 27 (bz 51 31) rfl rfl (any_of HT_.out (by kernel_rfl)) ?_
                refine pureA 5 28 (bz 51 63) rfl rfl (any_of HT_.out (by kernel_rfl)) ?_
                refine pureA 6 29 (bz 51 127) rfl rfl (any_of HT_.out (by kernel_rfl)) ?_
                refine pureA 7 30 (bz 51 255) rfl rfl (any_of HT_.out (by kernel_rfl)) ?_
                refine pureU 8 31 (bz 51 511) rfl rfl (any_of HT_.out (by kernel_rfl)) ?_
                refine pureU 9 32 (bz 51 1023) rfl rfl (any_of HT_.out (by kernel_rfl)) ?_
                refine pureU 10 33 (bz 51 2047) rfl rfl (any_of HT_.out (by kernel_rfl)) ?_
                refine pureU 11 34 (bz 51 4095) rfl rfl (any_of HT_.out (by kernel_rfl)) ?_
                refine pureU 12 35 (bz 51 8191) rfl rfl (any_of HT_.out (by kernel_rfl)) ?_
                refine pureU 13 36 (bz 51 16383) rfl rfl (any_of HT_.out (by kernel_rfl)) ?_
                refine pureU 14 37 (bz 51 32767) rfl rfl (any_of HT_.out (by kernel_rfl)) ?_
                refine pureU 15 38 (bz 51 65535) rfl rfl (any_of HT_.out (by kernel_rfl)) ?_
                refine pureU 16 39 (bz 51 131071) rfl rfl (any_of HT_.out (by kernel_rfl)) ?_
                refine pureU 17 40 (bz 51 262143) rfl rfl (any_of HT_.out (by kernel_rfl)) ?_
                refine pureA 18 41 (bz 51 524287) rfl rfl (any_of HT_.out (by kernel_rfl)) ?_
                refine pureA 19 42 (bz 51 1048575) rfl rfl (any_of HT_.out (by kernel_rfl)) ?_
                refine pureA 20 43 (bz 51 2097151) rfl rfl (any_of HT_.out (by kernel_rfl)) ?_
                refine pureA 21 44 (bz 51 4194303) rfl rfl (any_of HT_.out (by kernel_rfl)) ?_
                refine pureA 23 46 (bz 51 12582911) rfl rfl (any_of HT_.out (by kernel_rfl)) ?_
                refine takeA 22 45 (bz 51 16777215) rfl rfl (take_ofW HT_.out HW_.out (by kernel_rfl)) hHeld (by rintro w' ⟨s0, s1, s2, s3, s4, s5⟩; go_simp; with_reducible rfl) ?_
                refine takeA 24 47 (bz 51 33554431) rfl rfl (take_ofW HT_.out HW_.out (by kernel_rfl)) hHeld (by rintro w' ⟨s0, s1, s2, s3, s4, s5⟩; go_simp; with_reducible rfl) ?_
                refine pureA 25 48 (bz 51 67108863) rfl rfl (any_of HT_.out (by kernel_rfl)) ?_
                refine one_ (i := 26) (N := some 49) (bz 51 134217727) rfl rfl (one_of HT_.out (by kernel_rfl)) (by decide) (fun K hK => ?_)
                refine goes_ Try.func18 (by kernel_rfl) rfl #[.int .i64 ((rd_T47 l0_1 x18_2).f1), .int .i64 (wrap64 (a0_0 + 1)), .int .i64 200000] (by rfl) rfl rfl aE ?_
                with_reducible refine (spec_l1In.calls ((rd_T47 l0_1 x18_2).f1) (wrap64 (a0_0 + 1)) 200000 true _ A63.out).mono ?_
                rintro e w' ⟨rfl, ⟨nd, rfl⟩⟩
                refine ⟨_, rfl, ?_⟩
                refine hK.out _ _ ⟨cz BK162 0 _, cz BK162 1 _, cz BK162 2 _, cz BK162 3 _, cz BK159 0 _, cz BK159 1 _⟩ (fun hHeld => ?_)
                clear hK K
                refine norm_ (a' := ?_) ?_ ?_
                rotate_left
                ·show Act.put _ (some 49) _ = _
                 simp only [Act.put, List.setIfInBounds_toArray, List.set_cons_zero, List.set_cons_succ, i64_w, i32_w]
                 rfl
                refine pureA 27 50 (bz 51 268435455) rfl rfl (any_of HT_.out (by kernel_rfl)) ?_
                refine pureA 28 51 (bz 51 536870911) rfl rfl (any_of HT_.out (by kernel_rfl)) ?_
                refine pureA 29 52 (bz 51 1073741823) rfl rfl (any_of HT_.out (by kernel_rfl)) ?_
                refine pureA 30 53 (bz 51 2147483647) rfl rfl (any_of HT_.out (by kernel_rfl)) ?_
                refine takeA 31 54 (bz 51 4294967295) rfl rfl (take_ofW HT_.out HW_.out (by kernel_rfl)) hHeld (by rintro w' ⟨s0, s1, s2, s3, s4, s5⟩; go_simp; with_reducible rfl) ?_
                refine one_ (i := 32) (N := some 55) (bz 51 8589934591) rfl rfl (one_of HT_.out (by kernel_rfl)) (by decide) (fun K hK => ?_)
                refine goes_ Try.func18 (by kernel_rfl) rfl #[.int .i64 ((rd_T47 l0_1 x18_2).f2), .int .i64 0, .int .i64 100000] (by rfl) rfl rfl aE ?_
                with_reducible refine (spec_l1In.calls ((rd_T47 l0_1 x18_2).f2) 0 100000 true _ A65.out).mono ?_
                rintro e w' ⟨rfl, ⟨nd, rfl⟩⟩
                refine ⟨_, rfl, ?_⟩
                refine hK.out _ _ ⟨cz BK162 0 _, cz BK162 1 _, cz BK162 2 _, cz BK162 3 _, cz BK159 0 _, cz BK159 1 _⟩ (fun hHeld => ?_)
                clear hK K
                refine norm_ (a' := ?_) ?_ ?_
                rotate_left
                ·show Act.put _ (some 55) _ = _
                 simp only [Act.put, List.setIfInBounds_toArray, List.set_cons_zero, List.set_cons_succ, i64_w, i32_w]
                 rfl
                refine pureA 33 56 (bz 51 17179869183) rfl rfl (any_of HT_.out (by kernel_rfl)) ?_
                refine pureA 34 57 (bz 51 34359738367) rfl rfl (any_of HT_.out (by kernel_rfl)) ?_
                refine pureA 35 58 (bz 51 68719476735) rfl rfl (any_of HT_.out (by kernel_rfl)) ?_
                refine pureA 36 59 (bz 51 137438953471) rfl rfl (any_of HT_.out (by kernel_rfl)) ?_
                refine takeA 37 60 (bz 51 274877906943) rfl rfl (take_ofW HT_.out HW_.out (by kernel_rfl)) hHeld (by rintro w' ⟨s0, s1, s2, s3, s4, s5⟩; go_simp; with_reducible rfl) ?_
                refine one_ (i := 38) (N := some 61) (bz 51 549755813887) rfl rfl (one_of HT_.out (by kernel_rfl)) (by decide) (fun K hK => ?_)
                refine goes_ Try.func18 (by kernel_rfl) rfl #[.int .i64 ((rd_T47 l0_1 x18_2).f3), .int .i64 1, .int .i64 1000] (by rfl) rfl rfl aE ?_
                with_reducible refine (spec_l1In.calls ((rd_T47 l0_1 x18_2).f3) 1 1000 true _ A67.out).mono ?_
                rintro e w' ⟨rfl, ⟨nd, rfl⟩⟩
                refine ⟨_, rfl, ?_⟩
                refine hK.out _ _ ⟨cz BK162 0 _, cz BK162 1 _, cz BK162 2 _, cz BK162 3 _, cz BK159 0 _, cz BK159 1 _⟩ (fun hHeld => ?_)
                clear hK K
                refine norm_ (a' := ?_) ?_ ?_
                rotate_left
                ·show Act.put _ (some 61) _ = _
                 simp only [Act.put, List.setIfInBounds_toArray, List.set_cons_zero, List.set_cons_succ, i64_w, i32_w]
                 rfl
                refine pureA 39 62 (bz 51 1099511627775) rfl rfl (any_of HT_.out (by kernel_rfl)) ?_
                refine pureA 40 63 (bz 51 2199023255551) rfl rfl (any_of HT_.out (by kernel_rfl)) ?_
                refine pureA 41 64 (bz 51 4398046511103) rfl rfl (any_of HT_.out (by kernel_rfl)) ?_
                refine pureA 42 65 (bz 51 8796093022207) rfl rfl (any_of HT_.out (by kernel_rfl)) ?_
                refine takeA 43 66 (bz 51 17592186044415) rfl rfl (take_ofW HT_.out HW_.out (by kernel_rfl)) hHeld (by rintro w' ⟨s0, s1, s2, s3, s4, s5⟩; go_simp; with_reducible rfl) ?_
                refine pureA 44 67 (bz 51 35184372088831) rfl rfl (any_of HT_.out (by kernel_rfl)) ?_
                refine pureA 45 68 (bz 51 70368744177663) rfl rfl (any_of HT_.out (by kernel_rfl)) ?_
                refine pureA 46 69 (bz 51 140737488355327) rfl rfl (any_of HT_.out (by kernel_rfl)) ?_
                refine takeA 47 70 (bz 51 281474976710655) rfl rfl (take_ofW HT_.out HW_.out (by kernel_rfl)) hHeld (by rintro w' ⟨s0, s1, s2, s3, s4, s5⟩; go_simp; with_reducible rfl) ?_
                refine pureA 48 71 (bz 51 562949953421311) rfl rfl (any_of HT_.out (by kernel_rfl)) ?_
                refine pureA 49 72 (bz 51 1125899906842623) rfl rfl (any_of HT_.out (by kernel_rfl)) ?_
                refine pureA 50 73 (bz 51 2251799813685247) rfl rfl (any_of HT_.out (by kernel_rfl)) ?_
                refine done_ (done_of HT_.out (by kernel_rfl)) ?_
                try go_wp2
                go_roundg k2
                case measure => have := HJ1.out; have := HK2.out; omega
                case rel => exact ⟨(wrap64 (x18_2 + 1)), tE, H', ⟨by have := HJ1.out; have := HK2.out; omega⟩, ⟨by refine bU ?_; exact BK159.out⟩, ⟨by repeat (first | (with_reducible first | exact HB.out | apply below_alloc | apply pw_below_drewN | apply below_drew1 | refine below_set ?_ GE159.out | refine below_set ?_ GE162.out) | exact HB.out)⟩⟩
               ·rw [if_neg c70] at H
                have c70b0 : (((rd_T47 l0_1 x18_2).f3) == 1) = false := beq_eq_false_iff_ne.mpr c70
                have c70b1 : (((rd_T47 l0_1 x18_2).f3) != 1) = true := bne_iff_ne.mpr c70
                obtain rfl := Option.some.inj H
                have p161 : 0 ≤ (x18_2 : Int) := of_decide_eq_true hE
                have q161 : x18_2 < (l0_1.length : Int) := of_decide_eq_true hE
                obtain ⟨ad161, e161, hx161_0, hx161_1, hx161_2, hx161_3⟩ := at_T47 HR0_1.out x18_2 p161 q161
                cases e161
                replace hx161_0 := (HB.out.cell (World.block_lt_of_cell? w _ hx161_0)).trans hx161_0
                replace hx161_1 := (HB.out.cell (World.block_lt_of_cell? w _ hx161_1)).trans hx161_1
                replace hx161_2 := (HB.out.cell (World.block_lt_of_cell? w _ hx161_2)).trans hx161_2
                replace hx161_3 := (HB.out.cell (World.block_lt_of_cell? w _ hx161_3)).trans hx161_3
                replace p161 := eq_true p161
                replace q161 := eq_true q161
                try go_wp2_with (first | ((with_reducible refine gate_dst (N := 4) rfl ?_); (try (refine gate_guard (by rfl) ?_; dsimp only)); refine box_event rfl (N := 4) rfl (cs := #[.int .i64 0, .int .i64 0, .int .i64 0, .int .i64 0]) (t := 47) sE ?_; intro gb162 hg w76 hbox hb; have BK162 := Aside0.mk hbox; have GW162 := gS w hg (lV1 GE159); have GE162 := gS w hg (lV1 GE159); replace HB := bH (lV1 GE159) hb; have NB159_162 := nL hg (bV BK159); have NB162_159 := nG hg (bV BK159); replace BK159 := bB (bV BK159) hb; clear hb hbox hg; have hnb77 := NB162_159.out; have hnc77 := NB159_162.out; have hcz78_0 := cz BK162 0 (.int .i64 0); have hcz78_1 := cz BK162 1 (.int .i64 0); have hcz78_2 := cz BK162 2 (.int .i64 0); have hcz78_3 := cz BK162 3 (.int .i64 0); have hfz78_0 := fz BK162 0; have hfz78_1 := fz BK162 1; have hfz78_2 := fz BK162 2; have hfz78_3 := fz BK162 3))
                have n0_ : Aside0 (((((w76.setCell ⟨gb162, 0, none⟩ (.int .i64 ((rd_T47 l0_1 x18_2).f0))).setCell ⟨gb162, 1, none⟩ (.int .i64 ((rd_T47 l0_1 x18_2).f1))).setCell ⟨gb162, 2, none⟩ (.int .i64 ((rd_T47 l0_1 x18_2).f2))).setCell ⟨gb162, 3, none⟩ (.int .i64 ((rd_T47 l0_1 x18_2).f3))).heap[gb159]? = some (.cells #[.int .i64 a0_0, .slice (some ad161) l0_1.length c0_1] 25 (0, 0))) := ⟨by refine bU ?_; refine blk_far ?_ NB159_162.out _; refine bU ?_; refine blk_far ?_ NB159_162.out _; refine bU ?_; refine blk_far ?_ NB159_162.out _; refine bU ?_; refine blk_far ?_ NB159_162.out _; refine bU ?_; exact BK159.out⟩
                have n1_ : Aside0 (((((w76.setCell ⟨gb162, 0, none⟩ (.int .i64 ((rd_T47 l0_1 x18_2).f0))).setCell ⟨gb162, 1, none⟩ (.int .i64 ((rd_T47 l0_1 x18_2).f1))).setCell ⟨gb162, 2, none⟩ (.int .i64 ((rd_T47 l0_1 x18_2).f2))).setCell ⟨gb162, 3, none⟩ (.int .i64 ((rd_T47 l0_1 x18_2).f3))).heap[gb162]? = some (.cells #[.int .i64 ((rd_T47 l0_1 x18_2).f0), .int .i64 ((rd_T47 l0_1 x18_2).f1), .int .i64 ((rd_T47 l0_1 x18_2).f2), .int .i64 ((rd_T47 l0_1 x18_2).f3)] 47 (0, 0))) := ⟨by refine bU ?_; refine blk_put (cs := #[.int .i64 ((rd_T47 l0_1 x18_2).f0), .int .i64 ((rd_T47 l0_1 x18_2).f1), .int .i64 ((rd_T47 l0_1 x18_2).f2), .int .i64 0]) ?_ 3 _ rfl; refine bU ?_; refine blk_put (cs := #[.int .i64 ((rd_T47 l0_1 x18_2).f0), .int .i64 ((rd_T47 l0_1 x18_2).f1), .int .i64 0, .int .i64 0]) ?_ 2 _ rfl; refine bU ?_; refine blk_put (cs := #[.int .i64 ((rd_T47 l0_1 x18_2).f0), .int .i64 0, .int .i64 0, .int .i64 0]) ?_ 1 _ rfl; refine bU ?_; refine blk_put (cs := #[.int .i64 0, .int .i64 0, .int .i64 0, .int .i64 0]) ?_ 0 _ rfl; refine bU ?_; exact BK162.out⟩
                have n2_ : Aside0 (Below w.heap.size w ((((w76.setCell ⟨gb162, 0, none⟩ (.int .i64 ((rd_T47 l0_1 x18_2).f0))).setCell ⟨gb162, 1, none⟩ (.int .i64 ((rd_T47 l0_1 x18_2).f1))).setCell ⟨gb162, 2, none⟩ (.int .i64 ((rd_T47 l0_1 x18_2).f2))).setCell ⟨gb162, 3, none⟩ (.int .i64 ((rd_T47 l0_1 x18_2).f3)))) := ⟨by repeat (first | (with_reducible first | exact HB.out | apply below_alloc | apply pw_below_drewN | apply below_drew1 | refine below_set ?_ GE159.out | refine below_set ?_ GE162.out) | exact HB.out)⟩
                (try clear BK159)
                (try clear BK162)
                (try clear HB)
                generalize ((((w76.setCell ⟨gb162, 0, none⟩ (.int .i64 ((rd_T47 l0_1 x18_2).f0))).setCell ⟨gb162, 1, none⟩ (.int .i64 ((rd_T47 l0_1 x18_2).f1))).setCell ⟨gb162, 2, none⟩ (.int .i64 ((rd_T47 l0_1 x18_2).f2))).setCell ⟨gb162, 3, none⟩ (.int .i64 ((rd_T47 l0_1 x18_2).f3))) = w79 at n0_ n1_ n2_ ⊢
                have BK159 := n0_
                have BK162 := n1_
                have HB := n2_
                clear n0_ n1_ n2_
                replace BK159 := Aside0.mk (blk_drew BK159.out)
                replace BK162 := Aside0.mk (blk_drew BK162.out)
                replace HB := Aside0.mk (below_drew1 HB.out)
                refine start_ (n := 51) (S := fun w' => w'.cell? ⟨gb162, 0, none⟩ = some (.int .i64 ((rd_T47 l0_1 x18_2).f0)) ∧ w'.cell? ⟨gb162, 1, none⟩ = some (.int .i64 ((rd_T47 l0_1 x18_2).f1)) ∧ w'.cell? ⟨gb162, 2, none⟩ = some (.int .i64 ((rd_T47 l0_1 x18_2).f2)) ∧ w'.cell? ⟨gb162, 3, none⟩ = some (.int .i64 ((rd_T47 l0_1 x18_2).f3)) ∧ w'.cell? ⟨gb159, 0, none⟩ = some (.int .i64 a0_0) ∧ w'.cell? ⟨gb159, 1, none⟩ = some (.slice (some ad161) l0_1.length c0_1)) (ds := []) #[false, false, false, false, false, false, false, false, false, false, false, false, false, false, false, false, false, false, false, false, false, false, false, false, false, false, false, false, false, false, false, false, false, false, false, false, false, false, false, false, false, false, false, false, false, false, false, false, false, false, false] (by kernel_rfl) rfl rfl ⟨cz BK162 0 _, cz BK162 1 _, cz BK162 2 _, cz BK162 3 _, cz BK159 0 _, cz BK159 1 _⟩ (fun hHeld => ?_); refine with_tabW spec_GoodClock.tab6 spec_GoodClock.bits6 (fun HT_ HW_ => ?_)
                generalize w79.drew = w80 at BK159 BK162 HB hHeld ⊢
                refine pureA 0 23 (bz 51 1) rfl rfl (any_of HT_.out (by kernel_rfl)) ?_
                refine takeA 1 24 (bz 51 3) rfl rfl (take_ofW HT_.out HW_.out (by kernel_rfl)) hHeld (by rintro w' ⟨s0, s1, s2, s3, s4, s5⟩; go_simp; with_reducible rfl) ?_
                refine one_ (i := 2) (N := some 25) (bz 51 7) rfl rfl (one_of HT_.out (by kernel_rfl)) (by decide) (fun K hK => ?_)
                refine goes_ Try.func18 (by kernel_rfl) rfl #[.int .i64 ((rd_T47 l0_1 x18_2).f0), .int .i64 0, .int .i64 999] (by rfl) rfl rfl aE ?_
                with_reducible refine (spec_l1In.calls ((rd_T47 l0_1 x18_2).f0) 0 999 true _ A13.out).mono ?_
                rintro e w' ⟨rfl, ⟨nd, rfl⟩⟩
                refine ⟨_, rfl, ?_⟩
                refine hK.out _ _ ⟨cz BK162 0 _, cz BK162 1 _, cz BK162 2 _, cz BK162 3 _, cz BK159 0 _, cz BK159 1 _⟩ (fun hHeld => ?_)
                clear hK K
                refine norm_ (a' := ?_) ?_ ?_
                rotate_left
                ·show Act.put _ (some 25) _ = _
                 simp only [Act.put, List.setIfInBounds_toArray, List.set_cons_zero, List.set_cons_succ, i64_w, i32_w]
                 rfl
                refine pureA 3 26 (bz 51 15) rfl rfl (any_of HT_.out (by kernel_rfl)) ?_
                refine pureA 4 27 (bz 51 31) rfl rfl (any_of HT_.out (by kernel_rfl)) ?_
                refine pureA 5 28 (bz 51 63) rfl rfl (any_of HT_.out (by kernel_rfl)) ?_
                refine pureA 6 29 (bz 51 127) rfl rfl (any_of HT_.out (by kernel_rfl)) ?_
                refine pureA 7 30 (bz 51 255) rfl rfl (any_of HT_.out (by kernel_rfl)) ?_
                refine pureU 8 31 (bz 51 511) rfl rfl (any_of HT_.out (by kernel_rfl)) ?_
                refine pureU 9 32 (bz 51 1023) rfl rfl (any_of HT_.out (by kernel_rfl)) ?_
                refine pureU 10 33 (bz 51 2047) rfl rfl (any_of HT_.out (by kernel_rfl)) ?_
                refine pureU 11 34 (bz 51 4095) rfl rfl (any_of HT_.out (by kernel_rfl)) ?_
                refine pureU 12 35 (bz 51 8191) rfl rfl (any_of HT_.out (by kernel_rfl)) ?_
                refine pureU 13 36 (bz 51 16383) rfl rfl (any_of HT_.out (by kernel_rfl)) ?_
                refine pureU 14 37 (bz 51 32767) rfl rfl (any_of HT_.out (by kernel_rfl)) ?_
                refine pureU 15 38 (bz 51 65535) rfl rfl (any_of HT_.out (by kernel_rfl)) ?_
                refine pureU 16 39 (bz 51 131071) rfl rfl (any_of HT_.out (by kernel_rfl)) ?_
                refine pureU 17 40 (bz 51 262143) rfl rfl (any_of HT_.out (by kernel_rfl)) ?_
                refine pureA 18 41 (bz 51 524287) rfl rfl (any_of HT_.out (by kernel_rfl)) ?_
                refine pureA 19 42 (bz 51 1048575) rfl rfl (any_of HT_.out (by kernel_rfl)) ?_
                refine pureA 20 43 (bz 51 2097151) rfl rfl (any_of HT_.out (by kernel_rfl)) ?_
                refine pureA 21 44 (bz 51 4194303) rfl rfl (any_of HT_.out (by kernel_rfl)) ?_
                refine pureA 23 46 (bz 51 12582911) rfl rfl (any_of HT_.out (by kernel_rfl)) ?_
                refine takeA 22 45 (bz 51 16777215) rfl rfl (take_ofW HT_.out HW_.out (by kernel_rfl)) hHeld (by rintro w' ⟨s0, s1, s2, s3, s4, s5⟩; go_simp; with_reducible rfl) ?_
                refine takeA 24 47 (bz 51 33554431) rfl rfl (take_ofW HT_.out HW_.out (by kernel_rfl)) hHeld (by rintro w' ⟨s0, s1, s2, s3, s4, s5⟩; go_simp; with_reducible rfl) ?_
                refine pureA 25 48 (bz 51 67108863) rfl rfl (any_of HT_.out (by kernel_rfl)) ?_
                refine one_ (i := 26) (N := some 49) (bz 51 134217727) rfl rfl (one_of HT_.out (by kernel_rfl)) (by decide) (fun K hK => ?_)
                refine goes_ Try.func18 (by kernel_rfl) rfl #[.int .i64 ((rd_T47 l0_1 x18_2).f1), .int .i64 (wrap64 (a0_0 + 1)), .int .i64 200000] (by rfl) rfl rfl aE ?_
                with_reducible refine (spec_l1In.calls ((rd_T47 l0_1 x18_2).f1) (wrap64 (a0_0 + 1)) 200000 true _ A63.out).mono ?_
                rintro e w' ⟨rfl, ⟨nd, rfl⟩⟩
                refine ⟨_, rfl, ?_⟩
                refine hK.out _ _ ⟨cz BK162 0 _, cz BK162 1 _, cz BK162 2 _, cz BK162 3 _, cz BK159 0 _, cz BK159 1 _⟩ (fun hHeld => ?_)
                clear hK K
                refine norm_ (a' := ?_) ?_ ?_
                rotate_left
                ·show Act.put _ (some 49) _ = _
                 simp only [Act.put, List.setIfInBounds_toArray, List.set_cons_zero, List.set_cons_succ, i64_w, i32_w]
                 rfl
                refine pureA 27 50 (bz 51 268435455) rfl rfl (any_of HT_.out (by kernel_rfl)) ?_
                refine pureA 28 51 (bz 51 536870911) rfl rfl (any_of HT_.out (by kernel_rfl)) ?_
                refine pureA 29 52 (bz 51 1073741823) rfl rfl (any_of HT_.out (by kernel_rfl)) ?_
                refine pureA 30 53 (bz 51 2147483647) rfl rfl (any_of HT_.out (by kernel_rfl)) ?_
                refine takeA 31 54 (bz 51 4294967295) rfl rfl (take_ofW HT_.out HW_.out (by kernel_rfl)) hHeld (by rintro w' ⟨s0, s1, s2, s3, s4, s5⟩; go_simp; with_reducible rfl) ?_
                refine one_ (i := 32) (N := some 55) (bz 51 8589934591) rfl rfl (one_of HT_.out (by kernel_rfl)) (by decide) (fun K hK => ?_)
                refine goes_ Try.func18 (by kernel_rfl) rfl #[.int .i64 ((rd_T47 l0_1 x18_2).f2), .int .i64 0, .int .i64 100000] (by rfl) rfl rfl aE ?_
                with_reducible refine (spec_l1In.calls ((rd_T47 l0_1 x18_2).f2) 0 100000 true _ A65.out).mono ?_
                rintro e w' ⟨rfl, ⟨nd, rfl⟩⟩
                refine ⟨_, rfl, ?_⟩
                refine hK.out _ _ ⟨cz BK162 0 _, cz BK162 1 _, cz BK162 2 _, cz BK162 3 _, cz BK159 0 _, cz BK159 1 _⟩ (fun hHeld => ?_)
                clear hK K
                refine norm_ (a' := ?_) ?_ ?_
                rotate_left
                ·show Act.put _ (some 55) _ = _
                 simp only [Act.put, List.setIfInBounds_toArray, List.set_cons_zero, List.set_cons_succ, i64_w, i32_w]
                 rfl
                refine pureA 33 56 (bz 51 17179869183) rfl rfl (any_of HT_.out (by kernel_rfl)) ?_
                refine pureA 34 57 (bz 51 34359738367) rfl rfl (any_of HT_.out (by kernel_rfl)) ?_
                refine pureA 35 58 (bz 51 68719476735) rfl rfl (any_of HT_.out (by kernel_rfl)) ?_
                refine pureA 36 59 (bz 51 137438953471) rfl rfl (any_of HT_.out (by kernel_rfl)) ?_
                refine takeA 37 60 (bz 51 274877906943) rfl rfl (take_ofW HT_.out HW_.out (by kernel_rfl)) hHeld (by rintro w' ⟨s0, s1, s2, s3, s4, s5⟩; go_simp; with_reducible rfl) ?_
                refine one_ (i := 38) (N := some 61) (bz 51 549755813887) rfl rfl (one_of HT_.out (by kernel_rfl)) (by decide) (fun K hK => ?_)
                refine goes_ Try.func18 (by kernel_rfl) rfl #[.int .i64 ((rd_T47 l0_1 x18_2).f3), .int .i64 1, .int .i64 1000] (by rfl) rfl rfl aE ?_
                with_reducible refine (spec_l1In.calls ((rd_T47 l0_1 x18_2).f3) 1 1000 true _ A67.out).mono ?_
                rintro e w' ⟨rfl, ⟨nd, rfl⟩⟩
                refine ⟨_, rfl, ?_⟩
                refine hK.out _ _ ⟨cz BK162 0 _, cz BK162 1 _, cz BK162 2 _, cz BK162 3 _, cz BK159 0 _, cz BK159 1 _⟩ (fun hHeld => ?_)
                clear hK K
                refine norm_ (a' := ?_) ?_ ?_
                rotate_left
                ·show Act.put _ (some 61) _ = _
                 simp only [Act.put, List.setIfInBounds_toArray, List.set_cons_zero, List.set_cons_succ, i64_w, i32_w]
                 rfl
                refine pureA 39 62 (bz 51 1099511627775) rfl rfl (any_of HT_.out (by kernel_rfl)) ?_
                refine pureA 40 63 (bz 51 2199023255551) rfl rfl (any_of HT_.out (by kernel_rfl)) ?_
                refine pureA 41 64 (bz 51 4398046511103) rfl rfl (any_of HT_.out (by kernel_rfl)) ?_
                refine pureA 42 65 (bz 51 8796093022207) rfl rfl (any_of HT_.out (by kernel_rfl)) ?_
                refine takeA 43 66 (bz 51 17592186044415) rfl rfl (take_ofW HT_.out HW_.out (by kernel_rfl)) hHeld (by rintro w' ⟨s0, s1, s2, s3, s4, s5⟩; go_simp; with_reducible rfl) ?_
                refine pureA 44 67 (bz 51 35184372088831) rfl rfl (any_of HT_.out (by kernel_rfl)) ?_
                refine pureA 45 68 (bz 51 70368744177663) rfl rfl (any_of HT_.out (by kernel_rfl)) ?_
                refine pureA 46 69 (bz 51 140737488355327) rfl rfl (any_of HT_.out (by kernel_rfl)) ?_
                refine takeA 47 70 (bz 51 281474976710655) rfl rfl (take_ofW HT_.out HW_.out (by kernel_rfl)) hHeld (by rintro w' ⟨s0, s1, s2, s3, s4, s5⟩; go_simp; with_reducible rfl) ?_
                refine pureA 48 71 (bz 51 562949953421311) rfl rfl (any_of HT_.out (by kernel_rfl)) ?_
                refine pureA 49 72 (bz 51 1125899906842623) rfl rfl (any_of HT_.out (by kernel_rfl)) ?_
                refine pureA 50 73 (bz 51 2251799813685247) rfl rfl (any_of HT_.out (by kernel_rfl)) ?_
                refine done_ (done_of HT_.out (by kernel_rfl)) ?_
                try go_wp2
                go_ret
                exact ⟨eE, lV2 GE159 GE162⟩
              ·rw [if_neg c69] at H
               have c69b0 : (((rd_T47 l0_1 x18_2).f2) == 0) = false := beq_eq_false_iff_ne.mpr c69
               have c69b1 : (((rd_T47 l0_1 x18_2).f2) != 0) = true := bne_iff_ne.mpr c69
               have H' := Aside0.mk H
               clear H
               have p161 : 0 ≤ (x18_2 : Int) := of_decide_eq_true hE
               have q161 : x18_2 < (l0_1.length : Int) := of_decide_eq_true hE
               obtain ⟨ad161, e161, hx161_0, hx161_1, hx161_2, hx161_3⟩ := at_T47 HR0_1.out x18_2 p161 q161
               cases e161
               replace hx161_0 := (HB.out.cell (World.block_lt_of_cell? w _ hx161_0)).trans hx161_0
               replace hx161_1 := (HB.out.cell (World.block_lt_of_cell? w _ hx161_1)).trans hx161_1
               replace hx161_2 := (HB.out.cell (World.block_lt_of_cell? w _ hx161_2)).trans hx161_2
               replace hx161_3 := (HB.out.cell (World.block_lt_of_cell? w _ hx161_3)).trans hx161_3
               replace p161 := eq_true p161
               replace q161 := eq_true q161
               try go_wp2_with (first | ((with_reducible refine gate_dst (N := 4) rfl ?_); (try (refine gate_guard (by rfl) ?_; dsimp only)); refine box_event rfl (N := 4) rfl (cs := #[.int .i64 0, .int .i64 0, .int .i64 0, .int .i64 0]) (t := 47) sE ?_; intro gb162 hg w81 hbox hb; have BK162 := Aside0.mk hbox; have GW162 := gS w hg (lV1 GE159); have GE162 := gS w hg (lV1 GE159); replace HB := bH (lV1 GE159) hb; have NB159_162 := nL hg (bV BK159); have NB162_159 := nG hg (bV BK159); replace BK159 := bB (bV BK159) hb; clear hb hbox hg; have hnb82 := NB162_159.out; have hnc82 := NB159_162.out; have hcz83_0 := cz BK162 0 (.int .i64 0); have hcz83_1 := cz BK162 1 (.int .i64 0); have hcz83_2 := cz BK162 2 (.int .i64 0); have hcz83_3 := cz BK162 3 (.int .i64 0); have hfz83_0 := fz BK162 0; have hfz83_1 := fz BK162 1; have hfz83_2 := fz BK162 2; have hfz83_3 := fz BK162 3))
               have n0_ : Aside0 (((((w81.setCell ⟨gb162, 0, none⟩ (.int .i64 ((rd_T47 l0_1 x18_2).f0))).setCell ⟨gb162, 1, none⟩ (.int .i64 ((rd_T47 l0_1 x18_2).f1))).setCell ⟨gb162, 2, none⟩ (.int .i64 ((rd_T47 l0_1 x18_2).f2))).setCell ⟨gb162, 3, none⟩ (.int .i64 ((rd_T47 l0_1 x18_2).f3))).heap[gb159]? = some (.cells #[.int .i64 a0_0, .slice (some ad161) l0_1.length c0_1] 25 (0, 0))) := ⟨by refine bU ?_; refine blk_far ?_ NB159_162.out _; refine bU ?_; refine blk_far ?_ NB159_162.out _; refine bU ?_; refine blk_far ?_ NB159_162.out _; refine bU ?_; refine blk_far ?_ NB159_162.out _; refine bU ?_; exact BK159.out⟩
               have n1_ : Aside0 (((((w81.setCell ⟨gb162, 0, none⟩ (.int .i64 ((rd_T47 l0_1 x18_2).f0))).setCell ⟨gb162, 1, none⟩ (.int .i64 ((rd_T47 l0_1 x18_2).f1))).setCell ⟨gb162, 2, none⟩ (.int .i64 ((rd_T47 l0_1 x18_2).f2))).setCell ⟨gb162, 3, none⟩ (.int .i64 ((rd_T47 l0_1 x18_2).f3))).heap[gb162]? = some (.cells #[.int .i64 ((rd_T47 l0_1 x18_2).f0), .int .i64 ((rd_T47 l0_1 x18_2).f1), .int .i64 ((rd_T47 l0_1 x18_2).f2), .int .i64 ((rd_T47 l0_1 x18_2).f3)] 47 (0, 0))) := ⟨by refine bU ?_; refine blk_put (cs := #[.int .i64 ((rd_T47 l0_1 x18_2).f0), .int .i64 ((rd_T47 l0_1 x18_2).f1), .int .i64 ((rd_T47 l0_1 x18_2).f2), .int .i64 0]) ?_ 3 _ rfl; refine bU ?_; refine blk_put (cs := #[.int .i64 ((rd_T47 l0_1 x18_2).f0), .int .i64 ((rd_T47 l0_1 x18_2).f1), .int .i64 0, .int .i64 0]) ?_ 2 _ rfl; refine bU ?_; refine blk_put (cs := #[.int .i64 ((rd_T47 l0_1 x18_2).f0), .int .i64 0, .int .i64 0, .int .i64 0]) ?_ 1 _ rfl; refine bU ?_; refine blk_put (cs := #[.int .i64 0, .int .i64 0, .int .i64 0, .int .i64 0]) ?_ 0 _ rfl; refine bU ?_; exact BK162.out⟩
               have n2_ : Aside0 (Below w.heap.size w ((((w81.setCell ⟨gb162, 0, none⟩ (.int .i64 ((rd_T47 l0_1 x18_2).f0))).setCell ⟨gb162, 1, none⟩ (.int .i64 ((rd_T47 l0_1 x18_2).f1))).setCell ⟨gb162, 2, none⟩ (.int .i64 ((rd_T47 l0_1 x18_2).f2))).setCell ⟨gb162, 3, none⟩ (.int .i64 ((rd_T47 l0_1 x18_2).f3)))) := ⟨by repeat (first | (with_reducible first | exact HB.out | apply below_alloc | apply pw_below_drewN | apply below_drew1 | refine below_set ?_ GE159.out | refine below_set ?_ GE162.out) | exact HB.out)⟩
               (try clear BK159)
               (try clear BK162)
               (try clear HB)
               generalize ((((w81.setCell ⟨gb162, 0, none⟩ (.int .i64 ((rd_T47 l0_1 x18_2).f0))).setCell ⟨gb162, 1, none⟩ (.int .i64 ((rd_T47 l0_1 x18_2).f1))).setCell ⟨gb162, 2, none⟩ (.int .i64 ((rd_T47 l0_1 x18_2).f2))).setCell ⟨gb162, 3, none⟩ (.int .i64 ((rd_T47 l0_1 x18_2).f3))) = w84 at n0_ n1_ n2_ ⊢
               have BK159 := n0_
               have BK162 := n1_
               have HB := n2_
               clear n0_ n1_ n2_
               replace BK159 := Aside0.mk (blk_drew BK159.out)
               replace BK162 := Aside0.mk (blk_drew BK162.out)
               replace HB := Aside0.mk (below_drew1 HB.out)
               refine start_ (n := 51) (S := fun w' => w'.cell? ⟨gb162, 0, none⟩ = some (.int .i64 ((rd_T47 l0_1 x18_2).f0)) ∧ w'.cell? ⟨gb162, 1, none⟩ = some (.int .i64 ((rd_T47 l0_1 x18_2).f1)) ∧ w'.cell? ⟨gb162, 2, none⟩ = some (.int .i64 ((rd_T47 l0_1 x18_2).f2)) ∧ w'.cell? ⟨gb162, 3, none⟩ = some (.int .i64 ((rd_T47 l0_1 x18_2).f3)) ∧ w'.cell? ⟨gb159, 0, none⟩ = some (.int .i64 a0_0) ∧ w'.cell? ⟨gb159, 1, none⟩ = some (.slice (some ad161) l0_1.length c0_1)) (ds := []) #[false, false, false, false, false, false, false, false, false, false, false, false, false, false, false, false, false, false, false, false, false, false, false, false, false, false, false, false, false, false, false, false, false, false, false, false, false, false, false, false, false, false, false, false, false, false, false, false, false, false, false] (by kernel_rfl) rfl rfl ⟨cz BK162 0 _, cz BK162 1 _, cz BK162 2 _, cz BK162 3 _, cz BK159 0 _, cz BK159 1 _⟩ (fun hHeld => ?_); refine with_tabW spec_GoodClock.tab6 spec_GoodClock.bits6 (fun HT_ HW_ => ?_)
               generalize w84.drew = w85 at BK159 BK162 HB hHeld ⊢
               refine pureA 0 23 (bz 51 1) rfl rfl (any_of HT_.out (by kernel_rfl)) ?_
               refine takeA 1 24 (bz 51 3) rfl rfl (take_ofW HT_.out HW_.out (by kernel_rfl)) hHeld (by rintro w' ⟨s0, s1, s2, s3, s4, s5⟩; go_simp; with_reducible rfl) ?_
               refine one_ (i := 2) (N := some 25) (bz 51 7) rfl rfl (one_of HT_.out (by kernel_rfl)) (by decide) (fun K hK => ?_)
               refine goes_ Try.func18 (by kernel_rfl) rfl #[.int .i64 ((rd_T47 l0_1 x18_2).f0), .int .i64 0, .int .i64 999] (by rfl) rfl rfl aE ?_
               with_reducible refine (spec_l1In.calls ((rd_T47 l0_1 x18_2).f0) 0 999 true _ A13.out).mono ?_
               rintro e w' ⟨rfl, ⟨nd, rfl⟩⟩
               refine ⟨_, rfl, ?_⟩
               refine hK.out _ _ ⟨cz BK162 0 _, cz BK162 1 _, cz BK162 2 _, cz BK162 3 _, cz BK159 0 _, cz BK159 1 _⟩ (fun hHeld => ?_)
               clear hK K
               refine norm_ (a' := ?_) ?_ ?_
               rotate_left
               ·show Act.put _ (some 25) _ = _
                simp only [Act.put, List.setIfInBounds_toArray, List.set_cons_zero, List.set_cons_succ, i64_w, i32_w]
                rfl
               refine pureA 3 26 (bz 51 15) rfl rfl (any_of HT_.out (by kernel_rfl)) ?_
               refine pureA 4 27 (bz 51 31) rfl rfl (any_of HT_.out (by kernel_rfl)) ?_
               refine pureA 5 28 (bz 51 63) rfl rfl (any_of HT_.out (by kernel_rfl)) ?_
               refine pureA 6 29 (bz 51 127) rfl rfl (any_of HT_.out (by kernel_rfl)) ?_
               refine pureA 7 30 (bz 51 255) rfl rfl (any_of HT_.out (by kernel_rfl)) ?_
               refine pureU 8 31 (bz 51 511) rfl rfl (any_of HT_.out (by kernel_rfl)) ?_
               refine pureU 9 32 (bz 51 1023) rfl rfl (any_of HT_.out (by kernel_rfl)) ?_
               refine pureU 10 33 (bz 51 2047) rfl rfl (any_of HT_.out (by kernel_rfl)) ?_
               refine pureU 11 34 (bz 51 4095) rfl rfl (any_of HT_.out (by kernel_rfl)) ?_
               refine pureU 12 35 (bz 51 8191) rfl rfl (any_of HT_.out (by kernel_rfl)) ?_
               refine pureU 13 36 (bz 51 16383) rfl rfl (any_of HT_.out (by kernel_rfl)) ?_
               refine pureU 14 37 (bz 51 32767) rfl rfl (any_of HT_.out (by kernel_rfl)) ?_
               refine pureU 15 38 (bz 51 65535) rfl rfl (any_of HT_.out (by kernel_rfl)) ?_
               refine pureU 16 39 (bz 51 131071) rfl rfl (any_of HT_.out (by kernel_rfl)) ?_
               refine pureU 17 40 (bz 51 262143) rfl rfl (any_of HT_.out (by kernel_rfl)) ?_
               refine pureA 18 41 (bz 51 524287) rfl rfl (any_of HT_.out (by kernel_rfl)) ?_
               refine pureA 19 42 (bz 51 1048575) rfl rfl (any_of HT_.out (by kernel_rfl)) ?_
               refine pureA 20 43 (bz 51 2097151) rfl rfl (any_of HT_.out (by kernel_rfl)) ?_
               refine pureA 21 44 (bz 51 4194303) rfl rfl (any_of HT_.out (by kernel_rfl)) ?_
               refine pureA 23 46 (bz 51 12582911) rfl rfl (any_of HT_.out (by kernel_rfl)) ?_
               refine takeA 22 45 (bz 51 16777215) rfl rfl (take_ofW HT_.out HW_.out (by kernel_rfl)) hHeld (by rintro w' ⟨s0, s1, s2, s3, s4, s5⟩; go_simp; with_reducible rfl) ?_
               refine takeA 24 47 (bz 51 33554431) rfl rfl (take_ofW HT_.out HW_.out (by kernel_rfl)) hHeld (by rintro w' ⟨s0, s1, s2, s3, s4, s5⟩; go_simp; with_reducible rfl) ?_
               refine pureA 25 48 (bz 51 67108863) rfl rfl (any_of HT_.out (by kernel_rfl)) ?_
               refine one_ (i := 26) (N := some 49) (bz 51 134217727) rfl rfl (one_of HT_.out (by kernel_rfl)) (by decide) (fun K hK => ?_)
               refine goes_ Try.func18 (by kernel_rfl) rfl #[.int .i64 ((rd_T47 l0_1 x18_2).f1), .int .i64 (wrap64 (a0_0 + 1)), .int .i64 200000] (by rfl) rfl rfl aE ?_
               with_reducible refine (spec_l1In.calls ((rd_T47 l0_1 x18_2).f1) (wrap64 (a0_0 + 1)) 200000 true _ A63.out).mono ?_
               rintro e w' ⟨rfl, ⟨nd, rfl⟩⟩
               refine ⟨_, rfl, ?_⟩
               refine hK.out _ _ ⟨cz BK162 0 _, cz BK162 1 _, cz BK162 2 _, cz BK162 3 _, cz BK159 0 _, cz BK159 1 _⟩ (fun hHeld => ?_)
               clear hK K
               refine norm_ (a' := ?_) ?_ ?_
               rotate_left
               ·show Act.put _ (some 49) _ = _
                simp only [Act.put, List.setIfInBounds_toArray, List.set_cons_zero, List.set_cons_succ, i64_w, i32_w]
                rfl
               refine pureA 27 50 (bz 51 268435455) rfl rfl (any_of HT_.out (by kernel_rfl)) ?_
               refine pureA 28 51 (bz 51 536870911) rfl rfl (any_of HT_.out (by kernel_rfl)) ?_
               refine pureA 29 52 (bz 51 1073741823) rfl rfl (any_of HT_.out (by kernel_rfl)) ?_
               refine pureA 30 53 (bz 51 2147483647) rfl rfl (any_of HT_.out (by kernel_rfl)) ?_
               refine takeA 31 54 (bz 51 4294967295) rfl rfl (take_ofW HT_.out HW_.out (by kernel_rfl)) hHeld (by rintro w' ⟨s0, s1, s2, s3, s4, s5⟩; go_simp; with_reducible rfl) ?_
               refine one_ (i := 32) (N := some 55) (bz 51 8589934591) rfl rfl (one_of HT_.out (by kernel_rfl)) (by decide) (fun K hK => ?_)
               refine goes_ Try.func18 (by kernel_rfl) rfl #[.int .i64 ((rd_T47 l0_1 x18_2).f2), .int .i64 0, .int .i64 100000] (by rfl) rfl rfl aE ?_
               with_reducible refine (spec_l1In.calls ((rd_T47 l0_1 x18_2).f2) 0 100000 true _ A65.out).mono ?_
               rintro e w' ⟨rfl, ⟨nd, rfl⟩⟩
               refine ⟨_, rfl, ?_⟩
               refine hK.out _ _ ⟨cz BK162 0 _, cz BK162 1 _, cz BK162 2 _, cz BK162 3 _, cz BK159 0 _, cz BK159 1 _⟩ (fun hHeld => ?_)
               clear hK K
               refine norm_ (a' := ?_) ?_ ?_
               rotate_left
               ·show Act.put _ (some 55) _ = _
                simp only [Act.put, List.setIfInBounds_toArray, List.set_cons_zero, List.set_cons_succ, i64_w, i32_w]
                rfl
               refine pureA 33 56 (bz 51 17179869183) rfl rfl (any_of HT_.out (by kernel_rfl)) ?_
               refine pureA 34 57 (bz 51 34359738367) rfl rfl (any_of HT_.out (by kernel_rfl)) ?_
               refine pureA 35 58 (bz 51 68719476735) rfl rfl (any_of HT_.out (by kernel_rfl)) ?_
               refine pureA 36 59 (bz 51 137438953471) rfl rfl (any_of HT_.out (by kernel_rfl)) ?_
               refine takeA 37 60 (bz 51 274877906943) rfl rfl (take_ofW HT_.out HW_.out (by kernel_rfl)) hHeld (by rintro w' ⟨s0, s1, s2, s3, s4, s5⟩; go_simp; with_reducible rfl) ?_
               refine one_ (i := 38) (N := some 61) (bz 51 549755813887) rfl rfl (one_of HT_.out (by kernel_rfl)) (by decide) (fun K hK => ?_)
               refine goes_ Try.func18 (by kernel_rfl) rfl #[.int .i64 ((rd_T47 l0_1 x18_2).f3), .int .i64 1, .int .i64 1000] (by rfl) rfl rfl aE ?_
               with_reducible refine (spec_l1In.calls ((rd_T47 l0_1 x18_2).f3) 1 1000 true _ A67.out).mono ?_
               rintro e w' ⟨rfl, ⟨nd, rfl⟩⟩
               refine ⟨_, rfl, ?_⟩
               refine hK.out _ _ ⟨cz BK162 0 _, cz BK162 1 _, cz BK162 2 _, cz BK162 3 _, cz BK159 0 _, cz BK159 1 _⟩ (fun hHeld => ?_)
               clear hK K
               refine norm_ (a' := ?_) ?_ ?_
               rotate_left
               ·show Act.put _ (some 61) _ = _
                simp only [Act.put, List.setIfInBounds_toArray, List.set_cons_zero, List.set_cons_succ, i64_w, i32_w]
                rfl
               refine pureA 39 62 (bz 51 1099511627775) rfl rfl (any_of HT_.out (by kernel_rfl)) ?_
               refine pureA 40 63 (bz 51 2199023255551) rfl rfl (any_of HT_.out (by kernel_rfl)) ?_
               refine pureA 41 64 (bz 51 4398046511103) rfl rfl (any_of HT_.out (by kernel_rfl)) ?_
               refine pureA 42 65 (bz 51 8796093022207) rfl rfl (any_of HT_.out (by kernel_rfl)) ?_
               refine takeA 43 66 (bz 51 17592186044415) rfl rfl (take_ofW HT_.out HW_.out (by kernel_rfl)) hHeld (by rintro w' ⟨s0, s1, s2, s3, s4, s5⟩; go_simp; with_reducible rfl) ?_
               refine pureA 44 67 (bz 51 35184372088831) rfl rfl (any_of HT_.out (by kernel_rfl)) ?_
               refine pureA 45 68 (bz 51 70368744177663) rfl rfl (any_of HT_.out (by kernel_rfl)) ?_
               refine pureU 46 69 (bz 51 140737488355327) rfl rfl (any_of HT_.out (by kernel_rfl)) ?_
               refine pureU 47 70 (bz 51 281474976710655) rfl rfl (any_of HT_.out (by kernel_rfl)) ?_
               refine pureU 48 71 (bz 51 562949953421311) rfl rfl (any_of HT_.out (by kernel_rfl)) ?_
               refine pureA 49 72 (bz 51 1125899906842623) rfl rfl (any_of HT_.out (by kernel_rfl)) ?_
               refine pureA 50 73 (bz 51 2251799813685247) rfl rfl (any_of HT_.out (by kernel_rfl)) ?_
               refine done_ (done_of HT_.out (by kernel_rfl)) ?_
               try go_wp2
               go_roundg k2
               case measure => have := HJ1.out; have := HK2.out; omega
               case rel => exact ⟨(wrap64 (x18_2 + 1)), tE, H', ⟨by have := HJ1.out; have := HK2.out; omega⟩, ⟨by refine bU ?_; exact BK159.out⟩, ⟨by repeat (first | (with_reducible first | exact HB.out | apply below_alloc | apply pw_below_drewN | apply below_drew1 | refine below_set ?_ GE159.out | refine below_set ?_ GE162.out) | exact HB.out)⟩⟩
             ·replace c68 := Bool.eq_false_iff.mpr c68
              subst c68
              have H1 : (some false) = some r := by rw [if_neg (show ¬ (false = true) by decide)] at H; exact H
              clear H
              have H := H1
              clear H1
              obtain rfl := Option.some.inj H
              have p161 : 0 ≤ (x18_2 : Int) := of_decide_eq_true hE
              have q161 : x18_2 < (l0_1.length : Int) := of_decide_eq_true hE
              obtain ⟨ad161, e161, hx161_0, hx161_1, hx161_2, hx161_3⟩ := at_T47 HR0_1.out x18_2 p161 q161
              cases e161
              replace hx161_0 := (HB.out.cell (World.block_lt_of_cell? w _ hx161_0)).trans hx161_0
              replace hx161_1 := (HB.out.cell (World.block_lt_of_cell? w _ hx161_1)).trans hx161_1
              replace hx161_2 := (HB.out.cell (World.block_lt_of_cell? w _ hx161_2)).trans hx161_2
              replace hx161_3 := (HB.out.cell (World.block_lt_of_cell? w _ hx161_3)).trans hx161_3
              replace p161 := eq_true p161
              replace q161 := eq_true q161
              try go_wp2_with (first | ((with_reducible refine gate_dst (N := 4) rfl ?_); (try (refine gate_guard (by rfl) ?_; dsimp only)); refine box_event rfl (N := 4) rfl (cs := #[.int .i64 0, .int .i64 0, .int .i64 0, .int .i64 0]) (t := 47) sE ?_; intro gb162 hg w86 hbox hb; have BK162 := Aside0.mk hbox; have GW162 := gS w hg (lV1 GE159); have GE162 := gS w hg (lV1 GE159); replace HB := bH (lV1 GE159) hb; have NB159_162 := nL hg (bV BK159); have NB162_159 := nG hg (bV BK159); replace BK159 := bB (bV BK159) hb; clear hb hbox hg; have hnb87 := NB162_159.out; have hnc87 := NB159_162.out; have hcz88_0 := cz BK162 0 (.int .i64 0); have hcz88_1 := cz BK162 1 (.int .i64 0); have hcz88_2 := cz BK162 2 (.int .i64 0); have hcz88_3 := cz BK162 3 (.int .i64 0); have hfz88_0 := fz BK162 0; have hfz88_1 := fz BK162 1; have hfz88_2 := fz BK162 2; have hfz88_3 := fz BK162 3))
              have n0_ : Aside0 (((((w86.setCell ⟨gb162, 0, none⟩ (.int .i64 ((rd_T47 l0_1 x18_2).f0))).setCell ⟨gb162, 1, none⟩ (.int .i64 ((rd_T47 l0_1 x18_2).f1))).setCell ⟨gb162, 2, none⟩ (.int .i64 ((rd_T47 l0_1 x18_2).f2))).setCell ⟨gb162, 3, none⟩ (.int .i64 ((rd_T47 l0_1 x18_2).f3))).heap[gb159]? = some (.cells #[.int .i64 a0_0, .slice (some ad161) l0_1.length c0_1] 25 (0, 0))) := ⟨by refine bU ?_; refine blk_far ?_ NB159_162.out _; refine bU ?_; refine blk_far ?_ NB159_162.out _; refine bU ?_; refine blk_far ?_ NB159_162.out _; refine bU ?_; refine blk_far ?_ NB159_162.out _; refine bU ?_; exact BK159.out⟩
              have n1_ : Aside0 (((((w86.setCell ⟨gb162, 0, none⟩ (.int .i64 ((rd_T47 l0_1 x18_2).f0))).setCell ⟨gb162, 1, none⟩ (.int .i64 ((rd_T47 l0_1 x18_2).f1))).setCell ⟨gb162, 2, none⟩ (.int .i64 ((rd_T47 l0_1 x18_2).f2))).setCell ⟨gb162, 3, none⟩ (.int .i64 ((rd_T47 l0_1 x18_2).f3))).heap[gb162]? = some (.cells #[.int .i64 ((rd_T47 l0_1 x18_2).f0), .int .i64 ((rd_T47 l0_1 x18_2).f1), .int .i64 ((rd_T47 l0_1 x18_2).f2), .int .i64 ((rd_T47 l0_1 x18_2).f3)] 47 (0, 0))) := ⟨by refine bU ?_; refine blk_put (cs := #[.int .i64 ((rd_T47 l0_1 x18_2).f0), .int .i64 ((rd_T47 l0_1 x18_2).f1), .int .i64 ((rd_T47 l0_1 x18_2).f2), .int .i64 0]) ?_ 3 _ rfl; refine bU ?_; refine blk_put (cs := #[.int .i64 ((rd_T47 l0_1 x18_2).f0), .int .i64 ((rd_T47 l0_1 x18_2).f1), .int .i64 0, .int .i64 0]) ?_ 2 _ rfl; refine bU ?_; refine blk_put (cs := #[.int .i64 ((rd_T47 l0_1 x18_2).f0), .int .i64 0, .int .i64 0, .int .i64 0]) ?_ 1 _ rfl; refine bU ?_; refine blk_put (cs := #[.int .i64 0, .int .i64 0, .int .i64 0, .int .i64 0]) ?_ 0 _ rfl; refine bU ?_; exact BK162.out⟩
              have n2_ : Aside0 (Below w.heap.size w ((((w86.setCell ⟨gb162, 0, none⟩ (.int .i64 ((rd_T47 l0_1 x18_2).f0))).setCell ⟨gb162, 1, none⟩ (.int .i64 ((rd_T47 l0_1 x18_2).f1))).setCell ⟨gb162, 2, none⟩ (.int .i64 ((rd_T47 l0_1 x18_2).f2))).setCell ⟨gb162, 3, none⟩ (.int .i64 ((rd_T47 l0_1 x18_2).f3)))) := ⟨by repeat (first | (with_reducible first | exact HB.out | apply below_alloc | apply pw_below_drewN | apply below_drew1 | refine below_set ?_ GE159.out | refine below_set ?_ GE162.out) | exact HB.out)⟩
              (try clear BK159)
              (try clear BK162)
              (try clear HB)
              generalize ((((w86.setCell ⟨gb162, 0, none⟩ (.int .i64 ((rd_T47 l0_1 x18_2).f0))).setCell ⟨gb162, 1, none⟩ (.int .i64 ((rd_T47 l0_1 x18_2).f1))).setCell ⟨gb162, 2, none⟩ (.int .i64 ((rd_T47 l0_1 x18_2).f2))).setCell ⟨gb162, 3, none⟩ (.int .i64 ((rd_T47 l0_1 x18_2).f3))) = w89 at n0_ n1_ n2_ ⊢
              have BK159 := n0_
              have BK162 := n1_
              have HB := n2_
              clear n0_ n1_ n2_
              replace BK159 := Aside0.mk (blk_drew BK159.out)
              replace BK162 := Aside0.mk (blk_drew BK162.out)
              replace HB := Aside0.mk (below_drew1 HB.out)
              refine start_ (n := 51) (S := fun w' => w'.cell? ⟨gb162, 0, none⟩ = some (.int .i64 ((rd_T47 l0_1 x18_2).f0)) ∧ w'.cell? ⟨gb162, 1, none⟩ = some (.int .i64 ((rd_T47 l0_1 x18_2).f1)) ∧ w'.cell? ⟨gb162, 2, none⟩ = some (.int .i64 ((rd_T47 l0_1 x18_2).f2)) ∧ w'.cell? ⟨gb162, 3, none⟩ = some (.int .i64 ((rd_T47 l0_1 x18_2).f3)) ∧ w'.cell? ⟨gb159, 0, none⟩ = some (.int .i64 a0_0) ∧ w'.cell? ⟨gb159, 1, none⟩ = some (.slice (some ad161) l0_1.length c0_1)) (ds := []) #[false, false, false, false, false, false, false, false, false, false, false, false, false, false, false, false, false, false, false, false, false, false, false, false, false, false, false, false, false, false, false, false, false, false, false, false, false, false, false, false, false, false, false, false, false, false, false, false, false, false, false] (by kernel_rfl) rfl rfl ⟨cz BK162 0 _, cz BK162 1 _, cz BK162 2 _, cz BK162 3 _, cz BK159 0 _, cz BK159 1 _⟩ (fun hHeld => ?_); refine with_tabW spec_GoodClock.tab6 spec_GoodClock.bits6 (fun HT_ HW_ => ?_)
              generalize w89.drew = w90 at BK159 BK162 HB hHeld ⊢
              refine pureA 0 23 (bz 51 1) rfl rfl (any_of HT_.out (by kernel_rfl)) ?_
              refine takeA 1 24 (bz 51 3) rfl rfl (take_ofW HT_.out HW_.out (by kernel_rfl)) hHeld (by rintro w' ⟨s0, s1, s2, s3, s4, s5⟩; go_simp; with_reducible rfl) ?_
              refine one_ (i := 2) (N := some 25) (bz 51 7) rfl rfl (one_of HT_.out (by kernel_rfl)) (by decide) (fun K hK => ?_)
              refine goes_ Try.func18 (by kernel_rfl) rfl #[.int .i64 ((rd_T47 l0_1 x18_2).f0), .int .i64 0, .int .i64 999] (by rfl) rfl rfl aE ?_
              with_reducible refine (spec_l1In.calls ((rd_T47 l0_1 x18_2).f0) 0 999 true _ A13.out).mono ?_
              rintro e w' ⟨rfl, ⟨nd, rfl⟩⟩
              refine ⟨_, rfl, ?_⟩
              refine hK.out _ _ ⟨cz BK162 0 _, cz BK162 1 _, cz BK162 2 _, cz BK162 3 _, cz BK159 0 _, cz BK159 1 _⟩ (fun hHeld => ?_)
              clear hK K
              refine norm_ (a' := ?_) ?_ ?_
              rotate_left
              ·show Act.put _ (some 25) _ = _
               simp only [Act.put, List.setIfInBounds_toArray, List.set_cons_zero, List.set_cons_succ, i64_w, i32_w]
               rfl
              refine pureA 3 26 (bz 51 15) rfl rfl (any_of HT_.out (by kernel_rfl)) ?_
              refine pureA 4 27 (bz 51 31) rfl rfl (any_of HT_.out (by kernel_rfl)) ?_
              refine pureA 5 28 (bz 51 63) rfl rfl (any_of HT_.out (by kernel_rfl)) ?_
              refine pureA 6 29 (bz 51 127) rfl rfl (any_of HT_.out (by kernel_rfl)) ?_
              refine pureA 7 30 (bz 51 255) rfl rfl (any_of HT_.out (by kernel_rfl)) ?_
              refine pureU 8 31 (bz 51 511) rfl rfl (any_of HT_.out (by kernel_rfl)) ?_
              refine pureU 9 32 (bz 51 1023) rfl rfl (any_of HT_.out (by kernel_rfl)) ?_
              refine pureU 10 33 (bz 51 2047) rfl rfl (any_of HT_.out (by kernel_rfl)) ?_
              refine pureU 11 34 (bz 51 4095) rfl rfl (any_of HT_.out (by kernel_rfl)) ?_
              refine pureU 12 35 (bz 51 8191) rfl rfl (any_of HT_.out (by kernel_rfl)) ?_
              refine pureU 13 36 (bz 51 16383) rfl rfl (any_of HT_.out (by kernel_rfl)) ?_
              refine pureU 14 37 (bz 51 32767) rfl rfl (any_of HT_.out (by kernel_rfl)) ?_
              refine pureU 15 38 (bz 51 65535) rfl rfl (any_of HT_.out (by kernel_rfl)) ?_
              refine pureU 16 39 (bz 51 131071) rfl rfl (any_of HT_.out (by kernel_rfl)) ?_
              refine pureU 17 40 (bz 51 262143) rfl rfl (any_of HT_.out (by kernel_rfl)) ?_
              refine pureA 18 41 (bz 51 524287) rfl rfl (any_of HT_.out (by kernel_rfl)) ?_
              refine pureA 19 42 (bz 51 1048575) rfl rfl (any_of HT_.out (by kernel_rfl)) ?_
              refine pureA 20 43 (bz 51 2097151) rfl rfl (any_of HT_.out (by kernel_rfl)) ?_
              refine pureA 21 44 (bz 51 4194303) rfl rfl (any_of HT_.out (by kernel_rfl)) ?_
              refine pureA 23 46 (bz 51 12582911) rfl rfl (any_of HT_.out (by kernel_rfl)) ?_
              refine takeA 22 45 (bz 51 16777215) rfl rfl (take_ofW HT_.out HW_.out (by kernel_rfl)) hHeld (by rintro w' ⟨s0, s1, s2, s3, s4, s5⟩; go_simp; with_reducible rfl) ?_
              refine takeA 24 47 (bz 51 33554431) rfl rfl (take_ofW HT_.out HW_.out (by kernel_rfl)) hHeld (by rintro w' ⟨s0, s1, s2, s3, s4, s5⟩; go_simp; with_reducible rfl) ?_
              refine pureA 25 48 (bz 51 67108863) rfl rfl (any_of HT_.out (by kernel_rfl)) ?_
              refine one_ (i := 26) (N := some 49) (bz 51 134217727) rfl rfl (one_of HT_.out (by kernel_rfl)) (by decide) (fun K hK => ?_)
              refine goes_ Try.func18 (by kernel_rfl) rfl #[.int .i64 ((rd_T47 l0_1 x18_2).f1), .int .i64 (wrap64 (a0_0 + 1)), .int .i64 200000] (by rfl) rfl rfl aE ?_
              with_reducible refine (spec_l1In.calls ((rd_T47 l0_1 x18_2).f1) (wrap64 (a0_0 + 1)) 200000 true _ A63.out).mono ?_
              rintro e w' ⟨rfl, ⟨nd, rfl⟩⟩
              refine ⟨_, rfl, ?_⟩
              refine hK.out _ _ ⟨cz BK162 0 _, cz BK162 1 _, cz BK162 2 _, cz BK162 3 _, cz BK159 0 _, cz BK159 1 _⟩ (fun hHeld => ?_)
              clear hK K
              refine norm_ (a' := ?_) ?_ ?_
              rotate_left
              ·show Act.put _ (some 49) _ = _
               simp only [Act.put, List.setIfInBounds_toArray, List.set_cons_zero, List.set_cons_succ, i64_w, i32_w]
               rfl
              refine pureA 27 50 (bz 51 268435455) rfl rfl (any_of HT_.out (by kernel_rfl)) ?_
              refine pureA 28 51 (bz 51 536870911) rfl rfl (any_of HT_.out (by kernel_rfl)) ?_
              refine pureA 29 52 (bz 51 1073741823) rfl rfl (any_of HT_.out (by kernel_rfl)) ?_
              refine pureA 30 53 (bz 51 2147483647) rfl rfl (any_of HT_.out (by kernel_rfl)) ?_
              refine takeA 31 54 (bz 51 4294967295) rfl rfl (take_ofW HT_.out HW_.out (by kernel_rfl)) hHeld (by rintro w' ⟨s0, s1, s2, s3, s4, s5⟩; go_simp; with_reducible rfl) ?_
              refine one_ (i := 32) (N := some 55) (bz 51 8589934591) rfl rfl (one_of HT_.out (by kernel_rfl)) (by decide) (fun K hK => ?_)
              refine goes_ Try.func18 (by kernel_rfl) rfl #[.int .i64 ((rd_T47 l0_1 x18_2).f2), .int .i64 0, .int .i64 100000] (by rfl) rfl rfl aE ?_
              with_reducible refine (spec_l1In.calls ((rd_T47 l0_1 x18_2).f2) 0 100000 true _ A65.out).mono ?_
              rintro e w' ⟨rfl, ⟨nd, rfl⟩⟩
              refine ⟨_, rfl, ?_⟩
              refine hK.out _ _ ⟨cz BK162 0 _, cz BK162 1 _, cz BK162 2 _, cz BK162 3 _, cz BK159 0 _, cz BK159 1 _⟩ (fun hHeld => ?_)
              clear hK K
              refine norm_ (a' := ?_) ?_ ?_
              rotate_left
              ·show Act.put _ (some 55) _ = _
               simp only [Act.put, List.setIfInBounds_toArray, List.set_cons_zero, List.set_cons_succ, i64_w, i32_w]
               rfl
              refine pureA 33 56 (bz 51 17179869183) rfl rfl (any_of HT_.out (by kernel_rfl)) ?_
              refine pureA 34 57 (bz 51 34359738367) rfl rfl (any_of HT_.out (by kernel_rfl)) ?_
              refine pureA 35 58 (bz 51 68719476735) rfl rfl (any_of HT_.out (by kernel_rfl)) ?_
              refine pureA 36 59 (bz 51 137438953471) rfl rfl (any_of HT_.out (by kernel_rfl)) ?_
              refine takeA 37 60 (bz 51 274877906943) rfl rfl (take_ofW HT_.out HW_.out (by kernel_rfl)) hHeld (by rintro w' ⟨s0, s1, s2, s3, s4, s5⟩; go_simp; with_reducible rfl) ?_
              refine one_ (i := 38) (N := some 61) (bz 51 549755813887) rfl rfl (one_of HT_.out (by kernel_rfl)) (by decide) (fun K hK => ?_)
              refine goes_ Try.func18 (by kernel_rfl) rfl #[.int .i64 ((rd_T47 l0_1 x18_2).f3), .int .i64 1, .int .i64 1000] (by rfl) rfl rfl aE ?_
              with_reducible refine (spec_l1In.calls ((rd_T47 l0_1 x18_2).f3) 1 1000 false _ A67.out).mono ?_
              rintro e w' ⟨rfl, ⟨nd, rfl⟩⟩
              refine ⟨_, rfl, ?_⟩
              refine hK.out _ _ ⟨cz BK162 0 _, cz BK162 1 _, cz BK162 2 _, cz BK162 3 _, cz BK159 0 _, cz BK159 1 _⟩ (fun hHeld => ?_)
              clear hK K
              refine norm_ (a' := ?_) ?_ ?_
              rotate_left
              ·show Act.put _ (some 61) _ = _
               simp only [Act.put, List.setIfInBounds_toArray, List.set_cons_zero, List.set_cons_succ, i64_w, i32_w]
               rfl
              refine pureA 39 62 (bz 51 1099511627775) rfl rfl (any_of HT_.out (by kernel_rfl)) ?_
              refine pureA 40 63 (bz 51 2199023255551) rfl rfl (any_of HT_.out (by kernel_rfl)) ?_
              refine pureA 41 64 (bz 51 4398046511103) rfl rfl (any_of HT_.out (by kernel_rfl)) ?_
              refine pureU 42 65 (bz 51 8796093022207) rfl rfl (any_of HT_.out (by kernel_rfl)) ?_
              refine pureU 43 66 (bz 51 17592186044415) rfl rfl (any_of HT_.out (by kernel_rfl)) ?_
              refine pureU 44 67 (bz 51 35184372088831) rfl rfl (any_of HT_.out (by kernel_rfl)) ?_
              refine pureU 45 68 (bz 51 70368744177663) rfl rfl (any_of HT_.out (by kernel_rfl)) ?_
              refine pureU 46 69 (bz 51 140737488355327) rfl rfl (any_of HT_.out (by kernel_rfl)) ?_
              refine pureU 47 70 (bz 51 281474976710655) rfl rfl (any_of HT_.out (by kernel_rfl)) ?_
              refine pureU 48 71 (bz 51 562949953421311) rfl rfl (any_of HT_.out (by kernel_rfl)) ?_
              refine pureU 49 72 (bz 51 1125899906842623) rfl rfl (any_of HT_.out (by kernel_rfl)) ?_
              refine pureA 50 73 (bz 51 2251799813685247) rfl rfl (any_of HT_.out (by kernel_rfl)) ?_
              refine done_ (done_of HT_.out (by kernel_rfl)) ?_
              try go_wp2
              go_ret
              exact ⟨eE, lV2 GE159 GE162⟩
            ·replace c66 := Bool.eq_false_iff.mpr c66
             subst c66
             have H1 : (some false) = some r := by rw [if_neg (show ¬ (false = true) by decide)] at H; exact H
             clear H
             have H := H1
             clear H1
             obtain rfl := Option.some.inj H
             have p161 : 0 ≤ (x18_2 : Int) := of_decide_eq_true hE
             have q161 : x18_2 < (l0_1.length : Int) := of_decide_eq_true hE
             obtain ⟨ad161, e161, hx161_0, hx161_1, hx161_2, hx161_3⟩ := at_T47 HR0_1.out x18_2 p161 q161
             cases e161
             replace hx161_0 := (HB.out.cell (World.block_lt_of_cell? w _ hx161_0)).trans hx161_0
             replace hx161_1 := (HB.out.cell (World.block_lt_of_cell? w _ hx161_1)).trans hx161_1
             replace hx161_2 := (HB.out.cell (World.block_lt_of_cell? w _ hx161_2)).trans hx161_2
             replace hx161_3 := (HB.out.cell (World.block_lt_of_cell? w _ hx161_3)).trans hx161_3
             replace p161 := eq_true p161
             replace q161 := eq_true q161
             try go_wp2_with (first | ((with_reducible refine gate_dst (N := 4) rfl ?_); (try (refine gate_guard (by rfl) ?_; dsimp only)); refine box_event rfl (N := 4) rfl (cs := #[.int .i64 0, .int .i64 0, .int .i64 0, .int .i64 0]) (t := 47) sE ?_; intro gb162 hg w91 hbox hb; have BK162 := Aside0.mk hbox; have GW162 := gS w hg (lV1 GE159); have GE162 := gS w hg (lV1 GE159); replace HB := bH (lV1 GE159) hb; have NB159_162 := nL hg (bV BK159); have NB162_159 := nG hg (bV BK159); replace BK159 := bB (bV BK159) hb; clear hb hbox hg; have hnb92 := NB162_159.out; have hnc92 := NB159_162.out; have hcz93_0 := cz BK162 0 (.int .i64 0); have hcz93_1 := cz BK162 1 (.int .i64 0); have hcz93_2 := cz BK162 2 (.int .i64 0); have hcz93_3 := cz BK162 3 (.int .i64 0); have hfz93_0 := fz BK162 0; have hfz93_1 := fz BK162 1; have hfz93_2 := fz BK162 2; have hfz93_3 := fz BK162 3))
             have n0_ : Aside0 (((((w91.setCell ⟨gb162, 0, none⟩ (.int .i64 ((rd_T47 l0_1 x18_2).f0))).setCell ⟨gb162, 1, none⟩ (.int .i64 ((rd_T47 l0_1 x18_2).f1))).setCell ⟨gb162, 2, none⟩ (.int .i64 ((rd_T47 l0_1 x18_2).f2))).setCell ⟨gb162, 3, none⟩ (.int .i64 ((rd_T47 l0_1 x18_2).f3))).heap[gb159]? = some (.cells #[.int .i64 a0_0, .slice (some ad161) l0_1.length c0_1] 25 (0, 0))) := ⟨by refine bU ?_; refine blk_far ?_ NB159_162.out _; refine bU ?_; refine blk_far ?_ NB159_162.out _; refine bU ?_; refine blk_far ?_ NB159_162.out _; refine bU ?_; refine blk_far ?_ NB159_162.out _; refine bU ?_; exact BK159.out⟩
             have n1_ : Aside0 (((((w91.setCell ⟨gb162, 0, none⟩ (.int .i64 ((rd_T47 l0_1 x18_2).f0))).setCell ⟨gb162, 1, none⟩ (.int .i64 ((rd_T47 l0_1 x18_2).f1))).setCell ⟨gb162, 2, none⟩ (.int .i64 ((rd_T47 l0_1 x18_2).f2))).setCell ⟨gb162, 3, none⟩ (.int .i64 ((rd_T47 l0_1 x18_2).f3))).heap[gb162]? = some (.cells #[.int .i64 ((rd_T47 l0_1 x18_2).f0), .int .i64 ((rd_T47 l0_1 x18_2).f1), .int .i64 ((rd_T47 l0_1 x18_2).f2), .int .i64 ((rd_T47 l0_1 x18_2).f3)] 47 (0, 0))) := ⟨by refine bU ?_; refine blk_put (cs := #[.int .i64 ((rd_T47 l0_1 x18_2).f0), .int .i64 ((rd_T47 l0_1 x18_2).f1), .int .i64 ((rd_T47 l0_1 x18_2).f2), .int .i64 0]) ?_ 3 _ rfl; refine bU ?_; refine blk_put (cs := #[.int .i64 ((rd_T47 l0_1 x18_2).f0), .int .i64 ((rd_T47 l0_1 x18_2).f1), .int .i64 0, .int .i64 0]) ?_ 2 _ rfl; refine bU ?_; refine blk_put (cs := #[.int .i64 ((rd_T47 l0_1 x18_2).f0), .int .i64 0, .int .i64 0, .int .i64 0]) ?_ 1 _ rfl; refine bU ?_; refine blk_put (cs := #[.int .i64 0, .int .i64 0, .int .i64 0, .int .i64 0]) ?_ 0 _ rfl; refine bU ?_; exact BK162.out⟩
             have n2_ : Aside0 (Below w.heap.size w ((((w91.setCell ⟨gb162, 0, none⟩ (.int .i64 ((rd_T47 l0_1 x18_2).f0))).setCell ⟨gb162, 1, none⟩ (.int .i64 ((rd_T47 l0_1 x18_2).f1))).setCell ⟨gb162, 2, none⟩ (.int .i64 ((rd_T47 l0_1 x18_2).f2))).setCell ⟨gb162, 3, none⟩ (.int .i64 ((rd_T47 l0_1 x18_2).f3)))) := ⟨by repeat (first | (with_reducible first | exact HB.out | apply below_alloc | apply pw_below_drewN | apply below_drew1 | refine below_set ?_ GE159.out | refine below_set ?_ GE162.out) | exact HB.out)⟩
             (try clear BK159)
             (try clear BK162)
             (try clear HB)
             generalize ((((w91.setCell ⟨gb162, 0, none⟩ (.int .i64 ((rd_T47 l0_1 x18_2).f0))).setCell ⟨gb162, 1, none⟩ (.int .i64 ((rd_T47 l0_1 x18_2).f1))).setCell ⟨gb162, 2, none⟩ (.int .i64 ((rd_T47 l0_1 x18_2).f2))).setCell ⟨gb162, 3, none⟩ (.int .i64 ((rd_T47 l0_1 x18_2).f3))) = w94 at n0_ n1_ n2_ ⊢
             have BK159 := n0_
             have BK162 := n1_
             have HB := n2_
             clear n0_ n1_ n2_
             replace BK159 := Aside0.mk (blk_drew BK159.out)
             replace BK162 := Aside0.mk (blk_drew BK162.out)
             replace HB := Aside0.mk (below_drew1 HB.out)
             refine start_ (n := 51) (S := fun w' => w'.cell? ⟨gb162, 0, none⟩ = some (.int .i64 ((rd_T47 l0_1 x18_2).f0)) ∧ w'.cell? ⟨gb162, 1, none⟩ = some (.int .i64 ((rd_T47 l0_1 x18_2).f1)) ∧ w'.cell? ⟨gb162, 2, none⟩ = some (.int .i64 ((rd_T47 l0_1 x18_2).f2)) ∧ w'.cell? ⟨gb162, 3, none⟩ = some (.int .i64 ((rd_T47 l0_1 x18_2).f3)) ∧ w'.cell? ⟨gb159, 0, none⟩ = some (.int .i64 a0_0) ∧ w'.cell? ⟨gb159, 1, none⟩ = some (.slice (some ad161) l0_1.length c0_1)) (ds := []) #[false, false, false, false, false, false, false, false, false, false, false, false, false, false, false, false, false, false, false, false, false, false, false, false, false, false, false, false, false, false, false, false, false, false, false, false, false, false, false, false, false, false, false, false, false, false, false, false, false, false, false] (by kernel_rfl) rfl rfl ⟨cz BK162 0 _, cz BK162 1 _, cz BK162 2 _, cz BK162 3 _, cz BK159 0 _, cz BK159 1 _⟩ (fun hHeld => ?_); refine with_tabW spec_GoodClock.tab6 spec_GoodClock.bits6 (fun HT_ HW_ => ?_)
             generalize w94.drew = w95 at BK159 BK162 HB hHeld ⊢
             refine pureA 0 23 (bz 51 1) rfl rfl (any_of HT_.out (by kernel_rfl)) ?_
             refine takeA 1 24 (bz 51 3) rfl rfl (take_ofW HT_.out HW_.out (by kernel_rfl)) hHeld (by rintro w' ⟨s0, s1, s2, s3, s4, s5⟩; go_simp; with_reducible rfl) ?_
             refine one_ (i := 2) (N := some 25) (bz 51 7) rfl rfl (one_of HT_.out (by kernel_rfl)) (by decide) (fun K hK => ?_)
             refine goes_ Try.func18 (by kernel_rfl) rfl #[.int .i64 ((rd_T47 l0_1 x18_2).f0), .int .i64 0, .int .i64 999] (by rfl) rfl rfl aE ?_
             with_reducible refine (spec_l1In.calls ((rd_T47 l0_1 x18_2).f0) 0 999 true _ A13.out).mono ?_
             rintro e w' ⟨rfl, ⟨nd, rfl⟩⟩
             refine ⟨_, rfl, ?_⟩
             refine hK.out _ _ ⟨cz BK162 0 _, cz BK162 1 _, cz BK162 2 _, cz BK162 3 _, cz BK159 0 _, cz BK159 1 _⟩ (fun hHeld => ?_)
             clear hK K
             refine norm_ (a' := ?_) ?_ ?_
             rotate_left
             ·show Act.put _ (some 25) _ = _
              simp only [Act.put, List.setIfInBounds_toArray, List.set_cons_zero, List.set_cons_succ, i64_w, i32_w]
              rfl
             refine pureA 3 26 (bz 51 15) rfl rfl (any_of HT_.out (by kernel_rfl)) ?_
             refine pureA 4 27 (bz 51 31) rfl rfl (any_of HT_.out (by kernel_rfl)) ?_
             refine pureA 5 28 (bz 51 63) rfl rfl (any_of HT_.out (by kernel_rfl)) ?_
             refine pureA 6 29 (bz 51 127) rfl rfl (any_of HT_.out (by kernel_rfl)) ?_
             refine pureA 7 30 (bz 51 255) rfl rfl (any_of HT_.out (by kernel_rfl)) ?_
             refine pureU 8 31 (bz 51 511) rfl rfl (any_of HT_.out (by kernel_rfl)) ?_
             refine pureU 9 32 (bz 51 1023) rfl rfl (any_of HT_.out (by kernel_rfl)) ?_
             refine pureU 10 33 (bz 51 2047) rfl rfl (any_of HT_.out (by kernel_rfl)) ?_
             refine pureU 11 34 (bz 51 4095) rfl rfl (any_of HT_.out (by kernel_rfl)) ?_
             refine pureU 12 35 (bz 51 8191) rfl rfl (any_of HT_.out (by kernel_rfl)) ?_
             refine pureU 13 36 (bz 51 16383) rfl rfl (any_of HT_.out (by kernel_rfl)) ?_
             refine pureU 14 37 (bz 51 32767) rfl rfl (any_of HT_.out (by kernel_rfl)) ?_
             refine pureU 15 38 (bz 51 65535) rfl rfl (any_of HT_.out (by kernel_rfl)) ?_
             refine pureU 16 39 (bz 51 131071) rfl rfl (any_of HT_.out (by kernel_rfl)) ?_
             refine pureU 17 40 (bz 51 262143) rfl rfl (any_of HT_.out (by kernel_rfl)) ?_
             refine pureA 18 41 (bz 51 524287) rfl rfl (any_of HT_.out (by kernel_rfl)) ?_
             refine pureA 19 42 (bz 51 1048575) rfl rfl (any_of HT_.out (by kernel_rfl)) ?_
             refine pureA 20 43 (bz 51 2097151) rfl rfl (any_of HT_.out (by kernel_rfl)) ?_
             refine pureA 21 44 (bz 51 4194303) rfl rfl (any_of HT_.out (by kernel_rfl)) ?_
             refine pureA 23 46 (bz 51 12582911) rfl rfl (any_of HT_.out (by kernel_rfl)) ?_
             refine takeA 22 45 (bz 51 16777215) rfl rfl (take_ofW HT_.out HW_.out (by kernel_rfl)) hHeld (by rintro w' ⟨s0, s1, s2, s3, s4, s5⟩; go_simp; with_reducible rfl) ?_
             refine takeA 24 47 (bz 51 33554431) rfl rfl (take_ofW HT_.out HW_.out (by kernel_rfl)) hHeld (by rintro w' ⟨s0, s1, s2, s3, s4, s5⟩; go_simp; with_reducible rfl) ?_
             refine pureA 25 48 (bz 51 67108863) rfl rfl (any_of HT_.out (by kernel_rfl)) ?_
             refine one_ (i := 26) (N := some 49) (bz 51 134217727) rfl rfl (one_of HT_.out (by kernel_rfl)) (by decide) (fun K hK => ?_)
             refine goes_ Try.func18 (by kernel_rfl) rfl #[.int .i64 ((rd_T47 l0_1 x18_2).f1), .int .i64 (wrap64 (a0_0 + 1)), .int .i64 200000] (by rfl) rfl rfl aE ?_
             with_reducible refine (spec_l1In.calls ((rd_T47 l0_1 x18_2).f1) (wrap64 (a0_0 + 1)) 200000 true _ A63.out).mono ?_
             rintro e w' ⟨rfl, ⟨nd, rfl⟩⟩
             refine ⟨_, rfl, ?_⟩
             refine hK.out _ _ ⟨cz BK162 0 _, cz BK162 1 _, cz BK162 2 _, cz BK162 3 _, cz BK159 0 _, cz BK159 1 _⟩ (fun hHeld => ?_)
             clear hK K
             refine norm_ (a' := ?_) ?_ ?_
             rotate_left
             ·show Act.put _ (some 49) _ = _
              simp only [Act.put, List.setIfInBounds_toArray, List.set_cons_zero, List.set_cons_succ, i64_w, i32_w]
              rfl
             refine pureA 27 50 (bz 51 268435455) rfl rfl (any_of HT_.out (by kernel_rfl)) ?_
             refine pureA 28 51 (bz 51 536870911) rfl rfl (any_of HT_.out (by kernel_rfl)) ?_
             refine pureA 29 52 (bz 51 1073741823) rfl rfl (any_of HT_.out (by kernel_rfl)) ?_
             refine pureA 30 53 (bz 51 2147483647) rfl rfl (any_of HT_.out (by kernel_rfl)) ?_
             refine takeA 31 54 (bz 51 4294967295) rfl rfl (take_ofW HT_.out HW_.out (by kernel_rfl)) hHeld (by rintro w' ⟨s0, s1, s2, s3, s4, s5⟩; go_simp; with_reducible rfl) ?_
             refine one_ (i := 32) (N := some 55) (bz 51 8589934591) rfl rfl (one_of HT_.out (by kernel_rfl)) (by decide) (fun K hK => ?_)
             refine goes_ Try.func18 (by kernel_rfl) rfl #[.int .i64 ((rd_T47 l0_1 x18_2).f2), .int .i64 0, .int .i64 100000] (by rfl) rfl rfl aE ?_
             with_reducible refine (spec_l1In.calls ((rd_T47 l0_1 x18_2).f2) 0 100000 false _ A65.out).mono ?_
             rintro e w' ⟨rfl, ⟨nd, rfl⟩⟩
             refine ⟨_, rfl, ?_⟩
             refine hK.out _ _ ⟨cz BK162 0 _, cz BK162 1 _, cz BK162 2 _, cz BK162 3 _, cz BK159 0 _, cz BK159 1 _⟩ (fun hHeld => ?_)
             clear hK K
             refine norm_ (a' := ?_) ?_ ?_
             rotate_left
             ·show Act.put _ (some 55) _ = _
              simp only [Act.put, List.setIfInBounds_toArray, List.set_cons_zero, List.set_cons_succ, i64_w, i32_w]
              rfl
             refine pureA 33 56 (bz 51 17179869183) rfl rfl (any_of HT_.out (by kernel_rfl)) ?_
             refine pureA 34 57 (bz 51 34359738367) rfl rfl (any_of HT_.out (by kernel_rfl)) ?_
             refine pureA 35 58 (bz 51 68719476735) rfl rfl (any_of HT_.out (by kernel_rfl)) ?_
             refine pureU 36 59 (bz 51 137438953471) rfl rfl (any_of HT_.out (by kernel_rfl)) ?_
             refine pureU 37 60 (bz 51 274877906943) rfl rfl (any_of HT_.out (by kernel_rfl)) ?_
             refine pureU 38 61 (bz 51 549755813887) rfl rfl (any_of HT_.out (by kernel_rfl)) ?_
             refine pureU 39 62 (bz 51 1099511627775) rfl rfl (any_of HT_.out (by kernel_rfl)) ?_
             refine pureA 40 63 (bz 51 2199023255551) rfl rfl (any_of HT_.out (by kernel_rfl)) ?_
             refine pureA 41 64 (bz 51 4398046511103) rfl rfl (any_of HT_.out (by kernel_rfl)) ?_
             refine pureU 42 65 (bz 51 8796093022207) rfl rfl (any_of HT_.out (by kernel_rfl)) ?_
             refine pureU 43 66 (bz 51 17592186044415) rfl rfl (any_of HT_.out (by kernel_rfl)) ?_
             refine pureU 44 67 (bz 51 35184372088831) rfl rfl (any_of HT_.out (by kernel_rfl)) ?_
             refine pureU 45 68 (bz 51 70368744177663) rfl rfl (any_of HT_.out (by kernel_rfl)) ?_
             refine pureU 46 69 (bz 51 140737488355327) rfl rfl (any_of HT_.out (by kernel_rfl)) ?_
             refine pureU 47 70 (bz 51 281474976710655) rfl rfl (any_of HT_.out (by kernel_rfl)) ?_
             refine pureU 48 71 (bz 51 562949953421311) rfl rfl (any_of HT_.out (by kernel_rfl)) ?_
             refine pureU 49 72 (bz 51 1125899906842623) rfl rfl (any_of HT_.out (by kernel_rfl)) ?_
             refine pureA 50 73 (bz 51 2251799813685247) rfl rfl (any_of HT_.out (by kernel_rfl)) ?_
             refine done_ (done_of HT_.out (by kernel_rfl)) ?_
             try go_wp2
             go_ret
             exact ⟨eE, lV2 GE159 GE162⟩
           ·replace c64 := Bool.eq_false_iff.mpr c64
            subst c64
            have H1 : (some false) = some r := by rw [if_neg (show ¬ (false = true) by decide)] at H; exact H
            clear H
            have H := H1
            clear H1
            obtain rfl := Option.some.inj H
            have p161 : 0 ≤ (x18_2 : Int) := of_decide_eq_true hE
            have q161 : x18_2 < (l0_1.length : Int) := of_decide_eq_true hE
            obtain ⟨ad161, e161, hx161_0, hx161_1, hx161_2, hx161_3⟩ := at_T47 HR0_1.out x18_2 p161 q161
            cases e161
            replace hx161_0 := (HB.out.cell (World.block_lt_of_cell? w _ hx161_0)).trans hx161_0
            replace hx161_1 := (HB.out.cell (World.block_lt_of_cell? w _ hx161_1)).trans hx161_1
            replace hx161_2 := (HB.out.cell (World.block_lt_of_cell? w _ hx161_2)).trans hx161_2
            replace hx161_3 := (HB.out.cell (World.block_lt_of_cell? w _ hx161_3)).trans hx161_3
            replace p161 := eq_true p161
            replace q161 := eq_true q161
            try go_wp2_with (first | ((with_reducible refine gate_dst (N := 4) rfl ?_); (try (refine gate_guard (by rfl) ?_; dsimp only)); refine box_event rfl (N := 4) rfl (cs := #[.int .i64 0, .int .i64 0, .int .i64 0, .int .i64 0]) (t := 47) sE ?_; intro gb162 hg w96 hbox hb; have BK162 := Aside0.mk hbox; have GW162 := gS w hg (lV1 GE159); have GE162 := gS w hg (lV1 GE159); replace HB := bH (lV1 GE159) hb; have NB159_162 := nL hg (bV BK159); have NB162_159 := nG hg (bV BK159); replace BK159 := bB (bV BK159) hb; clear hb hbox hg; have hnb97 := NB162_159.out; have hnc97 := NB159_162.out; have hcz98_0 := cz BK162 0 (.int .i64 0); have hcz98_1 := cz BK162 1 (.int .i64 0); have hcz98_2 := cz BK162 2 (.int .i64 0); have hcz98_3 := cz BK162 3 (.int .i64 0); have hfz98_0 := fz BK162 0; have hfz98_1 := fz BK162 1; have hfz98_2 := fz BK162 2; have hfz98_3 := fz BK162 3))
            have n0_ : Aside0 (((((w96.setCell ⟨gb162, 0, none⟩ (.int .i64 ((rd_T47 l0_1 x18_2).f0))).setCell ⟨gb162, 1, none⟩ (.int .i64 ((rd_T47 l0_1 x18_2).f1))).setCell ⟨gb162, 2, none⟩ (.int .i64 ((rd_T47 l0_1 x18_2).f2))).setCell ⟨gb162, 3, none⟩ (.int .i64 ((rd_T47 l0_1 x18_2).f3))).heap[gb159]? = some (.cells #[.int .i64 a0_0, .slice (some ad161) l0_1.length c0_1] 25 (0, 0))) := ⟨by refine bU ?_; refine blk_far ?_ NB159_162.out _; refine bU ?_; refine blk_far ?_ NB159_162.out _; refine bU ?_; refine blk_far ?_ NB159_162.out _; refine bU ?_; refine blk_far ?_ NB159_162.out _; refine bU ?_; exact BK159.out⟩
            have n1_ : Aside0 (((((w96.setCell ⟨gb162, 0, none⟩ (.int .i64 ((rd_T47 l0_1 x18_2).f0))).setCell ⟨gb162, 1, none⟩ (.int .i64 ((rd_T47 l0_1 x18_2).f1))).setCell ⟨gb162, 2, none⟩ (.int .i64 ((rd_T47 l0_1 x18_2).f2))).setCell ⟨gb162, 3, none⟩ (.int .i64 ((rd_T47 l0_1 x18_2).f3))).heap[gb162]? = some (.cells #[.int .i64 ((rd_T47 l0_1 x18_2).f0), .int .i64 ((rd_T47 l0_1 x18_2).f1), .int .i64 ((rd_T47 l0_1 x18_2).f2), .int .i64 ((rd_T47 l0_1 x18_2).f3)] 47 (0, 0))) := ⟨by refine bU ?_; refine blk_put (cs := #[.int .i64 ((rd_T47 l0_1 x18_2).f0), .int .i64 ((rd_T47 l0_1 x18_2).f1), .int .i64 ((rd_T47 l0_1 x18_2).f2), .int .i64 0]) ?_ 3 _ rfl; refine bU ?_; refine blk_put (cs := #[.int .i64 ((rd_T47 l0_1 x18_2).f0), .int .i64 ((rd_T47 l0_1 x18_2).f1), .int .i64 0, .int .i64 0]) ?_ 2 _ rfl; refine bU ?_; refine blk_put (cs := #[.int .i64 ((rd_T47 l0_1 x18_2).f0), .int .i64 0, .int .i64 0, .int .i64 0]) ?_ 1 _ rfl; refine bU ?_; refine blk_put (cs := #[.int .i64 0, .int .i64 0, .int .i64 0, .int .i64 0]) ?_ 0 _ rfl; refine bU ?_; exact BK162.out⟩
            have n2_ : Aside0 (Below w.heap.size w ((((w96.setCell ⟨gb162, 0, none⟩ (.int .i64 ((rd_T47 l0_1 x18_2).f0))).setCell ⟨gb162, 1, none⟩ (.int .i64 ((rd_T47 l0_1 x18_2).f1))).setCell ⟨gb162, 2, none⟩ (.int .i64 ((rd_T47 l0_1 x18_2).f2))).setCell ⟨gb162, 3, none⟩ (.int .i64 ((rd_T47 l0_1 x18_2).f3)))) := ⟨by repeat (first | (with_reducible first | exact HB.out | apply below_alloc | apply pw_below_drewN | apply below_drew1 | refine below_set ?_ GE159.out | refine below_set ?_ GE162.out) | exact HB.out)⟩
            (try clear BK159)
            (try clear BK162)
            (try clear HB)
            generalize ((((w96.setCell ⟨gb162, 0, none⟩ (.int .i64 ((rd_T47 l0_1 x18_2).f0))).setCell ⟨gb162, 1, none⟩ (.int .i64 ((rd_T47 l0_1 x18_2).f1))).setCell ⟨gb162, 2, none⟩ (.int .i64 ((rd_T47 l0_1 x18_2).f2))).setCell ⟨gb162, 3, none⟩ (.int .i64 ((rd_T47 l0_1 x18_2).f3))) = w99 at n0_ n1_ n2_ ⊢
            have BK159 := n0_
            have BK162 := n1_
            have HB := n2_
            clear n0_ n1_ n2_
            replace BK159 := Aside0.mk (blk_drew BK159.out)
            replace BK162 := Aside0.mk (blk_drew BK162.out)
            replace HB := Aside0.mk (below_drew1 HB.out)
            refine start_ (n := 51) (S := fun w' => w'.cell? ⟨gb162, 0, none⟩ = some (.int .i64 ((rd_T47 l0_1 x18_2).f0)) ∧ w'.cell? ⟨gb162, 1, none⟩ = some (.int .i64 ((rd_T47 l0_1 x18_2).f1)) ∧ w'.cell? ⟨gb162, 2, none⟩ = some (.int .i64 ((rd_T47 l0_1 x18_2).f2)) ∧ w'.cell? ⟨gb162, 3, none⟩ = some (.int .i64 ((rd_T47 l0_1 x18_2).f3)) ∧ w'.cell? ⟨gb159, 0, none⟩ = some (.int .i64 a0_0) ∧ w'.cell? ⟨gb159, 1, none⟩ = some (.slice (some ad161) l0_1.length c0_1)) (ds := []) #[false, false, false, false, false, false, false, false, false, false, false, false, false, false, false, false, false, false, false, false, false, false, false, false, false, false, false, false, false, false, false, false, false, false, false, false, false, false, false, false, false, false, false, false, false, false, false, false, false, false, false] (by kernel_rfl) rfl rfl ⟨cz BK162 0 _, cz BK162 1 _, cz BK162 2 _, cz BK162 3 _, cz BK159 0 _, cz BK159 1 _⟩ (fun hHeld => ?_); refine with_tabW spec_GoodClock.tab6 spec_GoodClock.bits6 (fun HT_ HW_ => ?_)
            generalize w99.drew = w100 at BK159 BK162 HB hHeld ⊢
            refine pureA 0 23 (bz 51 1) rfl rfl (any_of HT_.out (by kernel_rfl)) ?_
            refine takeA 1 24 (bz 51 3) rfl rfl (take_ofW HT_.out HW_.out (by kernel_rfl)) hHeld (by rintro w' ⟨s0, s1, s2, s3, s4, s5⟩; go_simp; with_reducible rfl) ?_
            refine one_ (i := 2) (N := some 25) (bz 51 7) rfl rfl (one_of HT_.out (by kernel_rfl)) (by decide) (fun K hK => ?_)
            refine goes_ Try.func18 (by kernel_rfl) rfl #[.int .i64 ((rd_T47 l0_1 x18_2).f0), .int .i64 0, .int .i64 999] (by rfl) rfl rfl aE ?_
            with_reducible refine (spec_l1In.calls ((rd_T47 l0_1 x18_2).f0) 0 999 true _ A13.out).mono ?_
            rintro e w' ⟨rfl, ⟨nd, rfl⟩⟩
            refine ⟨_, rfl, ?_⟩
            refine hK.out _ _ ⟨cz BK162 0 _, cz BK162 1 _, cz BK162 2 _, cz BK162 3 _, cz BK159 0 _, cz BK159 1 _⟩ (fun hHeld => ?_)
            clear hK K
            refine norm_ (a' := ?_) ?_ ?_
            rotate_left
            ·show Act.put _ (some 25) _ = _
             simp only [Act.put, List.setIfInBounds_toArray, List.set_cons_zero, List.set_cons_succ, i64_w, i32_w]
             rfl
            refine pureA 3 26 (bz 51 15) rfl rfl (any_of HT_.out (by kernel_rfl)) ?_
            refine pureA 4 27 (bz 51 31) rfl rfl (any_of HT_.out (by kernel_rfl)) ?_
            refine pureA 5 28 (bz 51 63) rfl rfl (any_of HT_.out (by kernel_rfl)) ?_
            refine pureA 6 29 (bz 51 127) rfl rfl (any_of HT_.out (by kernel_rfl)) ?_
            refine pureA 7 30 (bz 51 255) rfl rfl (any_of HT_.out (by kernel_rfl)) ?_
            refine pureU 8 31 (bz 51 511) rfl rfl (any_of HT_.out (by kernel_rfl)) ?_
            refine pureU 9 32 (bz 51 1023) rfl rfl (any_of HT_.out (by kernel_rfl)) ?_
            refine pureU 10 33 (bz 51 2047) rfl rfl (any_of HT_.out (by kernel_rfl)) ?_
            refine pureU 11 34 (bz 51 4095) rfl rfl (any_of HT_.out (by kernel_rfl)) ?_
            refine pureU 12 35 (bz 51 8191) rfl rfl (any_of HT_.out (by kernel_rfl)) ?_
            refine pureU 13 36 (bz 51 16383) rfl rfl (any_of HT_.out (by kernel_rfl)) ?_
            refine pureU 14 37 (bz 51 32767) rfl rfl (any_of HT_.out (by kernel_rfl)) ?_
            refine pureU 15 38 (bz 51 65535) rfl rfl (any_of HT_.out (by kernel_rfl)) ?_
            refine pureU 16 39 (bz 51 131071) rfl rfl (any_of HT_.out (by kernel_rfl)) ?_
            refine pureU 17 40 (bz 51 262143) rfl rfl (any_of HT_.out (by kernel_rfl)) ?_
            refine pureA 18 41 (bz 51 524287) rfl rfl (any_of HT_.out (by kernel_rfl)) ?_
            refine pureA 19 42 (bz 51 1048575) rfl rfl (any_of HT_.out (by kernel_rfl)) ?_
            refine pureA 20 43 (bz 51 2097151) rfl rfl (any_of HT_.out (by kernel_rfl)) ?_
            refine pureA 21 44 (bz 51 4194303) rfl rfl (any_of HT_.out (by kernel_rfl)) ?_
            refine pureA 23 46 (bz 51 12582911) rfl rfl (any_of HT_.out (by kernel_rfl)) ?_
            refine takeA 22 45 (bz 51 16777215) rfl rfl (take_ofW HT_.out HW_.out (by kernel_rfl)) hHeld (by rintro w' ⟨s0, s1, s2, s3, s4, s5⟩; go_simp; with_reducible rfl) ?_
            refine takeA 24 47 (bz 51 33554431) rfl rfl (take_ofW HT_.out HW_.out (by kernel_rfl)) hHeld (by rintro w' ⟨s0, s1, s2, s3, s4, s5⟩; go_simp; with_reducible rfl) ?_
            refine pureA 25 48 (bz 51 67108863) rfl rfl (any_of HT_.out (by kernel_rfl)) ?_
            refine one_ (i := 26) (N := some 49) (bz 51 134217727) rfl rfl (one_of HT_.out (by kernel_rfl)) (by decide) (fun K hK => ?_)
            refine goes_ Try.func18 (by kernel_rfl) rfl #[.int .i64 ((rd_T47 l0_1 x18_2).f1), .int .i64 (wrap64 (a0_0 + 1)), .int .i64 200000] (by rfl) rfl rfl aE ?_
            with_reducible refine (spec_l1In.calls ((rd_T47 l0_1 x18_2).f1) (wrap64 (a0_0 + 1)) 200000 false _ A63.out).mono ?_
            rintro e w' ⟨rfl, ⟨nd, rfl⟩⟩
            refine ⟨_, rfl, ?_⟩
            refine hK.out _ _ ⟨cz BK162 0 _, cz BK162 1 _, cz BK162 2 _, cz BK162 3 _, cz BK159 0 _, cz BK159 1 _⟩ (fun hHeld => ?_)
            clear hK K
            refine norm_ (a' := ?_) ?_ ?_
            rotate_left
            ·show Act.put _ (some 49) _ = _
             simp only [Act.put, List.setIfInBounds_toArray, List.set_cons_zero, List.set_cons_succ, i64_w, i32_w]
             rfl
            refine pureA 27 50 (bz 51 268435455) rfl rfl (any_of HT_.out (by kernel_rfl)) ?_
            refine pureA 28 51 (bz 51 536870911) rfl rfl (any_of HT_.out (by kernel_rfl)) ?_
            refine pureA 29 52 (bz 51 1073741823) rfl rfl (any_of HT_.out (by kernel_rfl)) ?_
            refine pureU 30 53 (bz 51 2147483647) rfl rfl (any_of HT_.out (by kernel_rfl)) ?_
            refine pureU 31 54 (bz 51 4294967295) rfl rfl (any_of HT_.out (by kernel_rfl)) ?_
            refine pureU 32 55 (bz 51 8589934591) rfl rfl (any_of HT_.out (by kernel_rfl)) ?_
            refine pureU 33 56 (bz 51 17179869183) rfl rfl (any_of HT_.out (by kernel_rfl)) ?_
            refine pureA 34 57 (bz 51 34359738367) rfl rfl (any_of HT_.out (by kernel_rfl)) ?_
            refine pureA 35 58 (bz 51 68719476735) rfl rfl (any_of HT_.out (by kernel_rfl)) ?_
            refine pureU 36 59 (bz 51 137438953471) rfl rfl (any_of HT_.out (by kernel_rfl)) ?_
            refine pureU 37 60 (bz 51 274877906943) rfl rfl (any_of HT_.out (by kernel_rfl)) ?_
            refine pureU 38 61 (bz 51 549755813887) rfl rfl (any_of HT_.out (by kernel_rfl)) ?_
            refine pureU 39 62 (bz 51 1099511627775) rfl rfl (any_of HT_.out (by kernel_rfl)) ?_
            refine pureA 40 63 (bz 51 2199023255551) rfl rfl (any_of HT_.out (by kernel_rfl)) ?_
            refine pureA 41 64 (bz 51 4398046511103) rfl rfl (any_of HT_.out (by kernel_rfl)) ?_
            refine pureU 42 65 (bz 51 8796093022207) rfl rfl (any_of HT_.out (by kernel_rfl)) ?_
            refine pureU 43 66 (bz 51 17592186044415) rfl rfl (any_of HT_.out (by kernel_rfl)) ?_
            refine pureU 44 67 (bz 51 35184372088831) rfl rfl (any_of HT_.out (by kernel_rfl)) ?_
            refine pureU 45 68 (bz 51 70368744177663) rfl rfl (any_of HT_.out (by kernel_rfl)) ?_
            refine pureU 46 69 (bz 51 140737488355327) rfl rfl (any_of HT_.out (by kernel_rfl)) ?_
            refine pureU 47 70 (bz 51 281474976710655) rfl rfl (any_of HT_.out (by kernel_rfl)) ?_
            refine pureU 48 71 (bz 51 562949953421311) rfl rfl (any_of HT_.out (by kernel_rfl)) ?_
            refine pureU 49 72 (bz 51 1125899906842623) rfl rfl (any_of HT_.out (by kernel_rfl)) ?_
            refine pureA 50 73 (bz 51 2251799813685247) rfl rfl (any_of HT_.out (by kernel_rfl)) ?_
            refine done_ (done_of HT_.out (by kernel_rfl)) ?_
            try go_wp2
            go_ret
            exact ⟨eE, lV2 GE159 GE162⟩
         ·replace c14 := Bool.eq_false_iff.mpr c14
          subst c14
          have H1 : (some false) = some r := by rw [if_neg (show ¬ (false = true) by decide)] at H; exact H
          clear H
          have H := H1
          clear H1
          obtain rfl := Option.some.inj H
          have p161 : 0 ≤ (x18_2 : Int) := of_decide_eq_true hE
          have q161 : x18_2 < (l0_1.length : Int) := of_decide_eq_true hE
          obtain ⟨ad161, e161, hx161_0, hx161_1, hx161_2, hx161_3⟩ := at_T47 HR0_1.out x18_2 p161 q161
          cases e161
          replace hx161_0 := (HB.out.cell (World.block_lt_of_cell? w _ hx161_0)).trans hx161_0
          replace hx161_1 := (HB.out.cell (World.block_lt_of_cell? w _ hx161_1)).trans hx161_1
          replace hx161_2 := (HB.out.cell (World.block_lt_of_cell? w _ hx161_2)).trans hx161_2
          replace hx161_3 := (HB.out.cell (World.block_lt_of_cell? w _ hx161_3)).trans hx161_3
          replace p161 := eq_true p161
          replace q161 := eq_true q161
          try go_wp2_with (first | ((with_reducible refine gate_dst (N := 4) rfl ?_); (try (refine gate_guard (by rfl) ?_; dsimp only)); refine box_event rfl (N := 4) rfl (cs := #[.int .i64 0, .int .i64 0, .int .i64 0, .int .i64 0]) (t := 47) sE ?_; intro gb162 hg w101 hbox hb; have BK162 := Aside0.mk hbox; have GW162 := gS w hg (lV1 GE159); have GE162 := gS w hg (lV1 GE159); replace HB := bH (lV1 GE159) hb; have NB159_162 := nL hg (bV BK159); have NB162_159 := nG hg (bV BK159); replace BK159 := bB (bV BK159) hb; clear hb hbox hg; have hnb102 := NB162_159.out; have hnc102 := NB159_162.out; have hcz103_0 := cz BK162 0 (.int .i64 0); have hcz103_1 := cz BK162 1 (.int .i64 0); have hcz103_2 := cz BK162 2 (.int .i64 0); have hcz103_3 := cz BK162 3 (.int .i64 0); have hfz103_0 := fz BK162 0; have hfz103_1 := fz BK162 1; have hfz103_2 := fz BK162 2; have hfz103_3 := fz BK162 3))
          have n0_ : Aside0 (((((w101.setCell ⟨gb162, 0, none⟩ (.int .i64 ((rd_T47 l0_1 x18_2).f0))).setCell ⟨gb162, 1, none⟩ (.int .i64 ((rd_T47 l0_1 x18_2).f1))).setCell ⟨gb162, 2, none⟩ (.int .i64 ((rd_T47 l0_1 x18_2).f2))).setCell ⟨gb162, 3, none⟩ (.int .i64 ((rd_T47 l0_1 x18_2).f3))).heap[gb159]? = some (.cells #[.int .i64 a0_0, .slice (some ad161) l0_1.length c0_1] 25 (0, 0))) := ⟨by refine bU ?_; refine blk_far ?_ NB159_162.out _; refine bU ?_; refine blk_far ?_ NB159_162.out _; refine bU ?_; refine blk_far ?_ NB159_162.out _; refine bU ?_; refine blk_far ?_ NB159_162.out _; refine bU ?_; exact BK159.out⟩
          have n1_ : Aside0 (((((w101.setCell ⟨gb162, 0, none⟩ (.int .i64 ((rd_T47 l0_1 x18_2).f0))).setCell ⟨gb162, 1, none⟩ (.int .i64 ((rd_T47 l0_1 x18_2).f1))).setCell ⟨gb162, 2, none⟩ (.int .i64 ((rd_T47 l0_1 x18_2).f2))).setCell ⟨gb162, 3, none⟩ (.int .i64 ((rd_T47 l0_1 x18_2).f3))).heap[gb162]? = some (.cells #[.int .i64 ((rd_T47 l0_1 x18_2).f0), .int .i64 ((rd_T47 l0_1 x18_2).f1), .int .i64 ((rd_T47 l0_1 x18_2).f2), .int .i64 ((rd_T47 l0_1 x18_2).f3)] 47 (0, 0))) := ⟨by refine bU ?_; refine blk_put (cs := #[.int .i64 ((rd_T47 l0_1 x18_2).f0), .int .i64 ((rd_T47 l0_1 x18_2).f1), .int .i64 ((rd_T47 l0_1 x18_2).f2), .int .i64 0]) ?_ 3 _ rfl; refine bU ?_; refine blk_put (cs := #[.int .i64 ((rd_T47 l0_1 x18_2).f0), .int .i64 ((rd_T47 l0_1 x18_2).f1), .int .i64 0, .int .i64 0]) ?_ 2 _ rfl; refine bU ?_; refine blk_put (cs := #[.int .i64 ((rd_T47 l0_1 x18_2).f0), .int .i64 0, .int .i64 0, .int .i64 0]) ?_ 1 _ rfl; refine bU ?_; refine blk_put (cs := #[.int .i64 0, .int .i64 0, .int .i64 0, .int .i64 0]) ?_ 0 _ rfl; refine bU ?_; exact BK162.out⟩
          have n2_ : Aside0 (Below w.heap.size w ((((w101.setCell ⟨gb162, 0, none⟩ (.int .i64 ((rd_T47 l0_1 x18_2).f0))).setCell ⟨gb162, 1, none⟩ (.int .i64 ((rd_T47 l0_1 x18_2).f1))).setCell ⟨gb162, 2, none⟩ (.int .i64 ((rd_T47 l0_1 x18_2).f2))).setCell ⟨gb162, 3, none⟩ (.int .i64 ((rd_T47 l0_1 x18_2).f3)))) := ⟨by repeat (first | (with_reducible first | exact HB.out | apply below_alloc | apply pw_below_drewN | apply below_drew1 | refine below_set ?_ GE159.out | refine below_set ?_ GE162.out) | exact HB.out)⟩
          (try clear BK159)
          (try clear BK162)
          (try clear HB)
          generalize ((((w101.setCell ⟨gb162, 0, none⟩ (.int .i64 ((rd_T47 l0_1 x18_2).f0))).setCell ⟨gb162, 1, none⟩ (.int .i64 ((rd_T47 l0_1 x18_2).f1))).setCell ⟨gb162, 2, none⟩ (.int .i64 ((rd_T47 l0_1 x18_2).f2))).setCell ⟨gb162, 3, none⟩ (.int .i64 ((rd_T47 l0_1 x18_2).f3))) = w104 at n0_ n1_ n2_ ⊢
          have BK159 := n0_
          have BK162 := n1_
          have HB := n2_
          clear n0_ n1_ n2_
          replace BK159 := Aside0.mk (blk_drew BK159.out)
          replace BK162 := Aside0.mk (blk_drew BK162.out)
          replace HB := Aside0.mk (below_drew1 HB.out)
          refine start_ (n := 51) (S := fun w' => w'.cell? ⟨gb162, 0, none⟩ = some (.int .i64 ((rd_T47 l0_1 x18_2).f0)) ∧ w'.cell? ⟨gb162, 1, none⟩ = some (.int .i64 ((rd_T47 l0_1 x18_2).f1)) ∧ w'.cell? ⟨gb162, 2, none⟩ = some (.int .i64 ((rd_T47 l0_1 x18_2).f2)) ∧ w'.cell? ⟨gb162, 3, none⟩ = some (.int .i64 ((rd_T47 l0_1 x18_2).f3))) (ds := []) #[false, false, false, false, false, false, false, false, false, false, false, false, false, false, false, false, false, false, false, false, false, false, false, false, false, false, false, false, false, false, false, false, false, false, false, false, false, false, false, false, false, false, false, false, false, false, false, false, false, false, false] (by kernel_rfl) rfl rfl ⟨cz BK162 0 _, cz BK162 1 _, cz BK162 2 _, cz BK162 3 _⟩ (fun hHeld => ?_); refine with_tabW spec_GoodClock.tab6 spec_GoodClock.bits6 (fun HT_ HW_ => ?_)
          generalize w104.drew = w105 at BK159 BK162 HB hHeld ⊢
          refine pureA 0 23 (bz 51 1) rfl rfl (any_of HT_.out (by kernel_rfl)) ?_
          refine takeA 1 24 (bz 51 3) rfl rfl (take_ofW HT_.out HW_.out (by kernel_rfl)) hHeld (by rintro w' ⟨s0, s1, s2, s3⟩; go_simp; with_reducible rfl) ?_
          refine one_ (i := 2) (N := some 25) (bz 51 7) rfl rfl (one_of HT_.out (by kernel_rfl)) (by decide) (fun K hK => ?_)
          refine goes_ Try.func18 (by kernel_rfl) rfl #[.int .i64 ((rd_T47 l0_1 x18_2).f0), .int .i64 0, .int .i64 999] (by rfl) rfl rfl aE ?_
          with_reducible refine (spec_l1In.calls ((rd_T47 l0_1 x18_2).f0) 0 999 false _ A13.out).mono ?_
          rintro e w' ⟨rfl, ⟨nd, rfl⟩⟩
          refine ⟨_, rfl, ?_⟩
          refine hK.out _ _ ⟨cz BK162 0 _, cz BK162 1 _, cz BK162 2 _, cz BK162 3 _⟩ (fun hHeld => ?_)
          clear hK K
          refine norm_ (a' := ?_) ?_ ?_
          rotate_left
          ·show Act.put _ (some 25) _ = _
           simp only [Act.put, List.setIfInBounds_toArray, List.set_cons_zero, List.set_cons_succ, i64_w, i32_w]
           rfl
          refine pureA 3 26 (bz 51 15) rfl rfl (any_of HT_.out (by kernel_rfl)) ?_
          refine pureA 4 27 (bz 51 31) rfl rfl (any_of HT_.out (by kernel_rfl)) ?_
          refine pureU 5 28 (bz 51 63) rfl rfl (any_of HT_.out (by kernel_rfl)) ?_
          refine pureU 6 29 (bz 51 127) rfl rfl (any_of HT_.out (by kernel_rfl)) ?_
          refine pureU 7 30 (bz 51 255) rfl rfl (any_of HT_.out (by kernel_rfl)) ?_
          refine pureU 8 31 (bz 51 511) rfl rfl (any_of HT_.out (by kernel_rfl)) ?_
          refine pureU 9 32 (bz 51 1023) rfl rfl (any_of HT_.out (by kernel_rfl)) ?_
          refine pureU 10 33 (bz 51 2047) rfl rfl (any_of HT_.out (by kernel_rfl)) ?_
          refine pureU 11 34 (bz 51 4095) rfl rfl (any_of HT_.out (by kernel_rfl)) ?_
          refine pureU 12 35 (bz 51 8191) rfl rfl (any_of HT_.out (by kernel_rfl)) ?_
          refine pureU 13 36 (bz 51 16383) rfl rfl (any_of HT_.out (by kernel_rfl)) ?_
          refine pureU 14 37 (bz 51 32767) rfl rfl (any_of HT_.out (by kernel_rfl)) ?_
          refine pureU 15 38 (bz 51 65535) rfl rfl (any_of HT_.out (by kernel_rfl)) ?_
          refine pureU 16 39 (bz 51 131071) rfl rfl (any_of HT_.out (by kernel_rfl)) ?_
          refine pureU 17 40 (bz 51 262143) rfl rfl (any_of HT_.out (by kernel_rfl)) ?_
          refine pureU 18 41 (bz 51 524287) rfl rfl (any_of HT_.out (by kernel_rfl)) ?_
          refine pureA 19 42 (bz 51 1048575) rfl rfl (any_of HT_.out (by kernel_rfl)) ?_
          refine pureA 20 43 (bz 51 2097151) rfl rfl (any_of HT_.out (by kernel_rfl)) ?_
          refine pureU 21 44 (bz 51 4194303) rfl rfl (any_of HT_.out (by kernel_rfl)) ?_
          refine pureU 22 45 (bz 51 8388607) rfl rfl (any_of HT_.out (by kernel_rfl)) ?_
          refine pureU 23 46 (bz 51 16777215) rfl rfl (any_of HT_.out (by kernel_rfl)) ?_
          refine pureU 24 47 (bz 51 33554431) rfl rfl (any_of HT_.out (by kernel_rfl)) ?_
          refine pureU 25 48 (bz 51 67108863) rfl rfl (any_of HT_.out (by kernel_rfl)) ?_
          refine pureU 26 49 (bz 51 134217727) rfl rfl (any_of HT_.out (by kernel_rfl)) ?_
          refine pureU 27 50 (bz 51 268435455) rfl rfl (any_of HT_.out (by kernel_rfl)) ?_
          refine pureA 28 51 (bz 51 536870911) rfl rfl (any_of HT_.out (by kernel_rfl)) ?_
          refine pureA 29 52 (bz 51 1073741823) rfl rfl (any_of HT_.out (by kernel_rfl)) ?_
          refine pureU 30 53 (bz 51 2147483647) rfl rfl (any_of HT_.out (by kernel_rfl)) ?_
          refine pureU 31 54 (bz 51 4294967295) rfl rfl (any_of HT_.out (by kernel_rfl)) ?_
          refine pureU 32 55 (bz 51 8589934591) rfl rfl (any_of HT_.out (by kernel_rfl)) ?_
          refine pureU 33 56 (bz 51 17179869183) rfl rfl (any_of HT_.out (by kernel_rfl)) ?_
          refine pureA 34 57 (bz 51 34359738367) rfl rfl (any_of HT_.out (by kernel_rfl)) ?_
          refine pureA 35 58 (bz 51 68719476735) rfl rfl (any_of HT_.out (by kernel_rfl)) ?_
          refine pureU 36 59 (bz 51 137438953471) rfl rfl (any_of HT_.out (by kernel_rfl)) ?_
          refine pureU 37 60 (bz 51 274877906943) rfl rfl (any_of HT_.out (by kernel_rfl)) ?_
          refine pureU 38 61 (bz 51 549755813887) rfl rfl (any_of HT_.out (by kernel_rfl)) ?_
          refine pureU 39 62 (bz 51 1099511627775) rfl rfl (any_of HT_.out (by kernel_rfl)) ?_
          refine pureA 40 63 (bz 51 2199023255551) rfl rfl (any_of HT_.out (by kernel_rfl)) ?_
          refine pureA 41 64 (bz 51 4398046511103) rfl rfl (any_of HT_.out (by kernel_rfl)) ?_
          refine pureU 42 65 (bz 51 8796093022207) rfl rfl (any_of HT_.out (by kernel_rfl)) ?_
          refine pureU 43 66 (bz 51 17592186044415) rfl rfl (any_of HT_.out (by kernel_rfl)) ?_
          refine pureU 44 67 (bz 51 35184372088831) rfl rfl (any_of HT_.out (by kernel_rfl)) ?_
          refine pureU 45 68 (bz 51 70368744177663) rfl rfl (any_of HT_.out (by kernel_rfl)) ?_
          refine pureU 46 69 (bz 51 140737488355327) rfl rfl (any_of HT_.out (by kernel_rfl)) ?_
          refine pureU 47 70 (bz 51 281474976710655) rfl rfl (any_of HT_.out (by kernel_rfl)) ?_
          refine pureU 48 71 (bz 51 562949953421311) rfl rfl (any_of HT_.out (by kernel_rfl)) ?_
          refine pureU 49 72 (bz 51 1125899906842623) rfl rfl (any_of HT_.out (by kernel_rfl)) ?_
          refine pureA 50 73 (bz 51 2251799813685247) rfl rfl (any_of HT_.out (by kernel_rfl)) ?_
          refine done_ (done_of HT_.out (by kernel_rfl)) ?_
          try go_wp2
          go_ret
          exact ⟨eE, lV2 GE159 GE162⟩
        ·rw [if_neg c12] at H
         exact absurd H (by simp)
       ·rw [if_neg c11] at H
        exact absurd H (by simp)
      ·rw [if_neg c10] at H
       have c10b0 : decide (x18_2 < (l0_1.length : Int)) = false := decide_eq_false c10
       clear c10
       obtain rfl := Option.some.inj H
       go_wp2
       go_ret
       exact ⟨eE, lV1 GE159⟩
end Go.Proofs.Ythacmchmppnldaa.PFnPieces
