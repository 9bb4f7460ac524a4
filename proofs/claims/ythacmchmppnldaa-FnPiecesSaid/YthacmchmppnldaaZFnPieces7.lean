/- Texts of a row. -/
import Derived.Test.YthacmchmppnldaaZFnPieces3
import Derived.Test.YthacmchmppnldaaZFnPieces4
import Derived.Test.YthacmchmppnldaaZFnPieces5
import Derived.Test.YthacmchmppnldaaZFnPieces6
namespace Go.Proofs.Ythacmchmppnldaa.PFnPieces
open Go.RowKit Go.Proofs.YthacmchmppnldaaW.PrintWords Go.Proofs.YthacmchmppnldaaW.PrintLast Go.Proofs.YthacmchmppnldaaW.PrintMore
attribute [local go_sem] max2_int min2_int max_two min_two max_three min_three max_four min_four   -- for this text's walks alone
set_option linter.unusedVariables false
set_option linter.unusedSimpArgs false
mutual
def spec_RunClock.j0 : Nat → Int → Bool → Int → List (S47) → Option (Int × (List (S47)) × (List (S50)) × Bool)
 | 0, _, _, _, _ => none
 | k + 1, x1, x21, x315000, x315001 => if x21 = true then (some (0, ([] : List (S47)), ([] : List (S50)), false)) else ((some (([] : List (S47)) : List (S47))).bind fun y318 => (if y318.length + x315001.length < 4398046511104 then (spec_RunClock.l0 k x1 (y318 ++ x315001) ([] : List (S50))) else (none)))
def spec_RunClock.l0 : Nat → Int → List (S47) → List (S50) → Option (Int × (List (S47)) × (List (S50)) × Bool)
 | 0, _, _, _ => none
 | k + 1, x1, x7, x8 => spec_RunClock.l1 k x1 x7 x8 (-1) x7 (x7.length : Int) 0
def spec_RunClock.l1 : Nat → Int → List (S47) → List (S50) → Int → List (S47) → Int → Int → Option (Int × (List (S47)) × (List (S50)) × Bool)
 | 0, _, _, _, _, _, _, _ => none
 | k + 1, x1, x7, x8, x9, x27, x28, x29 => if x29 < x28 then (if 0 ≤ x29 then (if x29 < (x27.length : Int) then (if ((rd_T47 x27 x29).f1) ≤ x1 then (if x9 < 0 then (spec_RunClock.l1 k x1 x7 x8 x29 x27 x28 (wrap64 (x29 + 1))) else (if 0 ≤ x9 then (if x9 < (x7.length : Int) then (if ((rd_T47 x27 x29).f1) < ((rd_T47 x7 x9).f1) then (spec_RunClock.l1 k x1 x7 x8 x29 x27 x28 (wrap64 (x29 + 1))) else (spec_RunClock.l1 k x1 x7 x8 x9 x27 x28 (wrap64 (x29 + 1)))) else (none)) else (none))) else (spec_RunClock.l1 k x1 x7 x8 x9 x27 x28 (wrap64 (x29 + 1)))) else (none)) else (none)) else (if x9 < 0 then (some (x1, x7, x8, true)) else (if (x8.length : Int) = 2000 then (some (0, ([] : List (S47)), ([] : List (S50)), false)) else (if 0 ≤ x9 then (if x9 < (x7.length : Int) then (if x8.length < 8796093022208 then ((some (x8 ++ [(⟨(rd_T47 x7 x9).f1, (rd_T47 x7 x9).f0⟩ : S50)] : List (S50))).bind fun y329 => (if ((rd_T47 x7 x9).f2) > 0 then (if ((rd_T47 x7 x9).f3) > 1 then ((some (x7.set (x9 : Int).toNat (⟨(rd_T47 x7 x9).f0, (rd_T47 x7 x9).f1, (rd_T47 x7 x9).f2, wrap64 (((rd_T47 x7 x9).f3) - 1)⟩ : S47) : List (S47))).bind fun y335 => (spec_RunClock.l0 k x1 (y335.set (x9 : Int).toNat (⟨(rd_T47 y335 x9).f0, wrap64 (((rd_T47 y335 x9).f1) + ((rd_T47 y335 x9).f2)), (rd_T47 y335 x9).f2, (rd_T47 y335 x9).f3⟩ : S47)) y329)) else (if x9 ≤ (x7.length : Int) then (if 0 ≤ (wrap64 (x9 + 1)) then (if (wrap64 (x9 + 1)) ≤ (x7.length : Int) then (spec_RunClock.l0 k x1 (x7.eraseIdx (x9 : Int).toNat) y329) else (none)) else (none)) else (none))) else (if x9 ≤ (x7.length : Int) then (if 0 ≤ (wrap64 (x9 + 1)) then (if (wrap64 (x9 + 1)) ≤ (x7.length : Int) then (spec_RunClock.l0 k x1 (x7.eraseIdx (x9 : Int).toNat) y329) else (none)) else (none)) else (none)))) else (none)) else (none)) else (none))))
end
def spec_RunClock.f (k : Nat) (a0_0 : Int) (l0_1 : List (S47)) (a1 : Int) : Option (Int × (List (S47)) × (List (S50)) × Bool) := (spec_GoodClock.f k a0_0 l0_1).bind fun t316 => (if t316 = true then ((spec_l1In.f a1 a0_0 100000).bind fun t317 => (spec_RunClock.j0 k a1 (!t317) a0_0 l0_1)) else (spec_RunClock.j0 k a1 true a0_0 l0_1))
theorem spec_RunClock.mono_l : ∀ k, (∀ y0 y1 y2 y3, LeO (spec_RunClock.j0 k y0 y1 y2 y3) (spec_RunClock.j0 (k + 1) y0 y1 y2 y3)) ∧ (∀ y0 y1 y2, LeO (spec_RunClock.l0 k y0 y1 y2) (spec_RunClock.l0 (k + 1) y0 y1 y2)) ∧ (∀ y0 y1 y2 y3 y4 y5 y6, LeO (spec_RunClock.l1 k y0 y1 y2 y3 y4 y5 y6) (spec_RunClock.l1 (k + 1) y0 y1 y2 y3 y4 y5 y6))
 | 0 => ⟨fun _ _ _ _ r h => by simp [spec_RunClock.j0] at h, fun _ _ _ r h => by simp [spec_RunClock.l0] at h, fun _ _ _ _ _ _ _ r h => by simp [spec_RunClock.l1] at h⟩
 | k + 1 => by
  obtain ⟨ih0, ih1, ih2⟩ := spec_RunClock.mono_l k
  refine ⟨?_, ?_, ?_⟩
  ·intro y0 y1 y2 y3
   unfold spec_RunClock.j0
   repeat' first
   | (with_reducible exact ih0 _ _ _ _)
   | (with_reducible exact ih1 _ _ _)
   | (with_reducible exact ih2 _ _ _ _ _ _ _)
   | (with_reducible exact spec_GoodClock.mono _ _ _)
   | (with_reducible first | exact LeO.refl _ | exact LeO.none _ | refine LeO.ite ?_ ?_ | refine LeO.bind ?_ (fun _ => ?_))
   | exact ih0 _ _ _ _
   | exact ih1 _ _ _
   | exact ih2 _ _ _ _ _ _ _
   | exact spec_GoodClock.mono _ _ _ | exact LeO.none _ | refine LeO.ite ?_ ?_ | refine LeO.bind ?_ (fun _ => ?_)
  ·intro y0 y1 y2
   unfold spec_RunClock.l0
   repeat' first
   | (with_reducible exact ih0 _ _ _ _)
   | (with_reducible exact ih1 _ _ _)
   | (with_reducible exact ih2 _ _ _ _ _ _ _)
   | (with_reducible exact spec_GoodClock.mono _ _ _)
   | (with_reducible first | exact LeO.refl _ | exact LeO.none _ | refine LeO.ite ?_ ?_ | refine LeO.bind ?_ (fun _ => ?_))
   | exact ih0 _ _ _ _
   | exact ih1 _ _ _
   | exact ih2 _ _ _ _ _ _ _
   | exact spec_GoodClock.mono _ _ _ | exact LeO.none _ | refine LeO.ite ?_ ?_ | refine LeO.bind ?_ (fun _ => ?_)
  ·intro y0 y1 y2 y3 y4 y5 y6
   unfold spec_RunClock.l1
   repeat' first
   | (with_reducible exact ih0 _ _ _ _)
   | (with_reducible exact ih1 _ _ _)
   | (with_reducible exact ih2 _ _ _ _ _ _ _)
   | (with_reducible exact spec_GoodClock.mono _ _ _)
   | (with_reducible first | exact LeO.refl _ | exact LeO.none _ | refine LeO.ite ?_ ?_ | refine LeO.bind ?_ (fun _ => ?_))
   | exact ih0 _ _ _ _
   | exact ih1 _ _ _
   | exact ih2 _ _ _ _ _ _ _
   | exact spec_GoodClock.mono _ _ _ | exact LeO.none _ | refine LeO.ite ?_ ?_ | refine LeO.bind ?_ (fun _ => ?_)
theorem spec_RunClock.mono : ∀ a0 a1 a2 k, LeO (spec_RunClock.f k a0 a1 a2) (spec_RunClock.f (k + 1) a0 a1 a2) := by
 intro a0 a1 a2 k
 obtain ⟨ih0, ih1, ih2⟩ := spec_RunClock.mono_l k
 unfold spec_RunClock.f
 repeat' first
   | (with_reducible exact ih0 _ _ _ _)
   | (with_reducible exact ih1 _ _ _)
   | (with_reducible exact ih2 _ _ _ _ _ _ _)
   | (with_reducible exact spec_GoodClock.mono _ _ _)
   | (with_reducible first | exact LeO.refl _ | exact LeO.none _ | refine LeO.ite ?_ ?_ | refine LeO.bind ?_ (fun _ => ?_))
   | exact ih0 _ _ _ _
   | exact ih1 _ _ _
   | exact ih2 _ _ _ _ _ _ _
   | exact spec_GoodClock.mono _ _ _ | exact LeO.none _ | refine LeO.ite ?_ ?_ | refine LeO.bind ?_ (fun _ => ?_)
def spec_RunClock.T9 : Bool × List (List Nat × List Nat) := (true, [([], []), ([0], [0]), ([], []), ([1, 2], [1, 2]), ([3], [3]), ([4], [4]), ([5, 4], [4, 5]), ([6, 4, 4], [4, 6]), ([7], [7]), ([8, 7], [7, 8]), ([7], [7]), ([7], [7]), ([10, 11, 7], [7, 10, 11]), ([12, 7], [7, 12]), ([13, 7], [7, 13]), ([9, 14, 7], [7, 9, 14]), ([7, 15, 4], [4, 7, 15]), ([4, 16], [4, 16])])
def spec_RunClock.B9 : List Nat := [0, 1, 0, 7, 15, 31, 63, 127, 255, 511, 255, 255, 3327, 7423, 15615, 32767, 65535, 131071]
theorem spec_RunClock.tab9 : rtab .any (opsOf Try.f6 9) = spec_RunClock.T9 := by kernel_rfl
theorem spec_RunClock.bits9 : waitsOk spec_RunClock.T9.2 spec_RunClock.B9 = true := by kernel_rfl
def spec_RunClock.T16 : Bool × List (List Nat × List Nat) := (true, [([], []), ([], []), ([], []), ([1, 2], [1, 2]), ([3], [3]), ([4], [4]), ([], []), ([], []), ([6, 7], [6, 7]), ([8], [8]), ([9], [9]), ([5, 10], [5, 10]), ([11], [11]), ([0, 12], [0, 12]), ([13, 13, 0, 1, 2, 3, 4, 5, 6, 7, 8, 9, 10, 11, 12, 13], [0, 13])])
def spec_RunClock.B16 : List Nat := [0, 0, 0, 6, 14, 30, 0, 0, 192, 448, 960, 2046, 4094, 8191, 16383]
theorem spec_RunClock.tab16 : rtab .any (opsOf Try.f6 16) = spec_RunClock.T16 := by kernel_rfl
theorem spec_RunClock.bits16 : waitsOk spec_RunClock.T16.2 spec_RunClock.B16 = true := by kernel_rfl
def spec_RunClock.T19 : Bool × List (List Nat × List Nat) := (true, [([], []), ([], []), ([0, 1], [0, 1]), ([2], [2]), ([3], [3]), ([], []), ([], []), ([5, 6], [5, 6]), ([7], [7]), ([8], [8]), ([4, 9], [4, 9]), ([0, 1, 0, 1, 2, 3, 4, 5, 6, 7, 8, 9, 10], [0, 1]), ([11, 0, 1, 2, 3, 4, 5, 6, 7, 8, 9, 10], [11]), ([12, 10, 0, 1, 2, 3, 4, 5, 6, 7, 8, 9, 10], [10, 12])])
def spec_RunClock.B19 : List Nat := [0, 0, 3, 7, 15, 0, 0, 96, 224, 480, 1023, 2047, 4095, 8191]
theorem spec_RunClock.tab19 : rtab .any (opsOf Try.f6 19) = spec_RunClock.T19 := by kernel_rfl
theorem spec_RunClock.bits19 : waitsOk spec_RunClock.T19.2 spec_RunClock.B19 = true := by kernel_rfl
def spec_RunClock.T20 : Bool × List (List Nat × List Nat) := (true, [([], []), ([], []), ([0, 1], [0, 1]), ([], []), ([], []), ([4], [4]), ([3, 5], [3, 5]), ([2, 6], [2, 6]), ([7, 7, 0, 1, 2, 3, 4, 5, 6, 7], [0, 3, 7])])
def spec_RunClock.B20 : List Nat := [0, 0, 3, 0, 0, 16, 56, 127, 255]
theorem spec_RunClock.tab20 : rtab .any (opsOf Try.f6 20) = spec_RunClock.T20 := by kernel_rfl
theorem spec_RunClock.bits20 : waitsOk spec_RunClock.T20.2 spec_RunClock.B20 = true := by kernel_rfl
set_option maxHeartbeats 8000000 in
set_option maxRecDepth 100000 in
theorem spec_RunClock.calls (k : Nat) (a0_0 : Int) (A0_1 : Option Addr) (c0_1 : Nat) (l0_1 : List (S47)) (a1 : Int) (r1 : Int) (r2 : List (S47)) (r3 : List (S50)) (r4 : Bool) (w : World) (hr0_1 : Kd.C k47 w A0_1 l0_1.length l0_1) (hc0_1 : l0_1.length ≤ c0_1) (h : spec_RunClock.f k a0_0 l0_1 a1 = some (r1, r2, r3, r4)) :
  Calls Try.prog 6 #[.agg #[.int .i64 a0_0, .slice A0_1 l0_1.length c0_1], .int .i64 a1] w fun e w' => ∃ v1_ v2_ : Value, e = .returned (.tuple #[.agg #[.int .i64 r1, v1_], v2_, .bool r4]) ∧ Kd.R k47 47 w' w.heap.size (fun _ => True) v1_ r2 ∧ Kd.R k50 50 w' w.heap.size (fun _ => True) v2_ r3 ∧ Below w.heap.size w w' := by
 have hu25 := Try.underlying25
 have hu47 := Try.underlying47
 have hu50 := Try.underlying50
 have HR0_1 := Aside0.mk hr0_1
 have HC0_1 := Aside0.mk hc0_1
 clear hr0_1 hc0_1
 have HB := Aside0.mk (Below.refl w.heap.size w)
 have H : ((spec_GoodClock.f k a0_0 l0_1).bind fun t316 => (if t316 = true then ((spec_l1In.f a1 a0_0 100000).bind fun t317 => (spec_RunClock.j0 k a1 (!t317) a0_0 l0_1)) else (spec_RunClock.j0 k a1 true a0_0 l0_1))) = some (r1, r2, r3, r4) := h
 clear h
 have HC3 := Aside0.mk H
 clear H
 go_enter Try.func6, Try.ntmps6
 go_upto_region 1 with (first | ((with_reducible refine gate_dst (N := 2) rfl ?_); refine box_event rfl (N := 2) rfl (cs := #[.int .i64 a0_0, .slice A0_1 l0_1.length c0_1]) (t := 25) sE ?_; intro gb314 hg w4 hbox hb; have BK314 := Aside0.mk hbox; have GW314 := gS w hg (lU); have GE314 := gS w hg (lU); replace HB := bH (lU) hb; clear hb hbox hg) | ((with_reducible refine gate_dst (N := 4) rfl ?_); refine box_event rfl (N := 4) rfl (cs := #[.int .i64 0, .slice none 0 0]) (t := 25) sE ?_; intro gb315 hg w5 hbox hb; have BK315 := Aside0.mk hbox; have GW315 := gS w hg (lV1 GE314); have GE315 := gS w hg (lV1 GE314); replace HB := bH (lV1 GE314) hb; have NB314_315 := nL hg (bV BK314); have NB315_314 := nG hg (bV BK314); replace BK314 := bB (bV BK314) hb; clear hb hbox hg))
 (try simp only [Act.put, List.setIfInBounds_toArray, List.set_cons_zero, List.set_cons_succ])
 go_cut [21] (fun v21 wc => ∃ (kq : Nat) (x21_2 : Bool), v21 = .bool x21_2 ∧ Aside0 (spec_RunClock.j0 kq a1 x21_2 a0_0 l0_1 = some (r1, r2, r3, r4)) ∧ Aside0 (kq ≤ k) ∧ Aside0 (wc.heap[gb314]? = some (.cells #[.int .i64 a0_0, (.slice A0_1 l0_1.length c0_1)] 25 (0, 0))) ∧ Aside0 (wc.heap[gb315]? = some (.cells #[.int .i64 0, (.slice none 0 0)] 25 (0, 0))) ∧ Aside0 (Below w.heap.size w wc))
 case first =>
  have H := HC3.out
  clear HC3
  replace H := Option.bind_eq_some_iff.mp H
  obtain ⟨t316, A60, H⟩ := H
  replace H : (if t316 = true then ((spec_l1In.f a1 a0_0 100000).bind fun t317 => (spec_RunClock.j0 k a1 (!t317) a0_0 l0_1)) else (spec_RunClock.j0 k a1 true a0_0 l0_1)) = some (r1, r2, r3, r4) := H
  have A6 := Aside0.mk A60
  clear A60
  by_cases c7 : t316 = true
  ·subst c7
   have H1 : ((spec_l1In.f a1 a0_0 100000).bind fun t317 => (spec_RunClock.j0 k a1 (!t317) a0_0 l0_1)) = some (r1, r2, r3, r4) := by rw [if_pos rfl] at H; exact H
   clear H
   have H := H1
   clear H1
   replace H := Option.bind_eq_some_iff.mp H
   obtain ⟨t317, A80, H⟩ := H
   replace H : (spec_RunClock.j0 k a1 (!t317) a0_0 l0_1) = some (r1, r2, r3, r4) := H
   have A8 := Aside0.mk A80
   clear A80
   have H' := Aside0.mk H
   clear H
   have hnb9 := NB314_315.out
   have hnc9 := NB315_314.out
   have hcz10_0 := cz BK314 0 (.int .i64 a0_0)
   have hcz10_1 := cz BK314 1 (.slice A0_1 l0_1.length c0_1)
   have hfz10_0 := fz BK314 0
   have hfz10_1 := fz BK314 1
   go_wp2_with (first | ((with_reducible refine gate_callee (f := 17) rfl ?_); refine goesL_ (some 13) rfl rfl Try.func17 (by kernel_rfl) rfl #[.agg #[.int .i64 a0_0, .slice A0_1 l0_1.length c0_1]] rfl aE ?_; (with_reducible refine (spec_GoodClock.calls k a0_0 _ _ l0_1 true _ ?side1 ?side2 A6.out).mono ?_); (case side1 => exact cU (Kd.C_below HR0_1.out HB.out)); (case side2 => exact HC0_1.out); rintro e w11 ⟨rfl, hb⟩; refine ⟨_, rfl, ?_⟩; replace BK314 := bB (bV BK314) hb; replace BK315 := bB (bV BK315) hb; replace HB := bH (lV2 GE314 GE315) hb; (try clear hb); have hcz12_0 := cz BK314 0 (.int .i64 a0_0); have hcz12_1 := cz BK314 1 (.slice A0_1 l0_1.length c0_1); have hfz12_0 := fz BK314 0; have hfz12_1 := fz BK314 1) | (go_at_call 18; (with_reducible refine (spec_l1In.calls a1 a0_0 100000 t317 _ A8.out).mono ?_); rintro e w' ⟨rfl, ⟨nd, rfl⟩⟩))
   go_meet
   case rel => exact ⟨_, (!t317), tE, H', ⟨by first | omega | exact Nat.le_refl _⟩, ⟨by refine bU ?_; exact BK314.out⟩, ⟨by refine bU ?_; exact BK315.out⟩, ⟨by repeat (first | (with_reducible first | exact HB.out | apply below_alloc | apply pw_below_drewN | apply below_drew1 | refine below_set ?_ GE314.out | refine below_set ?_ GE315.out) | exact HB.out)⟩⟩
  ·replace c7 := Bool.eq_false_iff.mpr c7
   subst c7
   have H1 : (spec_RunClock.j0 k a1 true a0_0 l0_1) = some (r1, r2, r3, r4) := by rw [if_neg (show ¬ (false = true) by decide)] at H; exact H
   clear H
   have H := H1
   clear H1
   have H' := Aside0.mk H
   clear H
   have hnb13 := NB314_315.out
   have hnc13 := NB315_314.out
   have hcz14_0 := cz BK314 0 (.int .i64 a0_0)
   have hcz14_1 := cz BK314 1 (.slice A0_1 l0_1.length c0_1)
   have hfz14_0 := fz BK314 0
   have hfz14_1 := fz BK314 1
   go_wp2_with (first | ((with_reducible refine gate_callee (f := 17) rfl ?_); refine goesL_ (some 13) rfl rfl Try.func17 (by kernel_rfl) rfl #[.agg #[.int .i64 a0_0, .slice A0_1 l0_1.length c0_1]] rfl aE ?_; (with_reducible refine (spec_GoodClock.calls k a0_0 _ _ l0_1 false _ ?side1 ?side2 A6.out).mono ?_); (case side1 => exact cU (Kd.C_below HR0_1.out HB.out)); (case side2 => exact HC0_1.out); rintro e w15 ⟨rfl, hb⟩; refine ⟨_, rfl, ?_⟩; replace BK314 := bB (bV BK314) hb; replace BK315 := bB (bV BK315) hb; replace HB := bH (lV2 GE314 GE315) hb; (try clear hb)))
   go_meet
   case rel => exact ⟨_, (true), tE, H', ⟨by first | omega | exact Nat.le_refl _⟩, ⟨by refine bU ?_; exact BK314.out⟩, ⟨by refine bU ?_; exact BK315.out⟩, ⟨by repeat (first | (with_reducible first | exact HB.out | apply below_alloc | apply pw_below_drewN | apply below_drew1 | refine below_set ?_ GE314.out | refine below_set ?_ GE315.out) | exact HB.out)⟩⟩
 case rest =>
  clear HC3
  try clear c1
  try clear p2
  try clear c6
  try clear c7
  try clear c9
  try clear c13
  try clear hcz10_0
  try clear hcz10_1
  try clear hcz12_0
  try clear hcz12_1
  try clear hcz14_0
  try clear hcz14_1
  try clear hfz10_0
  try clear hfz10_1
  try clear hfz12_0
  try clear hfz12_1
  try clear hfz14_0
  try clear hfz14_1
  obtain ⟨kq, x21_2, rfl, HA, HJ2, BK314, BK315, HB⟩ := hcut
  cases kq with
  | zero => exact absurd HA.out (by simp [spec_RunClock.j0])
  | succ kj2 =>
   have H := HA.out
   clear HA
   simp only [spec_RunClock.j0] at H
   by_cases c16 : x21_2 = true
   ·subst c16
    have H1 : (some (0, ([] : List (S47)), ([] : List (S50)), false)) = some (r1, r2, r3, r4) := by rw [if_pos rfl] at H; exact H
    clear H
    have H := H1
    clear H1
    simp only [Option.some.injEq, Prod.mk.injEq] at H
    obtain ⟨rfl, rfl, rfl, rfl⟩ := H
    have hnb17 := NB315_314.out
    have hnc17 := NB314_315.out
    have hcz18_0 := cz BK315 0 (.int .i64 0)
    have hcz18_1 := cz BK315 1 (.slice none 0 0)
    have hfz18_0 := fz BK315 0
    have hfz18_1 := fz BK315 1
    go_wp2
    refine bodyPost_ret (results_ctt rfl _ _ gb315 25 #[.int .i64 0, .slice none 0 0] (0, 0) _ rfl (by refine bU ?_; refine blk_put (cs := #[.int .i64 0, .slice none 0 0]) ?_ 1 _ rfl; refine bU ?_; refine blk_put (cs := #[.int .i64 0, .slice none 0 0]) ?_ 0 _ rfl; refine bU ?_; exact BK315.out) Try.underlying25 rfl (by kernel_rfl)) rfl ?_
    exact ⟨_, _, eE, by first | exact Kd.R_nil _ _ _ _ _ | exact Kd.N_nil _ _ _ _ _ | exact Kd.V_nil _ _ _ _ _ | exact Kd.Q_nil _ _ _ _ _ | exact Kd.S_nil _ _ _ _ _, by first | exact Kd.R_nil _ _ _ _ _ | exact Kd.N_nil _ _ _ _ _ | exact Kd.V_nil _ _ _ _ _ | exact Kd.Q_nil _ _ _ _ _ | exact Kd.S_nil _ _ _ _ _, lV2 GE314 GE315⟩
   ·replace c16 := Bool.eq_false_iff.mpr c16
    subst c16
    have H1 : ((some (([] : List (S47)) : List (S47))).bind fun y318 => (if y318.length + l0_1.length < 4398046511104 then (spec_RunClock.l0 kj2 a1 (y318 ++ l0_1) ([] : List (S50))) else (none))) = some (r1, r2, r3, r4) := by rw [if_neg (show ¬ (false = true) by decide)] at H; exact H
    clear H
    have H := H1
    clear H1
    obtain ⟨y318, hy318⟩ : ∃ y_ : List (S47), y_ = (([] : List (S47))) := ⟨_, rfl⟩
    replace H : (if y318.length + l0_1.length < 4398046511104 then (spec_RunClock.l0 kj2 a1 (y318 ++ l0_1) ([] : List (S50))) else (none)) = some (r1, r2, r3, r4) := by first | (rw [hy318]; with_reducible exact H) | (have H2_ := (Option.bind_some _ _).symm.trans H; rw [hy318]; with_reducible exact H2_) | (have H2_ := (Option.bind_some _ _).symm.trans H; with_reducible exact H2_) | with_reducible exact H | (rw [hy318]; exact H) | exact H
    have Ny318 := Aside0.mk hy318
    clear hy318
    by_cases c19 : y318.length + l0_1.length < 4398046511104
    ·rw [if_pos c19] at H
     have LMc19 := Aside0.mk c19
     clear c19
     obtain ⟨y321, hy321⟩ : ∃ y_ : List (S47), y_ = (y318 ++ l0_1) := ⟨_, rfl⟩
     replace H : (spec_RunClock.l0 kj2 a1 y321 ([] : List (S50))) = some (r1, r2, r3, r4) := by first | (rw [hy321]; with_reducible exact H) | (have H2_ := (Option.bind_some _ _).symm.trans H; rw [hy321]; with_reducible exact H2_) | (have H2_ := (Option.bind_some _ _).symm.trans H; with_reducible exact H2_) | with_reducible exact H | (rw [hy321]; exact H) | exact H
     have Ny321 := Aside0.mk hy321
     clear hy321
     have H' := Aside0.mk H
     clear H
     go_wp2_with (first | ((with_reducible refine gate_dst (N := 23) rfl ?_); refine Kd.R_lit k47 _ 47 ?hg (N := 23) ?hd (xs := ([] : List (S47))) (inner := []) (ok := fun _ => True) (okp := fun _ => True) ?hr ?hp (fun _ hk => hk) trivial (Below.refl _ _) (Nat.le_refl _) (by simp) ?_; (case hd => rfl); (case hg => rfl); (case hr => exact sE); (case hp => exact (Reps.none _ _)); intro v319 w20 ho21 hb hg_ hnew_; clear hg_ hnew_; (first | rw [← Ny318.out] at ho21 | (simp only [Int.reduceToNat] at ho21; rw [← Ny318.out] at ho21)); have HO320 := Aside0.mk (Kd.R_lower ho21 (below_size (lV2 GE314 GE315))); replace BK314 := bB (bV BK314) hb; replace BK315 := bB (bV BK315) hb; replace HB := bH (lV2 GE314 GE315) hb; clear hb ho21; have hnb22 := NB314_315.out; have hnc22 := NB315_314.out; have hcz23_0 := cz BK314 0 (.int .i64 a0_0); have hcz23_1 := cz BK314 1 (.slice A0_1 l0_1.length c0_1); have hfz23_0 := fz BK314 0; have hfz23_1 := fz BK314 1) | ((with_reducible refine gate_builtin (b := .append) (xs := #[.tmp 23, .tmp 25]) rfl ?_); at_builtin; refine Kd.R_append_rows k47 (w0 := w) w.heap.size rfl (.tmp 23) (.tmp 25) 23 47 (.agg #[(.int .i64 0), (.int .i64 0), (.int .i64 0), (.int .i64 0)]) 32 rfl Try.underlying23 info47 rfl (by decide) (by omega) v319 y318 l0_1 _ _ _ (fun _ => True) (fun _ => False) rfl rfl ?aO ?aR (fun _ _ h => h) (fun _ h => h.elim) ?aF ?aB ?aS ?aL ?_; (case aR => repeat (first | exact (Kd.C_below HR0_1.out HB.out) | exact (Kd.C_drewN (Kd.C_below HR0_1.out HB.out) _) | exact (Kd.C_drew (Kd.C_below HR0_1.out HB.out)) | exact (Kd.C_alloc (Kd.C_below HR0_1.out HB.out) _) | (with_reducible refine Kd.C_alloc ?_ _) | (with_reducible refine Kd.C_drewN ?_ _) | (with_reducible refine Kd.C_drew ?_))); (case aB => exact (lV2 GE314 GE315)); (case aF => exact (fun _ _ => trivial)); (case aO => exact (rU HO320.out)); (case aS => exact (below_size (lV2 GE314 GE315))); (case aL => have := LMc19.out; omega); intro v322 w24 ho hb hg hat; rw [← Ny321.out] at ho; replace BK314 := Aside0.mk (blk_grown (g := gb314) (o := .cells #[.int .i64 a0_0, .slice A0_1 l0_1.length c0_1] 25 (0, 0)) (bV BK314) hg (Kd.R_ne HO320.out BK314.out (by decide))); replace BK315 := Aside0.mk (blk_grown (g := gb315) (o := .cells #[.int .i64 0, .slice none 0 0] 25 (0, 0)) (bV BK315) hg (Kd.R_ne HO320.out BK315.out (by decide))); replace HB := Aside0.mk hb; have HO323 := Aside0.mk ho; clear HO320; clear ho hb hg hat))
     (try simp only [Act.put, List.setIfInBounds_toArray, List.set_cons_zero, List.set_cons_succ])
     go_loopg [7, 8] kj2 (fun kq v7 v8 w' => ∃ (x7_2 : List (S47)) (x8_2 : List (S50)) (x316000_2 : Int), Aside0 (spec_RunClock.l0 kq a1 x7_2 x8_2 = some (r1, r2, r3, r4)) ∧ Aside0 (kq ≤ kj2) ∧ Aside0 (Kd.R k47 47 w' w.heap.size (fun _ => True) v7 x7_2) ∧ Aside0 (Kd.R k50 50 w' w.heap.size (fun _ => True) v8 x8_2) ∧ Aside0 (w'.heap[gb314]? = some (.cells #[.int .i64 a0_0, (.slice A0_1 l0_1.length c0_1)] 25 (0, 0))) ∧ Aside0 (w'.heap[gb315]? = some (.cells #[.int .i64 x316000_2, (.slice none 0 0)] 25 (0, 0))) ∧ Aside0 (Below w.heap.size w w'))
     case atStart => exact ⟨(y321), (([] : List (S50))), (0), H', ⟨Nat.le_refl _⟩, ⟨by (with_reducible repeat (first | apply Kd.R_alloc | apply Kd.R_drewN | apply Kd.R_drew)); exact HO323.out⟩, ⟨by first | exact Kd.R_nil _ _ _ _ _ | exact Kd.N_nil _ _ _ _ _ | exact Kd.V_nil _ _ _ _ _ | exact Kd.Q_nil _ _ _ _ _ | exact Kd.S_nil _ _ _ _ _⟩, ⟨by refine bU ?_; exact BK314.out⟩, ⟨by refine bU ?_; exact BK315.out⟩, ⟨by repeat (first | (with_reducible first | exact HB.out | apply below_alloc | apply pw_below_drewN | apply below_drew1 | refine below_set ?_ GE314.out | refine below_set ?_ GE315.out) | exact HB.out)⟩⟩
     case round =>
      clear H'
      try clear c1
      try clear c2
      try clear p2
      try clear c6
      try clear c7
      try clear c9
      try clear c13
      try clear c16
      try clear c17
      try clear c19
      try clear c22
      try clear hcz10_0
      try clear hcz10_1
      try clear hcz12_0
      try clear hcz12_1
      try clear hcz14_0
      try clear hcz14_1
      try clear hcz18_0
      try clear hcz18_1
      try clear hcz23_0
      try clear hcz23_1
      try clear hfz10_0
      try clear hfz10_1
      try clear hfz12_0
      try clear hfz12_1
      try clear hfz14_0
      try clear hfz14_1
      try clear hfz18_0
      try clear hfz18_1
      try clear hfz23_0
      try clear hfz23_1
      try clear p2
      obtain ⟨x7_2, x8_2, x316000_2, HA, HK2, HO_7, HO_8, BK314, BK315, HB⟩ := hrel
      cases gk with
      | zero => exact absurd HA.out (by simp [spec_RunClock.l0])
      | succ k2 =>
       have H := HA.out
       clear HA
       simp only [spec_RunClock.l0] at H
       have H' := Aside0.mk H
       clear H
       obtain ⟨Ao25, co25, eo25⟩ := Kd.R_slice HO_7.out
       subst eo25
       go_wp2
       go_loopg [9, 29] k2 (fun kq v9 v29 w' => ∃ (x9_3 : Int) (x29_3 : Int), v9 = .int .i64 x9_3 ∧ v29 = .int .i64 x29_3 ∧ Aside0 (spec_RunClock.l1 kq a1 x7_2 x8_2 x9_3 x7_2 (x7_2.length : Int) x29_3 = some (r1, r2, r3, r4)) ∧ Aside0 (kq ≤ k2) ∧ Aside0 (Kd.R k47 47 w' w.heap.size (fun _ => True) (.slice Ao25 x7_2.length co25) x7_2) ∧ Aside0 (Kd.R k50 50 w' w.heap.size (fun _ => True) u8 x8_2) ∧ Aside0 (Kd.R k47 47 w' w.heap.size (fun _ => True) (.slice Ao25 x7_2.length co25) x7_2) ∧ Aside0 (w'.heap[gb314]? = some (.cells #[.int .i64 a0_0, (.slice A0_1 l0_1.length c0_1)] 25 (0, 0))) ∧ Aside0 (w'.heap[gb315]? = some (.cells #[.int .i64 x316000_2, (.slice none 0 0)] 25 (0, 0))) ∧ Aside0 (Below w.heap.size w w'))
       case atStart => exact ⟨((-1)), (0), tE, tE, H', ⟨Nat.le_refl _⟩, ⟨by (with_reducible repeat (first | apply Kd.R_alloc | apply Kd.R_drewN | apply Kd.R_drew)); exact HO_7.out⟩, ⟨by (with_reducible repeat (first | apply Kd.R_alloc | apply Kd.R_drewN | apply Kd.R_drew)); exact HO_8.out⟩, ⟨by (with_reducible repeat (first | apply Kd.R_alloc | apply Kd.R_drewN | apply Kd.R_drew)); exact HO_7.out⟩, ⟨by refine bU ?_; exact BK314.out⟩, ⟨by refine bU ?_; exact BK315.out⟩, ⟨by repeat (first | (with_reducible first | exact HB.out | apply below_alloc | apply pw_below_drewN | apply below_drew1 | refine below_set ?_ GE314.out | refine below_set ?_ GE315.out) | exact HB.out)⟩⟩
       case round =>
        clear H'
        try clear c1
        try clear c2
        try clear p2
        try clear c6
        try clear c7
        try clear c9
        try clear c13
        try clear c16
        try clear c17
        try clear c19
        try clear c22
        try clear hcz10_0
        try clear hcz10_1
        try clear hcz12_0
        try clear hcz12_1
        try clear hcz14_0
        try clear hcz14_1
        try clear hcz18_0
        try clear hcz18_1
        try clear hcz23_0
        try clear hcz23_1
        try clear hfz10_0
        try clear hfz10_1
        try clear hfz12_0
        try clear hfz12_1
        try clear hfz14_0
        try clear hfz14_1
        try clear hfz18_0
        try clear hfz18_1
        try clear hfz23_0
        try clear hfz23_1
        try clear p2
        obtain ⟨x9_3, x29_3, rfl, rfl, HA, HK3, HO_7, HO_8, HO_27, BK314, BK315, HB⟩ := hrel
        cases gk with
        | zero => exact absurd HA.out (by simp [spec_RunClock.l1])
        | succ k3 =>
         have H := HA.out
         clear HA
         simp only [spec_RunClock.l1] at H
         by_cases c26 : x29_3 < (x7_2.length : Int)
         ·rw [if_pos c26] at H
          have c26b0 : decide (x29_3 < (x7_2.length : Int)) = true := decide_eq_true c26
          clear c26
          by_cases c27 : 0 ≤ x29_3
          ·rw [if_pos c27] at H
           have c27b0 : decide (0 ≤ x29_3) = true := decide_eq_true c27
           clear c27
           by_cases c28 : x29_3 < (x7_2.length : Int)
           ·rw [if_pos c28] at H
            have c28b0 : decide (x29_3 < (x7_2.length : Int)) = true := decide_eq_true c28
            clear c28
            by_cases c29 : ((rd_T47 x7_2 x29_3).f1) ≤ a1
            ·rw [if_pos c29] at H
             have c29b0 : decide (((rd_T47 x7_2 x29_3).f1) ≤ a1) = true := decide_eq_true c29
             clear c29
             by_cases c30 : x9_3 < 0
             ·rw [if_pos c30] at H
              have c30b0 : decide (x9_3 < 0) = true := decide_eq_true c30
              clear c30
              have H' := Aside0.mk H
              clear H
              have p324 : 0 ≤ (x29_3 : Int) := of_decide_eq_true hE
              have q324 : x29_3 < (x7_2.length : Int) := of_decide_eq_true hE
              obtain ⟨ad324, e324, hx324_0, hx324_1, hx324_2, hx324_3⟩ := at_T47 (Kd.R_reads' HO_27.out).2.2 x29_3 p324 q324
              cases e324
              replace p324 := eq_true p324
              replace q324 := eq_true q324
              try go_wp2_with (first | ((with_reducible refine gate_dst (N := 11) rfl ?_); refine box_event rfl (N := 11) rfl (cs := #[.int .i64 0, .int .i64 0, .int .i64 0, .int .i64 0]) (t := 47) sE ?_; intro gb325 hg w31 hbox hb; replace HO_7 := Aside0.mk (Kd.R_below (Kd.R_elderB (rU HO_7.out) gb325 (Nat.le_of_eq hg.symm)) hb); replace HO_8 := Aside0.mk (Kd.R_below (rU HO_8.out) hb); replace HO_27 := Aside0.mk (Kd.R_below (Kd.R_elderB (rU HO_27.out) gb325 (Nat.le_of_eq hg.symm)) hb); have BK325 := Aside0.mk hbox; have GW325 := gS w hg (lV2 GE314 GE315); have GE325 := gS w hg (lV2 GE314 GE315); replace HB := bH (lV2 GE314 GE315) hb; have NB314_325 := nL hg (bV BK314); have NB325_314 := nG hg (bV BK314); replace BK314 := bB (bV BK314) hb; have NB315_325 := nL hg (bV BK315); have NB325_315 := nG hg (bV BK315); replace BK315 := bB (bV BK315) hb; clear hb hbox hg; have hnb32 := NB325_314.out; have hnc32 := NB314_325.out; have hnb33 := NB325_315.out; have hnc33 := NB315_325.out; have hcz34_0 := cz BK325 0 (.int .i64 0); have hcz34_1 := cz BK325 1 (.int .i64 0); have hcz34_2 := cz BK325 2 (.int .i64 0); have hcz34_3 := cz BK325 3 (.int .i64 0); have hfz34_0 := fz BK325 0; have hfz34_1 := fz BK325 1; have hfz34_2 := fz BK325 2; have hfz34_3 := fz BK325 3))
              have n0_ : Aside0 (Kd.R k47 47 ((((w31.setCell ⟨gb325, 0, none⟩ (.int .i64 ((rd_T47 x7_2 x29_3).f0))).setCell ⟨gb325, 1, none⟩ (.int .i64 ((rd_T47 x7_2 x29_3).f1))).setCell ⟨gb325, 2, none⟩ (.int .i64 ((rd_T47 x7_2 x29_3).f2))).setCell ⟨gb325, 3, none⟩ (.int .i64 ((rd_T47 x7_2 x29_3).f3))) w.heap.size (fun k_ => k_ ≠ gb325) (.slice (some ad324) x7_2.length co25) x7_2) := ⟨by (with_reducible repeat (first | apply Kd.R_alloc | apply Kd.R_drewN | apply Kd.R_drew)); exact Kd.R_mono (Kd.R_far (p := ⟨gb325, 3, none⟩) (Kd.R_far (p := ⟨gb325, 2, none⟩) (Kd.R_far (p := ⟨gb325, 1, none⟩) (Kd.R_far (p := ⟨gb325, 0, none⟩) (Kd.R_mono HO_7.out (fun k_ hk => (⟨hk, hk.2⟩ : _ ∧ k_ ≠ gb325))) (fun _ hk => hk.2) (.int .i64 ((rd_T47 x7_2 x29_3).f0))) (fun _ hk => hk.2) (.int .i64 ((rd_T47 x7_2 x29_3).f1))) (fun _ hk => hk.2) (.int .i64 ((rd_T47 x7_2 x29_3).f2))) (fun _ hk => hk.2) (.int .i64 ((rd_T47 x7_2 x29_3).f3))) (fun _ hk => hk.1.2)⟩
              have n1_ : Aside0 (Kd.R k50 50 ((((w31.setCell ⟨gb325, 0, none⟩ (.int .i64 ((rd_T47 x7_2 x29_3).f0))).setCell ⟨gb325, 1, none⟩ (.int .i64 ((rd_T47 x7_2 x29_3).f1))).setCell ⟨gb325, 2, none⟩ (.int .i64 ((rd_T47 x7_2 x29_3).f2))).setCell ⟨gb325, 3, none⟩ (.int .i64 ((rd_T47 x7_2 x29_3).f3))) w.heap.size (fun _ => True) u8 x8_2) := ⟨by (with_reducible repeat (first | apply Kd.R_alloc | apply Kd.R_drewN | apply Kd.R_drew)); exact Kd.R_mono (Kd.R_far (p := ⟨gb325, 3, none⟩) (Kd.R_far (p := ⟨gb325, 2, none⟩) (Kd.R_far (p := ⟨gb325, 1, none⟩) (Kd.R_far (p := ⟨gb325, 0, none⟩) (Kd.R_types HO_8.out BK325.out (by decide)) (fun _ hk => hk.2) (.int .i64 ((rd_T47 x7_2 x29_3).f0))) (fun _ hk => hk.2) (.int .i64 ((rd_T47 x7_2 x29_3).f1))) (fun _ hk => hk.2) (.int .i64 ((rd_T47 x7_2 x29_3).f2))) (fun _ hk => hk.2) (.int .i64 ((rd_T47 x7_2 x29_3).f3))) (fun _ hk => trivial)⟩
              have n2_ : Aside0 (Kd.R k47 47 ((((w31.setCell ⟨gb325, 0, none⟩ (.int .i64 ((rd_T47 x7_2 x29_3).f0))).setCell ⟨gb325, 1, none⟩ (.int .i64 ((rd_T47 x7_2 x29_3).f1))).setCell ⟨gb325, 2, none⟩ (.int .i64 ((rd_T47 x7_2 x29_3).f2))).setCell ⟨gb325, 3, none⟩ (.int .i64 ((rd_T47 x7_2 x29_3).f3))) w.heap.size (fun k_ => k_ ≠ gb325) (.slice (some ad324) x7_2.length co25) x7_2) := ⟨by (with_reducible repeat (first | apply Kd.R_alloc | apply Kd.R_drewN | apply Kd.R_drew)); exact Kd.R_mono (Kd.R_far (p := ⟨gb325, 3, none⟩) (Kd.R_far (p := ⟨gb325, 2, none⟩) (Kd.R_far (p := ⟨gb325, 1, none⟩) (Kd.R_far (p := ⟨gb325, 0, none⟩) (Kd.R_mono HO_27.out (fun k_ hk => (⟨hk, hk.2⟩ : _ ∧ k_ ≠ gb325))) (fun _ hk => hk.2) (.int .i64 ((rd_T47 x7_2 x29_3).f0))) (fun _ hk => hk.2) (.int .i64 ((rd_T47 x7_2 x29_3).f1))) (fun _ hk => hk.2) (.int .i64 ((rd_T47 x7_2 x29_3).f2))) (fun _ hk => hk.2) (.int .i64 ((rd_T47 x7_2 x29_3).f3))) (fun _ hk => hk.1.2)⟩
              have n3_ : Aside0 (((((w31.setCell ⟨gb325, 0, none⟩ (.int .i64 ((rd_T47 x7_2 x29_3).f0))).setCell ⟨gb325, 1, none⟩ (.int .i64 ((rd_T47 x7_2 x29_3).f1))).setCell ⟨gb325, 2, none⟩ (.int .i64 ((rd_T47 x7_2 x29_3).f2))).setCell ⟨gb325, 3, none⟩ (.int .i64 ((rd_T47 x7_2 x29_3).f3))).heap[gb314]? = some (.cells #[.int .i64 a0_0, .slice A0_1 l0_1.length c0_1] 25 (0, 0))) := ⟨by refine bU ?_; refine blk_far ?_ NB314_325.out _; refine bU ?_; refine blk_far ?_ NB314_325.out _; refine bU ?_; refine blk_far ?_ NB314_325.out _; refine bU ?_; refine blk_far ?_ NB314_325.out _; refine bU ?_; exact BK314.out⟩
              have n4_ : Aside0 (((((w31.setCell ⟨gb325, 0, none⟩ (.int .i64 ((rd_T47 x7_2 x29_3).f0))).setCell ⟨gb325, 1, none⟩ (.int .i64 ((rd_T47 x7_2 x29_3).f1))).setCell ⟨gb325, 2, none⟩ (.int .i64 ((rd_T47 x7_2 x29_3).f2))).setCell ⟨gb325, 3, none⟩ (.int .i64 ((rd_T47 x7_2 x29_3).f3))).heap[gb315]? = some (.cells #[.int .i64 x316000_2, .slice none 0 0] 25 (0, 0))) := ⟨by refine bU ?_; refine blk_far ?_ NB315_325.out _; refine bU ?_; refine blk_far ?_ NB315_325.out _; refine bU ?_; refine blk_far ?_ NB315_325.out _; refine bU ?_; refine blk_far ?_ NB315_325.out _; refine bU ?_; exact BK315.out⟩
              have n5_ : Aside0 (((((w31.setCell ⟨gb325, 0, none⟩ (.int .i64 ((rd_T47 x7_2 x29_3).f0))).setCell ⟨gb325, 1, none⟩ (.int .i64 ((rd_T47 x7_2 x29_3).f1))).setCell ⟨gb325, 2, none⟩ (.int .i64 ((rd_T47 x7_2 x29_3).f2))).setCell ⟨gb325, 3, none⟩ (.int .i64 ((rd_T47 x7_2 x29_3).f3))).heap[gb325]? = some (.cells #[.int .i64 ((rd_T47 x7_2 x29_3).f0), .int .i64 ((rd_T47 x7_2 x29_3).f1), .int .i64 ((rd_T47 x7_2 x29_3).f2), .int .i64 ((rd_T47 x7_2 x29_3).f3)] 47 (0, 0))) := ⟨by refine bU ?_; refine blk_put (cs := #[.int .i64 ((rd_T47 x7_2 x29_3).f0), .int .i64 ((rd_T47 x7_2 x29_3).f1), .int .i64 ((rd_T47 x7_2 x29_3).f2), .int .i64 0]) ?_ 3 _ rfl; refine bU ?_; refine blk_put (cs := #[.int .i64 ((rd_T47 x7_2 x29_3).f0), .int .i64 ((rd_T47 x7_2 x29_3).f1), .int .i64 0, .int .i64 0]) ?_ 2 _ rfl; refine bU ?_; refine blk_put (cs := #[.int .i64 ((rd_T47 x7_2 x29_3).f0), .int .i64 0, .int .i64 0, .int .i64 0]) ?_ 1 _ rfl; refine bU ?_; refine blk_put (cs := #[.int .i64 0, .int .i64 0, .int .i64 0, .int .i64 0]) ?_ 0 _ rfl; refine bU ?_; exact BK325.out⟩
              have n6_ : Aside0 (Below w.heap.size w ((((w31.setCell ⟨gb325, 0, none⟩ (.int .i64 ((rd_T47 x7_2 x29_3).f0))).setCell ⟨gb325, 1, none⟩ (.int .i64 ((rd_T47 x7_2 x29_3).f1))).setCell ⟨gb325, 2, none⟩ (.int .i64 ((rd_T47 x7_2 x29_3).f2))).setCell ⟨gb325, 3, none⟩ (.int .i64 ((rd_T47 x7_2 x29_3).f3)))) := ⟨by repeat (first | (with_reducible first | exact HB.out | apply below_alloc | apply pw_below_drewN | apply below_drew1 | refine below_set ?_ GE314.out | refine below_set ?_ GE315.out | refine below_set ?_ GE325.out) | exact HB.out)⟩
              (try clear HO_7)
              (try clear HO_8)
              (try clear HO_27)
              (try clear BK314)
              (try clear BK315)
              (try clear BK325)
              (try clear HB)
              generalize ((((w31.setCell ⟨gb325, 0, none⟩ (.int .i64 ((rd_T47 x7_2 x29_3).f0))).setCell ⟨gb325, 1, none⟩ (.int .i64 ((rd_T47 x7_2 x29_3).f1))).setCell ⟨gb325, 2, none⟩ (.int .i64 ((rd_T47 x7_2 x29_3).f2))).setCell ⟨gb325, 3, none⟩ (.int .i64 ((rd_T47 x7_2 x29_3).f3))) = w35 at n0_ n1_ n2_ n3_ n4_ n5_ n6_ ⊢
              have HO_7 := n0_
              have HO_8 := n1_
              have HO_27 := n2_
              have BK314 := n3_
              have BK315 := n4_
              have BK325 := n5_
              have HB := n6_
              clear n0_ n1_ n2_ n3_ n4_ n5_ n6_
              replace HO_7 := Aside0.mk (Kd.R_drew HO_7.out)
              replace HO_8 := Aside0.mk (Kd.R_drew HO_8.out)
              replace HO_27 := Aside0.mk (Kd.R_drew HO_27.out)
              replace BK314 := Aside0.mk (blk_drew BK314.out)
              replace BK315 := Aside0.mk (blk_drew BK315.out)
              replace BK325 := Aside0.mk (blk_drew BK325.out)
              replace HB := Aside0.mk (below_drew1 HB.out)
              refine start_ (n := 18) (S := fun w' => w'.cell? ⟨gb325, 0, none⟩ = some (.int .i64 ((rd_T47 x7_2 x29_3).f0)) ∧ w'.cell? ⟨gb325, 1, none⟩ = some (.int .i64 ((rd_T47 x7_2 x29_3).f1)) ∧ w'.cell? ⟨gb325, 2, none⟩ = some (.int .i64 ((rd_T47 x7_2 x29_3).f2)) ∧ w'.cell? ⟨gb325, 3, none⟩ = some (.int .i64 ((rd_T47 x7_2 x29_3).f3))) (ds := []) #[false, false, false, false, false, false, false, false, false, false, false, false, false, false, false, false, false, false] (by kernel_rfl) rfl rfl ⟨cz BK325 0 _, cz BK325 1 _, cz BK325 2 _, cz BK325 3 _⟩ (fun hHeld => ?_); refine with_tabW spec_RunClock.tab9 spec_RunClock.bits9 (fun HT_ HW_ => ?_)
              generalize w35.drew = w36 at HO_7 HO_8 HO_27 BK314 BK315 BK325 HB hHeld ⊢
              refine pureA 0 34 (bz 18 1) rfl rfl (any_of HT_.out (by kernel_rfl)) ?_
              refine pureA 2 36 (bz 18 5) rfl rfl (any_of HT_.out (by kernel_rfl)) ?_
              refine takeA 1 35 (bz 18 7) rfl rfl (take_ofW HT_.out HW_.out (by kernel_rfl)) hHeld (by rintro w' ⟨s0, s1, s2, s3⟩; go_simp; with_reducible rfl) ?_
              refine pureA 3 37 (bz 18 15) rfl rfl (any_of HT_.out (by kernel_rfl)) ?_
              refine pureA 4 38 (bz 18 31) rfl rfl (any_of HT_.out (by kernel_rfl)) ?_
              refine pureA 5 39 (bz 18 63) rfl rfl (any_of HT_.out (by kernel_rfl)) ?_
              refine pureA 6 40 (bz 18 127) rfl rfl (any_of HT_.out (by kernel_rfl)) ?_
              refine pureA 7 41 (bz 18 255) rfl rfl (any_of HT_.out (by kernel_rfl)) ?_
              refine pureU 8 42 (bz 18 511) rfl rfl (any_of HT_.out (by kernel_rfl)) ?_
              refine pureU 9 43 (bz 18 1023) rfl rfl (any_of HT_.out (by kernel_rfl)) ?_
              refine pureU 10 44 (bz 18 2047) rfl rfl (any_of HT_.out (by kernel_rfl)) ?_
              refine pureU 11 45 (bz 18 4095) rfl rfl (any_of HT_.out (by kernel_rfl)) ?_
              refine pureU 12 46 (bz 18 8191) rfl rfl (any_of HT_.out (by kernel_rfl)) ?_
              refine pureU 13 47 (bz 18 16383) rfl rfl (any_of HT_.out (by kernel_rfl)) ?_
              refine pureU 14 48 (bz 18 32767) rfl rfl (any_of HT_.out (by kernel_rfl)) ?_
              refine pureU 15 49 (bz 18 65535) rfl rfl (any_of HT_.out (by kernel_rfl)) ?_
              refine pureA 16 50 (bz 18 131071) rfl rfl (any_of HT_.out (by kernel_rfl)) ?_
              refine pureA 17 51 (bz 18 262143) rfl rfl (any_of HT_.out (by kernel_rfl)) ?_
              refine done_ (done_of HT_.out (by kernel_rfl)) ?_
              try go_wp2
              go_roundg k3
              case measure => have := HJ2.out; have := HK2.out; have := HK3.out; omega
              case rel => exact ⟨(x29_3), (wrap64 (x29_3 + 1)), tE, tE, H', ⟨by have := HJ2.out; have := HK2.out; have := HK3.out; omega⟩, ⟨by (with_reducible repeat (first | apply Kd.R_alloc | apply Kd.R_drewN | apply Kd.R_drew)); exact Kd.R_mono HO_7.out (fun _ hk => trivial)⟩, ⟨by (with_reducible repeat (first | apply Kd.R_alloc | apply Kd.R_drewN | apply Kd.R_drew)); exact HO_8.out⟩, ⟨by (with_reducible repeat (first | apply Kd.R_alloc | apply Kd.R_drewN | apply Kd.R_drew)); exact Kd.R_mono HO_27.out (fun _ hk => trivial)⟩, ⟨by refine bU ?_; exact BK314.out⟩, ⟨by refine bU ?_; exact BK315.out⟩, ⟨by repeat (first | (with_reducible first | exact HB.out | apply below_alloc | apply pw_below_drewN | apply below_drew1 | refine below_set ?_ GE314.out | refine below_set ?_ GE315.out | refine below_set ?_ GE325.out) | exact HB.out)⟩⟩
             ·rw [if_neg c30] at H
              have c30b0 : decide (x9_3 < 0) = false := decide_eq_false c30
              clear c30
              by_cases c37 : 0 ≤ x9_3
              ·rw [if_pos c37] at H
               have c37b0 : decide (0 ≤ x9_3) = true := decide_eq_true c37
               clear c37
               by_cases c38 : x9_3 < (x7_2.length : Int)
               ·rw [if_pos c38] at H
                have c38b0 : decide (x9_3 < (x7_2.length : Int)) = true := decide_eq_true c38
                clear c38
                by_cases c39 : ((rd_T47 x7_2 x29_3).f1) < ((rd_T47 x7_2 x9_3).f1)
                ·rw [if_pos c39] at H
                 have c39b0 : decide (((rd_T47 x7_2 x29_3).f1) < ((rd_T47 x7_2 x9_3).f1)) = true := decide_eq_true c39
                 clear c39
                 have H' := Aside0.mk H
                 clear H
                 have p324 : 0 ≤ (x29_3 : Int) := of_decide_eq_true hE
                 have q324 : x29_3 < (x7_2.length : Int) := of_decide_eq_true hE
                 obtain ⟨ad324, e324, hx324_0, hx324_1, hx324_2, hx324_3⟩ := at_T47 (Kd.R_reads' HO_27.out).2.2 x29_3 p324 q324
                 cases e324
                 replace p324 := eq_true p324
                 replace q324 := eq_true q324
                 try go_wp2_with (first | ((with_reducible refine gate_dst (N := 11) rfl ?_); refine box_event rfl (N := 11) rfl (cs := #[.int .i64 0, .int .i64 0, .int .i64 0, .int .i64 0]) (t := 47) sE ?_; intro gb325 hg w40 hbox hb; replace HO_7 := Aside0.mk (Kd.R_below (Kd.R_elderB (rU HO_7.out) gb325 (Nat.le_of_eq hg.symm)) hb); replace HO_8 := Aside0.mk (Kd.R_below (rU HO_8.out) hb); replace HO_27 := Aside0.mk (Kd.R_below (Kd.R_elderB (rU HO_27.out) gb325 (Nat.le_of_eq hg.symm)) hb); have BK325 := Aside0.mk hbox; have GW325 := gS w hg (lV2 GE314 GE315); have GE325 := gS w hg (lV2 GE314 GE315); replace HB := bH (lV2 GE314 GE315) hb; have NB314_325 := nL hg (bV BK314); have NB325_314 := nG hg (bV BK314); replace BK314 := bB (bV BK314) hb; have NB315_325 := nL hg (bV BK315); have NB325_315 := nG hg (bV BK315); replace BK315 := bB (bV BK315) hb; clear hb hbox hg; have hnb41 := NB325_314.out; have hnc41 := NB314_325.out; have hnb42 := NB325_315.out; have hnc42 := NB315_325.out; have hcz43_0 := cz BK325 0 (.int .i64 0); have hcz43_1 := cz BK325 1 (.int .i64 0); have hcz43_2 := cz BK325 2 (.int .i64 0); have hcz43_3 := cz BK325 3 (.int .i64 0); have hfz43_0 := fz BK325 0; have hfz43_1 := fz BK325 1; have hfz43_2 := fz BK325 2; have hfz43_3 := fz BK325 3))
                 have n0_ : Aside0 (Kd.R k47 47 ((((w40.setCell ⟨gb325, 0, none⟩ (.int .i64 ((rd_T47 x7_2 x29_3).f0))).setCell ⟨gb325, 1, none⟩ (.int .i64 ((rd_T47 x7_2 x29_3).f1))).setCell ⟨gb325, 2, none⟩ (.int .i64 ((rd_T47 x7_2 x29_3).f2))).setCell ⟨gb325, 3, none⟩ (.int .i64 ((rd_T47 x7_2 x29_3).f3))) w.heap.size (fun k_ => k_ ≠ gb325) (.slice (some ad324) x7_2.length co25) x7_2) := ⟨by (with_reducible repeat (first | apply Kd.R_alloc | apply Kd.R_drewN | apply Kd.R_drew)); exact Kd.R_mono (Kd.R_far (p := ⟨gb325, 3, none⟩) (Kd.R_far (p := ⟨gb325, 2, none⟩) (Kd.R_far (p := ⟨gb325, 1, none⟩) (Kd.R_far (p := ⟨gb325, 0, none⟩) (Kd.R_mono HO_7.out (fun k_ hk => (⟨hk, hk.2⟩ : _ ∧ k_ ≠ gb325))) (fun _ hk => hk.2) (.int .i64 ((rd_T47 x7_2 x29_3).f0))) (fun _ hk => hk.2) (.int .i64 ((rd_T47 x7_2 x29_3).f1))) (fun _ hk => hk.2) (.int .i64 ((rd_T47 x7_2 x29_3).f2))) (fun _ hk => hk.2) (.int .i64 ((rd_T47 x7_2 x29_3).f3))) (fun _ hk => hk.1.2)⟩
                 have n1_ : Aside0 (Kd.R k50 50 ((((w40.setCell ⟨gb325, 0, none⟩ (.int .i64 ((rd_T47 x7_2 x29_3).f0))).setCell ⟨gb325, 1, none⟩ (.int .i64 ((rd_T47 x7_2 x29_3).f1))).setCell ⟨gb325, 2, none⟩ (.int .i64 ((rd_T47 x7_2 x29_3).f2))).setCell ⟨gb325, 3, none⟩ (.int .i64 ((rd_T47 x7_2 x29_3).f3))) w.heap.size (fun _ => True) u8 x8_2) := ⟨by (with_reducible repeat (first | apply Kd.R_alloc | apply Kd.R_drewN | apply Kd.R_drew)); exact Kd.R_mono (Kd.R_far (p := ⟨gb325, 3, none⟩) (Kd.R_far (p := ⟨gb325, 2, none⟩) (Kd.R_far (p := ⟨gb325, 1, none⟩) (Kd.R_far (p := ⟨gb325, 0, none⟩) (Kd.R_types HO_8.out BK325.out (by decide)) (fun _ hk => hk.2) (.int .i64 ((rd_T47 x7_2 x29_3).f0))) (fun _ hk => hk.2) (.int .i64 ((rd_T47 x7_2 x29_3).f1))) (fun _ hk => hk.2) (.int .i64 ((rd_T47 x7_2 x29_3).f2))) (fun _ hk => hk.2) (.int .i64 ((rd_T47 x7_2 x29_3).f3))) (fun _ hk => trivial)⟩
                 have n2_ : Aside0 (Kd.R k47 47 ((((w40.setCell ⟨gb325, 0, none⟩ (.int .i64 ((rd_T47 x7_2 x29_3).f0))).setCell ⟨gb325, 1, none⟩ (.int .i64 ((rd_T47 x7_2 x29_3).f1))).setCell ⟨gb325, 2, none⟩ (.int .i64 ((rd_T47 x7_2 x29_3).f2))).setCell ⟨gb325, 3, none⟩ (.int .i64 ((rd_T47 x7_2 x29_3).f3))) w.heap.size (fun k_ => k_ ≠ gb325) (.slice (some ad324) x7_2.length co25) x7_2) := ⟨by (with_reducible repeat (first | apply Kd.R_alloc | apply Kd.R_drewN | apply Kd.R_drew)); exact Kd.R_mono (Kd.R_far (p := ⟨gb325, 3, none⟩) (Kd.R_far (p := ⟨gb325, 2, none⟩) (Kd.R_far (p := ⟨gb325, 1, none⟩) (Kd.R_far (p := ⟨gb325, 0, none⟩) (Kd.R_mono HO_27.out (fun k_ hk => (⟨hk, hk.2⟩ : _ ∧ k_ ≠ gb325))) (fun _ hk => hk.2) (.int .i64 ((rd_T47 x7_2 x29_3).f0))) (fun _ hk => hk.2) (.int .i64 ((rd_T47 x7_2 x29_3).f1))) (fun _ hk => hk.2) (.int .i64 ((rd_T47 x7_2 x29_3).f2))) (fun _ hk => hk.2) (.int .i64 ((rd_T47 x7_2 x29_3).f3))) (fun _ hk => hk.1.2)⟩
                 have n3_ : Aside0 (((((w40.setCell ⟨gb325, 0, none⟩ (.int .i64 ((rd_T47 x7_2 x29_3).f0))).setCell ⟨gb325, 1, none⟩ (.int .i64 ((rd_T47 x7_2 x29_3).f1))).setCell ⟨gb325, 2, none⟩ (.int .i64 ((rd_T47 x7_2 x29_3).f2))).setCell ⟨gb325, 3, none⟩ (.int .i64 ((rd_T47 x7_2 x29_3).f3))).heap[gb314]? = some (.cells #[.int .i64 a0_0, .slice A0_1 l0_1.length c0_1] 25 (0, 0))) := ⟨by refine bU ?_; refine blk_far ?_ NB314_325.out _; refine bU ?_; refine blk_far ?_ NB314_325.out _; refine bU ?_; refine blk_far ?_ NB314_325.out _; refine bU ?_; refine blk_far ?_ NB314_325.out _; refine bU ?_; exact BK314.out⟩
                 have n4_ : Aside0 (((((w40.setCell ⟨gb325, 0, none⟩ (.int .i64 ((rd_T47 x7_2 x29_3).f0))).setCell ⟨gb325, 1, none⟩ (.int .i64 ((rd_T47 x7_2 x29_3).f1))).setCell ⟨gb325, 2, none⟩ (.int .i64 ((rd_T47 x7_2 x29_3).f2))).setCell ⟨gb325, 3, none⟩ (.int .i64 ((rd_T47 x7_2 x29_3).f3))).heap[gb315]? = some (.cells #[.int .i64 x316000_2, .slice none 0 0] 25 (0, 0))) := ⟨by refine bU ?_; refine blk_far ?_ NB315_325.out _; refine bU ?_; refine blk_far ?_ NB315_325.out _; refine bU ?_; refine blk_far ?_ NB315_325.out _; refine bU ?_; refine blk_far ?_ NB315_325.out _; refine bU ?_; exact BK315.out⟩
                 have n5_ : Aside0 (((((w40.setCell ⟨gb325, 0, none⟩ (.int .i64 ((rd_T47 x7_2 x29_3).f0))).setCell ⟨gb325, 1, none⟩ (.int .i64 ((rd_T47 x7_2 x29_3).f1))).setCell ⟨gb325, 2, none⟩ (.int .i64 ((rd_T47 x7_2 x29_3).f2))).setCell ⟨gb325, 3, none⟩ (.int .i64 ((rd_T47 x7_2 x29_3).f3))).heap[gb325]? = some (.cells #[.int .i64 ((rd_T47 x7_2 x29_3).f0), .int .i64 ((rd_T47 x7_2 x29_3).f1), .int .i64 ((rd_T47 x7_2 x29_3).f2), .int .i64 ((rd_T47 x7_2 x29_3).f3)] 47 (0, 0))) := ⟨by refine bU ?_; refine blk_put (cs := #[.int .i64 ((rd_T47 x7_2 x29_3).f0), .int .i64 ((rd_T47 x7_2 x29_3).f1), .int .i64 ((rd_T47 x7_2 x29_3).f2), .int .i64 0]) ?_ 3 _ rfl; refine bU ?_; refine blk_put (cs := #[.int .i64 ((rd_T47 x7_2 x29_3).f0), .int .i64 ((rd_T47 x7_2 x29_3).f1), .int .i64 0, .int .i64 0]) ?_ 2 _ rfl; refine bU ?_; refine blk_put (cs := #[.int .i64 ((rd_T47 x7_2 x29_3).f0), .int .i64 0, .int .i64 0, .int .i64 0]) ?_ 1 _ rfl; refine bU ?_; refine blk_put (cs := #[.int .i64 0, .int .i64 0, .int .i64 0, .int .i64 0]) ?_ 0 _ rfl; refine bU ?_; exact BK325.out⟩
                 have n6_ : Aside0 (Below w.heap.size w ((((w40.setCell ⟨gb325, 0, none⟩ (.int .i64 ((rd_T47 x7_2 x29_3).f0))).setCell ⟨gb325, 1, none⟩ (.int .i64 ((rd_T47 x7_2 x29_3).f1))).setCell ⟨gb325, 2, none⟩ (.int .i64 ((rd_T47 x7_2 x29_3).f2))).setCell ⟨gb325, 3, none⟩ (.int .i64 ((rd_T47 x7_2 x29_3).f3)))) := ⟨by repeat (first | (with_reducible first | exact HB.out | apply below_alloc | apply pw_below_drewN | apply below_drew1 | refine below_set ?_ GE314.out | refine below_set ?_ GE315.out | refine below_set ?_ GE325.out) | exact HB.out)⟩
                 (try clear HO_7)
                 (try clear HO_8)
                 (try clear HO_27)
                 (try clear BK314)
                 (try clear BK315)
                 (try clear BK325)
                 (try clear HB)
                 generalize ((((w40.setCell ⟨gb325, 0, none⟩ (.int .i64 ((rd_T47 x7_2 x29_3).f0))).setCell ⟨gb325, 1, none⟩ (.int .i64 ((rd_T47 x7_2 x29_3).f1))).setCell ⟨gb325, 2, none⟩ (.int .i64 ((rd_T47 x7_2 x29_3).f2))).setCell ⟨gb325, 3, none⟩ (.int .i64 ((rd_T47 x7_2 x29_3).f3))) = w44 at n0_ n1_ n2_ n3_ n4_ n5_ n6_ ⊢
                 have HO_7 := n0_
                 have HO_8 := n1_
                 have HO_27 := n2_
                 have BK314 := n3_
                 have BK315 := n4_
                 have BK325 := n5_
                 have HB := n6_
                 clear n0_ n1_ n2_ n3_ n4_ n5_ n6_
                 replace HO_7 := Aside0.mk (Kd.R_drew HO_7.out)
                 replace HO_8 := Aside0.mk (Kd.R_drew HO_8.out)
                 replace HO_27 := Aside0.mk (Kd.R_drew HO_27.out)
                 replace BK314 := Aside0.mk (blk_drew BK314.out)
                 replace BK315 := Aside0.mk (blk_drew BK315.out)
                 replace BK325 := Aside0.mk (blk_drew BK325.out)
                 replace HB := Aside0.mk (below_drew1 HB.out)
                 have p326 : 0 ≤ (x9_3 : Int) := of_decide_eq_true hE
                 have q326 : x9_3 < (x7_2.length : Int) := of_decide_eq_true hE
                 obtain ⟨ad326, e326, hx326_0, hx326_1, hx326_2, hx326_3⟩ := at_T47 (Kd.R_reads' HO_7.out).2.2 x9_3 p326 q326
                 obtain rfl : ad324 = ad326 := (by injection e326)
                 replace p326 := eq_true p326
                 replace q326 := eq_true q326
                 refine start_ (n := 18) (S := fun w' => w'.cell? ⟨gb325, 0, none⟩ = some (.int .i64 ((rd_T47 x7_2 x29_3).f0)) ∧ w'.cell? ⟨gb325, 1, none⟩ = some (.int .i64 ((rd_T47 x7_2 x29_3).f1)) ∧ w'.cell? ⟨gb325, 2, none⟩ = some (.int .i64 ((rd_T47 x7_2 x29_3).f2)) ∧ w'.cell? ⟨gb325, 3, none⟩ = some (.int .i64 ((rd_T47 x7_2 x29_3).f3)) ∧ w'.cell? (ad324.add ((x9_3).toNat * 4)) = some (.int .i64 ((rd_T47 x7_2 x9_3).f0)) ∧ w'.cell? ⟨(ad324.add ((x9_3).toNat * 4)).block, (ad324.add ((x9_3).toNat * 4)).off + 1, none⟩ = some (.int .i64 ((rd_T47 x7_2 x9_3).f1)) ∧ w'.cell? ⟨(ad324.add ((x9_3).toNat * 4)).block, (ad324.add ((x9_3).toNat * 4)).off + 2, none⟩ = some (.int .i64 ((rd_T47 x7_2 x9_3).f2)) ∧ w'.cell? ⟨(ad324.add ((x9_3).toNat * 4)).block, (ad324.add ((x9_3).toNat * 4)).off + 3, none⟩ = some (.int .i64 ((rd_T47 x7_2 x9_3).f3))) (ds := []) #[false, false, false, false, false, false, false, false, false, false, false, false, false, false, false, false, false, false] (by kernel_rfl) rfl rfl ⟨cz BK325 0 _, cz BK325 1 _, cz BK325 2 _, cz BK325 3 _, hx326_0, hx326_1, hx326_2, hx326_3⟩ (fun hHeld => ?_); refine with_tabW spec_RunClock.tab9 spec_RunClock.bits9 (fun HT_ HW_ => ?_)
                 generalize w44.drew = w45 at HO_7 HO_8 HO_27 BK314 BK315 BK325 HB hx326_0 hx326_1 hx326_2 hx326_3 hHeld ⊢
                 refine pureA 0 34 (bz 18 1) rfl rfl (any_of HT_.out (by kernel_rfl)) ?_
                 refine pureA 2 36 (bz 18 5) rfl rfl (any_of HT_.out (by kernel_rfl)) ?_
                 refine takeA 1 35 (bz 18 7) rfl rfl (take_ofW HT_.out HW_.out (by kernel_rfl)) hHeld (by rintro w' ⟨s0, s1, s2, s3, s4, s5, s6, s7⟩; go_simp; with_reducible rfl) ?_
                 refine pureA 3 37 (bz 18 15) rfl rfl (any_of HT_.out (by kernel_rfl)) ?_
                 refine pureA 4 38 (bz 18 31) rfl rfl (any_of HT_.out (by kernel_rfl)) ?_
                 refine pureA 5 39 (bz 18 63) rfl rfl (any_of HT_.out (by kernel_rfl)) ?_
                 refine pureA 6 40 (bz 18 127) rfl rfl (any_of HT_.out (by kernel_rfl)) ?_
                 refine pureA 7 41 (bz 18 255) rfl rfl (any_of HT_.out (by kernel_rfl)) ?_
                 refine pureA 8 42 (bz 18 511) rfl rfl (any_of HT_.out (by kernel_rfl)) ?_
                 refine pureA 10 44 (bz 18 1535) rfl rfl (any_of HT_.out (by kernel_rfl)) ?_
                 refine pureA 11 45 (bz 18 3583) rfl rfl (any_of HT_.out (by kernel_rfl)) ?_
                 refine pureA 12 46 (bz 18 7679) rfl rfl (any_of HT_.out (by kernel_rfl)) ?_
                 refine pureA 13 47 (bz 18 15871) rfl rfl (any_of HT_.out (by kernel_rfl)) ?_
                 refine takeA 9 43 (bz 18 16383) rfl rfl (take_ofW HT_.out HW_.out (by kernel_rfl)) hHeld (by rintro w' ⟨s0, s1, s2, s3, s4, s5, s6, s7⟩; go_simp; with_reducible rfl) ?_
                 refine takeA 14 48 (bz 18 32767) rfl rfl (take_ofW HT_.out HW_.out (by kernel_rfl)) hHeld (by rintro w' ⟨s0, s1, s2, s3, s4, s5, s6, s7⟩; go_simp; with_reducible rfl) ?_
                 refine pureA 15 49 (bz 18 65535) rfl rfl (any_of HT_.out (by kernel_rfl)) ?_
                 refine pureA 16 50 (bz 18 131071) rfl rfl (any_of HT_.out (by kernel_rfl)) ?_
                 refine pureA 17 51 (bz 18 262143) rfl rfl (any_of HT_.out (by kernel_rfl)) ?_
                 refine done_ (done_of HT_.out (by kernel_rfl)) ?_
                 try go_wp2
                 go_roundg k3
                 case measure => have := HJ2.out; have := HK2.out; have := HK3.out; omega
                 case rel => exact ⟨(x29_3), (wrap64 (x29_3 + 1)), tE, tE, H', ⟨by have := HJ2.out; have := HK2.out; have := HK3.out; omega⟩, ⟨by (with_reducible repeat (first | apply Kd.R_alloc | apply Kd.R_drewN | apply Kd.R_drew)); exact Kd.R_mono HO_7.out (fun _ hk => trivial)⟩, ⟨by (with_reducible repeat (first | apply Kd.R_alloc | apply Kd.R_drewN | apply Kd.R_drew)); exact HO_8.out⟩, ⟨by (with_reducible repeat (first | apply Kd.R_alloc | apply Kd.R_drewN | apply Kd.R_drew)); exact Kd.R_mono HO_27.out (fun _ hk => trivial)⟩, ⟨by refine bU ?_; exact BK314.out⟩, ⟨by refine bU ?_; exact BK315.out⟩, ⟨by repeat (first | (with_reducible first | exact HB.out | apply below_alloc | apply pw_below_drewN | apply below_drew1 | refine below_set ?_ GE314.out | refine below_set ?_ GE315.out | refine below_set ?_ GE325.out) | exact HB.out)⟩⟩
                ·rw [if_neg c39] at H
                 have c39b0 : decide (((rd_T47 x7_2 x29_3).f1) < ((rd_T47 x7_2 x9_3).f1)) = false := decide_eq_false c39
                 clear c39
                 have H' := Aside0.mk H
                 clear H
                 have p324 : 0 ≤ (x29_3 : Int) := of_decide_eq_true hE
                 have q324 : x29_3 < (x7_2.length : Int) := of_decide_eq_true hE
                 obtain ⟨ad324, e324, hx324_0, hx324_1, hx324_2, hx324_3⟩ := at_T47 (Kd.R_reads' HO_27.out).2.2 x29_3 p324 q324
                 cases e324
                 replace p324 := eq_true p324
                 replace q324 := eq_true q324
                 try go_wp2_with (first | ((with_reducible refine gate_dst (N := 11) rfl ?_); refine box_event rfl (N := 11) rfl (cs := #[.int .i64 0, .int .i64 0, .int .i64 0, .int .i64 0]) (t := 47) sE ?_; intro gb325 hg w46 hbox hb; replace HO_7 := Aside0.mk (Kd.R_below (Kd.R_elderB (rU HO_7.out) gb325 (Nat.le_of_eq hg.symm)) hb); replace HO_8 := Aside0.mk (Kd.R_below (rU HO_8.out) hb); replace HO_27 := Aside0.mk (Kd.R_below (Kd.R_elderB (rU HO_27.out) gb325 (Nat.le_of_eq hg.symm)) hb); have BK325 := Aside0.mk hbox; have GW325 := gS w hg (lV2 GE314 GE315); have GE325 := gS w hg (lV2 GE314 GE315); replace HB := bH (lV2 GE314 GE315) hb; have NB314_325 := nL hg (bV BK314); have NB325_314 := nG hg (bV BK314); replace BK314 := bB (bV BK314) hb; have NB315_325 := nL hg (bV BK315); have NB325_315 := nG hg (bV BK315); replace BK315 := bB (bV BK315) hb; clear hb hbox hg; have hnb47 := NB325_314.out; have hnc47 := NB314_325.out; have hnb48 := NB325_315.out; have hnc48 := NB315_325.out; have hcz49_0 := cz BK325 0 (.int .i64 0); have hcz49_1 := cz BK325 1 (.int .i64 0); have hcz49_2 := cz BK325 2 (.int .i64 0); have hcz49_3 := cz BK325 3 (.int .i64 0); have hfz49_0 := fz BK325 0; have hfz49_1 := fz BK325 1; have hfz49_2 := fz BK325 2; have hfz49_3 := fz BK325 3))
                 have n0_ : Aside0 (Kd.R k47 47 ((((w46.setCell ⟨gb325, 0, none⟩ (.int .i64 ((rd_T47 x7_2 x29_3).f0))).setCell ⟨gb325, 1, none⟩ (.int .i64 ((rd_T47 x7_2 x29_3).f1))).setCell ⟨gb325, 2, none⟩ (.int .i64 ((rd_T47 x7_2 x29_3).f2))).setCell ⟨gb325, 3, none⟩ (.int .i64 ((rd_T47 x7_2 x29_3).f3))) w.heap.size (fun k_ => k_ ≠ gb325) (.slice (some ad324) x7_2.length co25) x7_2) := ⟨by (with_reducible repeat (first | apply Kd.R_alloc | apply Kd.R_drewN | apply Kd.R_drew)); exact Kd.R_mono (Kd.R_far (p := ⟨gb325, 3, none⟩) (Kd.R_far (p := ⟨gb325, 2, none⟩) (Kd.R_far (p := ⟨gb325, 1, none⟩) (Kd.R_far (p := ⟨gb325, 0, none⟩) (Kd.R_mono HO_7.out (fun k_ hk => (⟨hk, hk.2⟩ : _ ∧ k_ ≠ gb325))) (fun _ hk => hk.2) (.int .i64 ((rd_T47 x7_2 x29_3).f0))) (fun _ hk => hk.2) (.int .i64 ((rd_T47 x7_2 x29_3).f1))) (fun _ hk => hk.2) (.int .i64 ((rd_T47 x7_2 x29_3).f2))) (fun _ hk => hk.2) (.int .i64 ((rd_T47 x7_2 x29_3).f3))) (fun _ hk => hk.1.2)⟩
                 have n1_ : Aside0 (Kd.R k50 50 ((((w46.setCell ⟨gb325, 0, none⟩ (.int .i64 ((rd_T47 x7_2 x29_3).f0))).setCell ⟨gb325, 1, none⟩ (.int .i64 ((rd_T47 x7_2 x29_3).f1))).setCell ⟨gb325, 2, none⟩ (.int .i64 ((rd_T47 x7_2 x29_3).f2))).setCell ⟨gb325, 3, none⟩ (.int .i64 ((rd_T47 x7_2 x29_3).f3))) w.heap.size (fun _ => True) u8 x8_2) := ⟨by (with_reducible repeat (first | apply Kd.R_alloc | apply Kd.R_drewN | apply Kd.R_drew)); exact Kd.R_mono (Kd.R_far (p := ⟨gb325, 3, none⟩) (Kd.R_far (p := ⟨gb325, 2, none⟩) (Kd.R_far (p := ⟨gb325, 1, none⟩) (Kd.R_far (p := ⟨gb325, 0, none⟩) (Kd.R_types HO_8.out BK325.out (by decide)) (fun _ hk => hk.2) (.int .i64 ((rd_T47 x7_2 x29_3).f0))) (fun _ hk => hk.2) (.int .i64 ((rd_T47 x7_2 x29_3).f1))) (fun _ hk => hk.2) (.int .i64 ((rd_T47 x7_2 x29_3).f2))) (fun _ hk => hk.2) (.int .i64 ((rd_T47 x7_2 x29_3).f3))) (fun _ hk => trivial)⟩
                 have n2_ : Aside0 (Kd.R k47 47 ((((w46.setCell ⟨gb325, 0, none⟩ (.int .i64 ((rd_T47 x7_2 x29_3).f0))).setCell ⟨gb325, 1, none⟩ (.int .i64 ((rd_T47 x7_2 x29_3).f1))).setCell ⟨gb325, 2, none⟩ (.int .i64 ((rd_T47 x7_2 x29_3).f2))).setCell ⟨gb325, 3, none⟩ (.int .i64 ((rd_T47 x7_2 x29_3).f3))) w.heap.size (fun k_ => k_ ≠ gb325) (.slice (some ad324) x7_2.length co25) x7_2) := ⟨by (with_reducible repeat (first | apply Kd.R_alloc | apply Kd.R_drewN | apply Kd.R_drew)); exact Kd.R_mono (Kd.R_far (p := ⟨gb325, 3, none⟩) (Kd.R_far (p := ⟨gb325, 2, none⟩) (Kd.R_far (p := ⟨gb325, 1, none⟩) (Kd.R_far (p := ⟨gb325, 0, none⟩) (Kd.R_mono HO_27.out (fun k_ hk => (⟨hk, hk.2⟩ : _ ∧ k_ ≠ gb325))) (fun _ hk => hk.2) (.int .i64 ((rd_T47 x7_2 x29_3).f0))) (fun _ hk => hk.2) (.int .i64 ((rd_T47 x7_2 x29_3).f1))) (fun _ hk => hk.2) (.int .i64 ((rd_T47 x7_2 x29_3).f2))) (fun _ hk => hk.2) (.int .i64 ((rd_T47 x7_2 x29_3).f3))) (fun _ hk => hk.1.2)⟩
                 have n3_ : Aside0 (((((w46.setCell ⟨gb325, 0, none⟩ (.int .i64 ((rd_T47 x7_2 x29_3).f0))).setCell ⟨gb325, 1, none⟩ (.int .i64 ((rd_T47 x7_2 x29_3).f1))).setCell ⟨gb325, 2, none⟩ (.int .i64 ((rd_T47 x7_2 x29_3).f2))).setCell ⟨gb325, 3, none⟩ (.int .i64 ((rd_T47 x7_2 x29_3).f3))).heap[gb314]? = some (.cells #[.int .i64 a0_0, .slice A0_1 l0_1.length c0_1] 25 (0, 0))) := ⟨by refine bU ?_; refine blk_far ?_ NB314_325.out _; refine bU ?_; refine blk_far ?_ NB314_325.out _; refine bU ?_; refine blk_far ?_ NB314_325.out _; refine bU ?_; refine blk_far ?_ NB314_325.out _; refine bU ?_; exact BK314.out⟩
                 have n4_ : Aside0 (((((w46.setCell ⟨gb325, 0, none⟩ (.int .i64 ((rd_T47 x7_2 x29_3).f0))).setCell ⟨gb325, 1, none⟩ (.int .i64 ((rd_T47 x7_2 x29_3).f1))).setCell ⟨gb325, 2, none⟩ (.int .i64 ((rd_T47 x7_2 x29_3).f2))).setCell ⟨gb325, 3, none⟩ (.int .i64 ((rd_T47 x7_2 x29_3).f3))).heap[gb315]? = some (.cells #[.int .i64 x316000_2, .slice none 0 0] 25 (0, 0))) := ⟨by refine bU ?_; refine blk_far ?_ NB315_325.out _; refine bU ?_; refine blk_far ?_ NB315_325.out _; refine bU ?_; refine blk_far ?_ NB315_325.out _; refine bU ?_; refine blk_far ?_ NB315_325.out _; refine bU ?_; exact BK315.out⟩
                 have n5_ : Aside0 (((((w46.setCell ⟨gb325, 0, none⟩ (.int .i64 ((rd_T47 x7_2 x29_3).f0))).setCell ⟨gb325, 1, none⟩ (.int .i64 ((rd_T47 x7_2 x29_3).f1))).setCell ⟨gb325, 2, none⟩ (.int .i64 ((rd_T47 x7_2 x29_3).f2))).setCell ⟨gb325, 3, none⟩ (.int .i64 ((rd_T47 x7_2 x29_3).f3))).heap[gb325]? = some (.cells #[.int .i64 ((rd_T47 x7_2 x29_3).f0), .int .i64 ((rd_T47 x7_2 x29_3).f1), .int .i64 ((rd_T47 x7_2 x29_3).f2), .int .i64 ((rd_T47 x7_2 x29_3).f3)] 47 (0, 0))) := ⟨by refine bU ?_; refine blk_put (cs := #[.int .i64 ((rd_T47 x7_2 x29_3).f0), .int .i64 ((rd_T47 x7_2 x29_3).f1), .int .i64 ((rd_T47 x7_2 x29_3).f2), .int .i64 0]) ?_ 3 _ rfl; refine bU ?_; refine blk_put (cs := #[.int .i64 ((rd_T47 x7_2 x29_3).f0), .int .i64 ((rd_T47 x7_2 x29_3).f1), .int .i64 0, .int .i64 0]) ?_ 2 _ rfl; refine bU ?_; refine blk_put (cs := #[.int .i64 ((rd_T47 x7_2 x29_3).f0), .int .i64 0, .int .i64 0, .int .i64 0]) ?_ 1 _ rfl; refine bU ?_; refine blk_put (cs := #[.int .i64 0, .int .i64 0, .int .i64 0, .int .i64 0]) ?_ 0 _ rfl; refine bU ?_; exact BK325.out⟩
                 have n6_ : Aside0 (Below w.heap.size w ((((w46.setCell ⟨gb325, 0, none⟩ (.int .i64 ((rd_T47 x7_2 x29_3).f0))).setCell ⟨gb325, 1, none⟩ (.int .i64 ((rd_T47 x7_2 x29_3).f1))).setCell ⟨gb325, 2, none⟩ (.int .i64 ((rd_T47 x7_2 x29_3).f2))).setCell ⟨gb325, 3, none⟩ (.int .i64 ((rd_T47 x7_2 x29_3).f3)))) := ⟨by repeat (first | (with_reducible first | exact HB.out | apply below_alloc | apply pw_below_drewN | apply below_drew1 | refine below_set ?_ GE314.out | refine below_set ?_ GE315.out | refine below_set ?_ GE325.out) | exact HB.out)⟩
                 (try clear HO_7)
                 (try clear HO_8)
                 (try clear HO_27)
                 (try clear BK314)
                 (try clear BK315)
                 (try clear BK325)
                 (try clear HB)
                 generalize ((((w46.setCell ⟨gb325, 0, none⟩ (.int .i64 ((rd_T47 x7_2 x29_3).f0))).setCell ⟨gb325, 1, none⟩ (.int .i64 ((rd_T47 x7_2 x29_3).f1))).setCell ⟨gb325, 2, none⟩ (.int .i64 ((rd_T47 x7_2 x29_3).f2))).setCell ⟨gb325, 3, none⟩ (.int .i64 ((rd_T47 x7_2 x29_3).f3))) = w50 at n0_ n1_ n2_ n3_ n4_ n5_ n6_ ⊢
                 have HO_7 := n0_
                 have HO_8 := n1_
                 have HO_27 := n2_
                 have BK314 := n3_
                 have BK315 := n4_
                 have BK325 := n5_
                 have HB := n6_
                 clear n0_ n1_ n2_ n3_ n4_ n5_ n6_
                 replace HO_7 := Aside0.mk (Kd.R_drew HO_7.out)
                 replace HO_8 := Aside0.mk (Kd.R_drew HO_8.out)
                 replace HO_27 := Aside0.mk (Kd.R_drew HO_27.out)
                 replace BK314 := Aside0.mk (blk_drew BK314.out)
                 replace BK315 := Aside0.mk (blk_drew BK315.out)
                 replace BK325 := Aside0.mk (blk_drew BK325.out)
                 replace HB := Aside0.mk (below_drew1 HB.out)
                 have p326 : 0 ≤ (x9_3 : Int) := of_decide_eq_true hE
                 have q326 : x9_3 < (x7_2.length : Int) := of_decide_eq_true hE
                 obtain ⟨ad326, e326, hx326_0, hx326_1, hx326_2, hx326_3⟩ := at_T47 (Kd.R_reads' HO_7.out).2.2 x9_3 p326 q326
                 obtain rfl : ad324 = ad326 := (by injection e326)
                 replace p326 := eq_true p326
                 replace q326 := eq_true q326
                 refine start_ (n := 18) (S := fun w' => w'.cell? ⟨gb325, 0, none⟩ = some (.int .i64 ((rd_T47 x7_2 x29_3).f0)) ∧ w'.cell? ⟨gb325, 1, none⟩ = some (.int .i64 ((rd_T47 x7_2 x29_3).f1)) ∧ w'.cell? ⟨gb325, 2, none⟩ = some (.int .i64 ((rd_T47 x7_2 x29_3).f2)) ∧ w'.cell? ⟨gb325, 3, none⟩ = some (.int .i64 ((rd_T47 x7_2 x29_3).f3)) ∧ w'.cell? (ad324.add ((x9_3).toNat * 4)) = some (.int .i64 ((rd_T47 x7_2 x9_3).f0)) ∧ w'.cell? ⟨(ad324.add ((x9_3).toNat * 4)).block, (ad324.add ((x9_3).toNat * 4)).off + 1, none⟩ = some (.int .i64 ((rd_T47 x7_2 x9_3).f1)) ∧ w'.cell? ⟨(ad324.add ((x9_3).toNat * 4)).block, (ad324.add ((x9_3).toNat * 4)).off + 2, none⟩ = some (.int .i64 ((rd_T47 x7_2 x9_3).f2)) ∧ w'.cell? ⟨(ad324.add ((x9_3).toNat * 4)).block, (ad324.add ((x9_3).toNat * 4)).off + 3, none⟩ = some (.int .i64 ((rd_T47 x7_2 x9_3).f3))) (ds := []) #[false, false, false, false, false, false, false, false, false, false, false, false, false, false, false, false, false, false] (by kernel_rfl) rfl rfl ⟨cz BK325 0 _, cz BK325 1 _, cz BK325 2 _, cz BK325 3 _, hx326_0, hx326_1, hx326_2, hx326_3⟩ (fun hHeld => ?_); refine with_tabW spec_RunClock.tab9 spec_RunClock.bits9 (fun HT_ HW_ => ?_)
                 generalize w50.drew = w51 at HO_7 HO_8 HO_27 BK314 BK315 BK325 HB hx326_0 hx326_1 hx326_2 hx326_3 hHeld ⊢
                 refine pureA 0 34 (bz 18 1) rfl rfl (any_of HT_.out (by kernel_rfl)) ?_
                 refine pureA 2 36 (bz 18 5) rfl rfl (any_of HT_.out (by kernel_rfl)) ?_
                 refine takeA 1 35 (bz 18 7) rfl rfl (take_ofW HT_.out HW_.out (by kernel_rfl)) hHeld (by rintro w' ⟨s0, s1, s2, s3, s4, s5, s6, s7⟩; go_simp; with_reducible rfl) ?_
                 refine pureA 3 37 (bz 18 15) rfl rfl (any_of HT_.out (by kernel_rfl)) ?_
                 refine pureA 4 38 (bz 18 31) rfl rfl (any_of HT_.out (by kernel_rfl)) ?_
                 refine pureA 5 39 (bz 18 63) rfl rfl (any_of HT_.out (by kernel_rfl)) ?_
                 refine pureA 6 40 (bz 18 127) rfl rfl (any_of HT_.out (by kernel_rfl)) ?_
                 refine pureA 7 41 (bz 18 255) rfl rfl (any_of HT_.out (by kernel_rfl)) ?_
                 refine pureA 8 42 (bz 18 511) rfl rfl (any_of HT_.out (by kernel_rfl)) ?_
                 refine pureA 10 44 (bz 18 1535) rfl rfl (any_of HT_.out (by kernel_rfl)) ?_
                 refine pureA 11 45 (bz 18 3583) rfl rfl (any_of HT_.out (by kernel_rfl)) ?_
                 refine pureA 12 46 (bz 18 7679) rfl rfl (any_of HT_.out (by kernel_rfl)) ?_
                 refine pureA 13 47 (bz 18 15871) rfl rfl (any_of HT_.out (by kernel_rfl)) ?_
                 refine takeA 9 43 (bz 18 16383) rfl rfl (take_ofW HT_.out HW_.out (by kernel_rfl)) hHeld (by rintro w' ⟨s0, s1, s2, s3, s4, s5, s6, s7⟩; go_simp; with_reducible rfl) ?_
                 refine takeA 14 48 (bz 18 32767) rfl rfl (take_ofW HT_.out HW_.out (by kernel_rfl)) hHeld (by rintro w' ⟨s0, s1, s2, s3, s4, s5, s6, s7⟩; go_simp; with_reducible rfl) ?_
                 refine pureA 15 49 (bz 18 65535) rfl rfl (any_of HT_.out (by kernel_rfl)) ?_
                 refine pureA 16 50 (bz 18 131071) rfl rfl (any_of HT_.out (by kernel_rfl)) ?_
                 refine pureA 17 51 (bz 18 262143) rfl rfl (any_of HT_.out (by kernel_rfl)) ?_
                 refine done_ (done_of HT_.out (by kernel_rfl)) ?_
                 try go_wp2
                 go_roundg k3
                 case measure => have := HJ2.out; have := HK2.out; have := HK3.out; omega
                 case rel => exact ⟨(x9_3), (wrap64 (x29_3 + 1)), tE, tE, H', ⟨by have := HJ2.out; have := HK2.out; have := HK3.out; omega⟩, ⟨by (with_reducible repeat (first | apply Kd.R_alloc | apply Kd.R_drewN | apply Kd.R_drew)); exact Kd.R_mono HO_7.out (fun _ hk => trivial)⟩, ⟨by (with_reducible repeat (first | apply Kd.R_alloc | apply Kd.R_drewN | apply Kd.R_drew)); exact HO_8.out⟩, ⟨by (with_reducible repeat (first | apply Kd.R_alloc | apply Kd.R_drewN | apply Kd.R_drew)); exact Kd.R_mono HO_27.out (fun _ hk => trivial)⟩, ⟨by refine bU ?_; exact BK314.out⟩, ⟨by refine bU ?_; exact BK315.out⟩, ⟨by repeat (first | (with_reducible first | exact HB.out | apply below_alloc | apply pw_below_drewN | apply below_drew1 | refine below_set ?_ GE314.out | refine below_set ?_ GE315.out | refine below_set ?_ GE325.out) | exact HB.out)⟩⟩
               ·rw [if_neg c38] at H
                exact absurd H (by simp)
              ·rw [if_neg c37] at H
               exact absurd H (by simp)
            ·rw [if_neg c29] at H
             have c29b0 : decide (((rd_T47 x7_2 x29_3).f1) ≤ a1) = false := decide_eq_false c29
             clear c29
             have H' := Aside0.mk H
             clear H
             have p324 : 0 ≤ (x29_3 : Int) := of_decide_eq_true hE
             have q324 : x29_3 < (x7_2.length : Int) := of_decide_eq_true hE
             obtain ⟨ad324, e324, hx324_0, hx324_1, hx324_2, hx324_3⟩ := at_T47 (Kd.R_reads' HO_27.out).2.2 x29_3 p324 q324
             cases e324
             replace p324 := eq_true p324
             replace q324 := eq_true q324
             try go_wp2_with (first | ((with_reducible refine gate_dst (N := 11) rfl ?_); refine box_event rfl (N := 11) rfl (cs := #[.int .i64 0, .int .i64 0, .int .i64 0, .int .i64 0]) (t := 47) sE ?_; intro gb325 hg w52 hbox hb; replace HO_7 := Aside0.mk (Kd.R_below (Kd.R_elderB (rU HO_7.out) gb325 (Nat.le_of_eq hg.symm)) hb); replace HO_8 := Aside0.mk (Kd.R_below (rU HO_8.out) hb); replace HO_27 := Aside0.mk (Kd.R_below (Kd.R_elderB (rU HO_27.out) gb325 (Nat.le_of_eq hg.symm)) hb); have BK325 := Aside0.mk hbox; have GW325 := gS w hg (lV2 GE314 GE315); have GE325 := gS w hg (lV2 GE314 GE315); replace HB := bH (lV2 GE314 GE315) hb; have NB314_325 := nL hg (bV BK314); have NB325_314 := nG hg (bV BK314); replace BK314 := bB (bV BK314) hb; have NB315_325 := nL hg (bV BK315); have NB325_315 := nG hg (bV BK315); replace BK315 := bB (bV BK315) hb; clear hb hbox hg; have hnb53 := NB325_314.out; have hnc53 := NB314_325.out; have hnb54 := NB325_315.out; have hnc54 := NB315_325.out; have hcz55_0 := cz BK325 0 (.int .i64 0); have hcz55_1 := cz BK325 1 (.int .i64 0); have hcz55_2 := cz BK325 2 (.int .i64 0); have hcz55_3 := cz BK325 3 (.int .i64 0); have hfz55_0 := fz BK325 0; have hfz55_1 := fz BK325 1; have hfz55_2 := fz BK325 2; have hfz55_3 := fz BK325 3))
             have n0_ : Aside0 (Kd.R k47 47 ((((w52.setCell ⟨gb325, 0, none⟩ (.int .i64 ((rd_T47 x7_2 x29_3).f0))).setCell ⟨gb325, 1, none⟩ (.int .i64 ((rd_T47 x7_2 x29_3).f1))).setCell ⟨gb325, 2, none⟩ (.int .i64 ((rd_T47 x7_2 x29_3).f2))).setCell ⟨gb325, 3, none⟩ (.int .i64 ((rd_T47 x7_2 x29_3).f3))) w.heap.size (fun k_ => k_ ≠ gb325) (.slice (some ad324) x7_2.length co25) x7_2) := ⟨by (with_reducible repeat (first | apply Kd.R_alloc | apply Kd.R_drewN | apply Kd.R_drew)); exact Kd.R_mono (Kd.R_far (p := ⟨gb325, 3, none⟩) (Kd.R_far (p := ⟨gb325, 2, none⟩) (Kd.R_far (p := ⟨gb325, 1, none⟩) (Kd.R_far (p := ⟨gb325, 0, none⟩) (Kd.R_mono HO_7.out (fun k_ hk => (⟨hk, hk.2⟩ : _ ∧ k_ ≠ gb325))) (fun _ hk => hk.2) (.int .i64 ((rd_T47 x7_2 x29_3).f0))) (fun _ hk => hk.2) (.int .i64 ((rd_T47 x7_2 x29_3).f1))) (fun _ hk => hk.2) (.int .i64 ((rd_T47 x7_2 x29_3).f2))) (fun _ hk => hk.2) (.int .i64 ((rd_T47 x7_2 x29_3).f3))) (fun _ hk => hk.1.2)⟩
             have n1_ : Aside0 (Kd.R k50 50 ((((w52.setCell ⟨gb325, 0, none⟩ (.int .i64 ((rd_T47 x7_2 x29_3).f0))).setCell ⟨gb325, 1, none⟩ (.int .i64 ((rd_T47 x7_2 x29_3).f1))).setCell ⟨gb325, 2, none⟩ (.int .i64 ((rd_T47 x7_2 x29_3).f2))).setCell ⟨gb325, 3, none⟩ (.int .i64 ((rd_T47 x7_2 x29_3).f3))) w.heap.size (fun _ => True) u8 x8_2) := ⟨by (with_reducible repeat (first | apply Kd.R_alloc | apply Kd.R_drewN | apply Kd.R_drew)); exact Kd.R_mono (Kd.R_far (p := ⟨gb325, 3, none⟩) (Kd.R_far (p := ⟨gb325, 2, none⟩) (Kd.R_far (p := ⟨gb325, 1, none⟩) (Kd.R_far (p := ⟨gb325, 0, none⟩) (Kd.R_types HO_8.out BK325.out (by decide)) (fun _ hk => hk.2) (.int .i64 ((rd_T47 x7_2 x29_3).f0))) (fun _ hk => hk.2) (.int .i64 ((rd_T47 x7_2 x29_3).f1))) (fun _ hk => hk.2) (.int .i64 ((rd_T47 x7_2 x29_3).f2))) (fun _ hk => hk.2) (.int .i64 ((rd_T47 x7_2 x29_3).f3))) (fun _ hk => trivial)⟩
             have n2_ : Aside0 (Kd.R k47 47 ((((w52.setCell ⟨gb325, 0, none⟩ (.int .i64 ((rd_T47 x7_2 x29_3).f0))).setCell ⟨gb325, 1, none⟩ (.int .i64 ((rd_T47 x7_2 x29_3).f1))).setCell ⟨gb325, 2, none⟩ (.int .i64 ((rd_T47 x7_2 x29_3).f2))).setCell ⟨gb325, 3, none⟩ (.int .i64 ((rd_T47 x7_2 x29_3).f3))) w.heap.size (fun k_ => k_ ≠ gb325) (.slice (some ad324) x7_2.length co25) x7_2) := ⟨by (with_reducible repeat (first | apply Kd.R_alloc | apply Kd.R_drewN | apply Kd.R_drew)); exact Kd.R_mono (Kd.R_far (p := ⟨gb325, 3, none⟩) (Kd.R_far (p := ⟨gb325, 2, none⟩) (Kd.R_far (p := ⟨gb325, 1, none⟩) (Kd.R_far (p := ⟨gb325, 0, none⟩) (Kd.R_mono HO_27.out (fun k_ hk => (⟨hk, hk.2⟩ : _ ∧ k_ ≠ gb325))) (fun _ hk => hk.2) (.int .i64 ((rd_T47 x7_2 x29_3).f0))) (fun _ hk => hk.2) (.int .i64 ((rd_T47 x7_2 x29_3).f1))) (fun _ hk => hk.2) (.int .i64 ((rd_T47 x7_2 x29_3).f2))) (fun _ hk => hk.2) (.int .i64 ((rd_T47 x7_2 x29_3).f3))) (fun _ hk => hk.1.2)⟩
             have n3_ : Aside0 (((((w52.setCell ⟨gb325, 0, none⟩ (.int .i64 ((rd_T47 x7_2 x29_3).f0))).setCell ⟨gb325, 1, none⟩ (.int .i64 ((rd_T47 x7_2 x29_3).f1))).setCell ⟨gb325, 2, none⟩ (.int .i64 ((rd_T47 x7_2 x29_3).f2))).setCell ⟨gb325, 3, none⟩ (.int .i64 ((rd_T47 x7_2 x29_3).f3))).heap[gb314]? = some (.cells #[.int .i64 a0_0, .slice A0_1 l0_1.length c0_1] 25 (0, 0))) := ⟨by refine bU ?_; refine blk_far ?_ NB314_325.out _; refine bU ?_; refine blk_far ?_ NB314_325.out _; refine bU ?_; refine blk_far ?_ NB314_325.out _; refine bU ?_; refine blk_far ?_ NB314_325.out _; refine bU ?_; exact BK314.out⟩
             have n4_ : Aside0 (((((w52.setCell ⟨gb325, 0, none⟩ (.int .i64 ((rd_T47 x7_2 x29_3).f0))).setCell ⟨gb325, 1, none⟩ (.int .i64 ((rd_T47 x7_2 x29_3).f1))).setCell ⟨gb325, 2, none⟩ (.int .i64 ((rd_T47 x7_2 x29_3).f2))).setCell ⟨gb325, 3, none⟩ (.int .i64 ((rd_T47 x7_2 x29_3).f3))).heap[gb315]? = some (.cells #[.int .i64 x316000_2, .slice none 0 0] 25 (0, 0))) := ⟨by refine bU ?_; refine blk_far ?_ NB315_325.out _; refine bU ?_; refine blk_far ?_ NB315_325.out _; refine bU ?_; refine blk_far ?_ NB315_325.out _; refine bU ?_; refine blk_far ?_ NB315_325.out _; refine bU ?_; exact BK315.out⟩
             have n5_ : Aside0 (((((w52.setCell ⟨gb325, 0, none⟩ (.int .i64 ((rd_T47 x7_2 x29_3).f0))).setCell ⟨gb325, 1, none⟩ (.int .i64 ((rd_T47 x7_2 x29_3).f1))).setCell ⟨gb325, 2, none⟩ (.int .i64 ((rd_T47 x7_2 x29_3).f2))).setCell ⟨gb325, 3, none⟩ (.int .i64 ((rd_T47 x7_2 x29_3).f3))).heap[gb325]? = some (.cells #[.int .i64 ((rd_T47 x7_2 x29_3).f0), .int .i64 ((rd_T47 x7_2 x29_3).f1), .int .i64 ((rd_T47 x7_2 x29_3).f2), .int .i64 ((rd_T47 x7_2 x29_3).f3)] 47 (0, 0))) := ⟨by refine bU ?_; refine blk_put (cs := #[.int .i64 ((rd_T47 x7_2 x29_3).f0), .int .i64 ((rd_T47 x7_2 x29_3).f1), .int .i64 ((rd_T47 x7_2 x29_3).f2), .int .i64 0]) ?_ 3 _ rfl; refine bU ?_; refine blk_put (cs := #[.int .i64 ((rd_T47 x7_2 x29_3).f0), .int .i64 ((rd_T47 x7_2 x29_3).f1), .int .i64 0, .int .i64 0]) ?_ 2 _ rfl; refine bU ?_; refine blk_put (cs := #[.int .i64 ((rd_T47 x7_2 x29_3).f0), .int .i64 0, .int .i64 0, .int .i64 0]) ?_ 1 _ rfl; refine bU ?_; refine blk_put (cs := #[.int .i64 0, .int .i64 0, .int .i64 0, .int .i64 0]) ?_ 0 _ rfl; refine bU ?_; exact BK325.out⟩
             have n6_ : Aside0 (Below w.heap.size w ((((w52.setCell ⟨gb325, 0, none⟩ (.int .i64 ((rd_T47 x7_2 x29_3).f0))).setCell ⟨gb325, 1, none⟩ (.int .i64 ((rd_T47 x7_2 x29_3).f1))).setCell ⟨gb325, 2, none⟩ (.int .i64 ((rd_T47 x7_2 x29_3).f2))).setCell ⟨gb325, 3, none⟩ (.int .i64 ((rd_T47 x7_2 x29_3).f3)))) := ⟨by repeat (first | (with_reducible first | exact HB.out | apply below_alloc | apply pw_below_drewN | apply below_drew1 | refine below_set ?_ GE314.out | refine below_set ?_ GE315.out | refine below_set ?_ GE325.out) | exact HB.out)⟩
             (try clear HO_7)
             (try clear HO_8)
             (try clear HO_27)
             (try clear BK314)
             (try clear BK315)
             (try clear BK325)
             (try clear HB)
             generalize ((((w52.setCell ⟨gb325, 0, none⟩ (.int .i64 ((rd_T47 x7_2 x29_3).f0))).setCell ⟨gb325, 1, none⟩ (.int .i64 ((rd_T47 x7_2 x29_3).f1))).setCell ⟨gb325, 2, none⟩ (.int .i64 ((rd_T47 x7_2 x29_3).f2))).setCell ⟨gb325, 3, none⟩ (.int .i64 ((rd_T47 x7_2 x29_3).f3))) = w56 at n0_ n1_ n2_ n3_ n4_ n5_ n6_ ⊢
             have HO_7 := n0_
             have HO_8 := n1_
             have HO_27 := n2_
             have BK314 := n3_
             have BK315 := n4_
             have BK325 := n5_
             have HB := n6_
             clear n0_ n1_ n2_ n3_ n4_ n5_ n6_
             replace HO_7 := Aside0.mk (Kd.R_drew HO_7.out)
             replace HO_8 := Aside0.mk (Kd.R_drew HO_8.out)
             replace HO_27 := Aside0.mk (Kd.R_drew HO_27.out)
             replace BK314 := Aside0.mk (blk_drew BK314.out)
             replace BK315 := Aside0.mk (blk_drew BK315.out)
             replace BK325 := Aside0.mk (blk_drew BK325.out)
             replace HB := Aside0.mk (below_drew1 HB.out)
             refine start_ (n := 18) (S := fun w' => w'.cell? ⟨gb325, 0, none⟩ = some (.int .i64 ((rd_T47 x7_2 x29_3).f0)) ∧ w'.cell? ⟨gb325, 1, none⟩ = some (.int .i64 ((rd_T47 x7_2 x29_3).f1)) ∧ w'.cell? ⟨gb325, 2, none⟩ = some (.int .i64 ((rd_T47 x7_2 x29_3).f2)) ∧ w'.cell? ⟨gb325, 3, none⟩ = some (.int .i64 ((rd_T47 x7_2 x29_3).f3))) (ds := []) #[false, false, false, false, false, false, false, false, false, false, false, false, false, false, false, false, false, false] (by kernel_rfl) rfl rfl ⟨cz BK325 0 _, cz BK325 1 _, cz BK325 2 _, cz BK325 3 _⟩ (fun hHeld => ?_); refine with_tabW spec_RunClock.tab9 spec_RunClock.bits9 (fun HT_ HW_ => ?_)
             generalize w56.drew = w57 at HO_7 HO_8 HO_27 BK314 BK315 BK325 HB hHeld ⊢
             refine pureA 0 34 (bz 18 1) rfl rfl (any_of HT_.out (by kernel_rfl)) ?_
             refine pureA 2 36 (bz 18 5) rfl rfl (any_of HT_.out (by kernel_rfl)) ?_
             refine takeA 1 35 (bz 18 7) rfl rfl (take_ofW HT_.out HW_.out (by kernel_rfl)) hHeld (by rintro w' ⟨s0, s1, s2, s3⟩; go_simp; with_reducible rfl) ?_
             refine pureA 3 37 (bz 18 15) rfl rfl (any_of HT_.out (by kernel_rfl)) ?_
             refine pureA 4 38 (bz 18 31) rfl rfl (any_of HT_.out (by kernel_rfl)) ?_
             refine pureU 5 39 (bz 18 63) rfl rfl (any_of HT_.out (by kernel_rfl)) ?_
             refine pureU 6 40 (bz 18 127) rfl rfl (any_of HT_.out (by kernel_rfl)) ?_
             refine pureU 7 41 (bz 18 255) rfl rfl (any_of HT_.out (by kernel_rfl)) ?_
             refine pureU 8 42 (bz 18 511) rfl rfl (any_of HT_.out (by kernel_rfl)) ?_
             refine pureU 9 43 (bz 18 1023) rfl rfl (any_of HT_.out (by kernel_rfl)) ?_
             refine pureU 10 44 (bz 18 2047) rfl rfl (any_of HT_.out (by kernel_rfl)) ?_
             refine pureU 11 45 (bz 18 4095) rfl rfl (any_of HT_.out (by kernel_rfl)) ?_
             refine pureU 12 46 (bz 18 8191) rfl rfl (any_of HT_.out (by kernel_rfl)) ?_
             refine pureU 13 47 (bz 18 16383) rfl rfl (any_of HT_.out (by kernel_rfl)) ?_
             refine pureU 14 48 (bz 18 32767) rfl rfl (any_of HT_.out (by kernel_rfl)) ?_
             refine pureU 15 49 (bz 18 65535) rfl rfl (any_of HT_.out (by kernel_rfl)) ?_
             refine pureU 16 50 (bz 18 131071) rfl rfl (any_of HT_.out (by kernel_rfl)) ?_
             refine pureA 17 51 (bz 18 262143) rfl rfl (any_of HT_.out (by kernel_rfl)) ?_
             refine done_ (done_of HT_.out (by kernel_rfl)) ?_
             try go_wp2
             go_roundg k3
             case measure => have := HJ2.out; have := HK2.out; have := HK3.out; omega
             case rel => exact ⟨(x9_3), (wrap64 (x29_3 + 1)), tE, tE, H', ⟨by have := HJ2.out; have := HK2.out; have := HK3.out; omega⟩, ⟨by (with_reducible repeat (first | apply Kd.R_alloc | apply Kd.R_drewN | apply Kd.R_drew)); exact Kd.R_mono HO_7.out (fun _ hk => trivial)⟩, ⟨by (with_reducible repeat (first | apply Kd.R_alloc | apply Kd.R_drewN | apply Kd.R_drew)); exact HO_8.out⟩, ⟨by (with_reducible repeat (first | apply Kd.R_alloc | apply Kd.R_drewN | apply Kd.R_drew)); exact Kd.R_mono HO_27.out (fun _ hk => trivial)⟩, ⟨by refine bU ?_; exact BK314.out⟩, ⟨by refine bU ?_; exact BK315.out⟩, ⟨by repeat (first | (with_reducible first | exact HB.out | apply below_alloc | apply pw_below_drewN | apply below_drew1 | refine below_set ?_ GE314.out | refine below_set ?_ GE315.out | refine below_set ?_ GE325.out) | exact HB.out)⟩⟩
           ·rw [if_neg c28] at H
            exact absurd H (by simp)
          ·rw [if_neg c27] at H
           exact absurd H (by simp)
         ·rw [if_neg c26] at H
          have c26b0 : decide (x29_3 < (x7_2.length : Int)) = false := decide_eq_false c26
          clear c26
          by_cases c58 : x9_3 < 0
          ·rw [if_pos c58] at H
           have c58b0 : decide (x9_3 < 0) = true := decide_eq_true c58
           clear c58
           simp only [Option.some.injEq, Prod.mk.injEq] at H
           obtain ⟨rfl, rfl, rfl, rfl⟩ := H
           have hnb59 := NB315_314.out
           have hnc59 := NB314_315.out
           have hcz60_0 := cz BK315 0 (.int .i64 x316000_2)
           have hcz60_1 := cz BK315 1 (.slice none 0 0)
           have hfz60_0 := fz BK315 0
           have hfz60_1 := fz BK315 1
           go_wp2
           refine bodyPost_ret (results_ctt rfl _ _ gb315 25 #[.int .i64 a1, .slice Ao25 x7_2.length co25] (0, 0) _ rfl (by refine bU ?_; refine blk_put (cs := #[.int .i64 a1, .slice none 0 0]) ?_ 1 _ rfl; refine bU ?_; refine blk_put (cs := #[.int .i64 x316000_2, .slice none 0 0]) ?_ 0 _ rfl; refine bU ?_; exact BK315.out) Try.underlying25 rfl (by kernel_rfl)) rfl ?_
           exact ⟨_, _, eE, by (with_reducible repeat (first | apply Kd.R_alloc | apply Kd.R_drewN | apply Kd.R_drew)); exact Kd.R_mono (Kd.R_far (p := ⟨gb315, 1, none⟩) (Kd.R_far (p := ⟨gb315, 0, none⟩) (Kd.R_types HO_7.out BK315.out (by decide)) (fun _ hk => hk.2) (.int .i64 a1)) (fun _ hk => hk.2) (.slice Ao25 x7_2.length co25)) (fun _ hk => trivial), by (with_reducible repeat (first | apply Kd.R_alloc | apply Kd.R_drewN | apply Kd.R_drew)); exact Kd.R_mono (Kd.R_far (p := ⟨gb315, 1, none⟩) (Kd.R_far (p := ⟨gb315, 0, none⟩) (Kd.R_types HO_8.out BK315.out (by decide)) (fun _ hk => hk.2) (.int .i64 a1)) (fun _ hk => hk.2) (.slice Ao25 x7_2.length co25)) (fun _ hk => trivial), lV2 GE314 GE315⟩
          ·rw [if_neg c58] at H
           have c58b0 : decide (x9_3 < 0) = false := decide_eq_false c58
           clear c58
           by_cases c61 : (x8_2.length : Int) = 2000
           ·rw [if_pos c61] at H
            have c61b0 : ((x8_2.length : Int) == 2000) = true := beq_iff_eq.mpr c61
            have c61b1 : ((x8_2.length : Int) != 2000) = false := bne_eq_false_iff_eq.mpr c61
            clear c61
            simp only [Option.some.injEq, Prod.mk.injEq] at H
            obtain ⟨rfl, rfl, rfl, rfl⟩ := H
            obtain ⟨Ao62, co62, eo62⟩ := Kd.R_slice HO_8.out
            subst eo62
            have hnb63 := NB315_314.out
            have hnc63 := NB314_315.out
            have hcz64_0 := cz BK315 0 (.int .i64 x316000_2)
            have hcz64_1 := cz BK315 1 (.slice none 0 0)
            have hfz64_0 := fz BK315 0
            have hfz64_1 := fz BK315 1
            go_wp2
            refine bodyPost_ret (results_ctt rfl _ _ gb315 25 #[.int .i64 0, .slice none 0 0] (0, 0) _ rfl (by refine bU ?_; refine blk_put (cs := #[.int .i64 0, .slice none 0 0]) ?_ 1 _ rfl; refine bU ?_; refine blk_put (cs := #[.int .i64 x316000_2, .slice none 0 0]) ?_ 0 _ rfl; refine bU ?_; exact BK315.out) Try.underlying25 rfl (by kernel_rfl)) rfl ?_
            exact ⟨_, _, eE, by first | exact Kd.R_nil _ _ _ _ _ | exact Kd.N_nil _ _ _ _ _ | exact Kd.V_nil _ _ _ _ _ | exact Kd.Q_nil _ _ _ _ _ | exact Kd.S_nil _ _ _ _ _, by first | exact Kd.R_nil _ _ _ _ _ | exact Kd.N_nil _ _ _ _ _ | exact Kd.V_nil _ _ _ _ _ | exact Kd.Q_nil _ _ _ _ _ | exact Kd.S_nil _ _ _ _ _, lV2 GE314 GE315⟩
           ·rw [if_neg c61] at H
            have c61b0 : ((x8_2.length : Int) == 2000) = false := beq_eq_false_iff_ne.mpr c61
            have c61b1 : ((x8_2.length : Int) != 2000) = true := bne_iff_ne.mpr c61
            by_cases c65 : 0 ≤ x9_3
            ·rw [if_pos c65] at H
             have c65b0 : decide (0 ≤ x9_3) = true := decide_eq_true c65
             clear c65
             by_cases c66 : x9_3 < (x7_2.length : Int)
             ·rw [if_pos c66] at H
              have c66b0 : decide (x9_3 < (x7_2.length : Int)) = true := decide_eq_true c66
              clear c66
              by_cases c67 : x8_2.length < 8796093022208
              ·rw [if_pos c67] at H
               have LMc67 := Aside0.mk c67
               clear c67
               obtain ⟨y329, hy329⟩ : ∃ y_ : List (S50), y_ = (x8_2 ++ [(⟨(rd_T47 x7_2 x9_3).f1, (rd_T47 x7_2 x9_3).f0⟩ : S50)]) := ⟨_, rfl⟩
               replace H : (if ((rd_T47 x7_2 x9_3).f2) > 0 then (if ((rd_T47 x7_2 x9_3).f3) > 1 then ((some (x7_2.set (x9_3 : Int).toNat (⟨(rd_T47 x7_2 x9_3).f0, (rd_T47 x7_2 x9_3).f1, (rd_T47 x7_2 x9_3).f2, wrap64 (((rd_T47 x7_2 x9_3).f3) - 1)⟩ : S47) : List (S47))).bind fun y335 => (spec_RunClock.l0 k3 a1 (y335.set (x9_3 : Int).toNat (⟨(rd_T47 y335 x9_3).f0, wrap64 (((rd_T47 y335 x9_3).f1) + ((rd_T47 y335 x9_3).f2)), (rd_T47 y335 x9_3).f2, (rd_T47 y335 x9_3).f3⟩ : S47)) y329)) else (if x9_3 ≤ (x7_2.length : Int) then (if 0 ≤ (wrap64 (x9_3 + 1)) then (if (wrap64 (x9_3 + 1)) ≤ (x7_2.length : Int) then (spec_RunClock.l0 k3 a1 (x7_2.eraseIdx (x9_3 : Int).toNat) y329) else (none)) else (none)) else (none))) else (if x9_3 ≤ (x7_2.length : Int) then (if 0 ≤ (wrap64 (x9_3 + 1)) then (if (wrap64 (x9_3 + 1)) ≤ (x7_2.length : Int) then (spec_RunClock.l0 k3 a1 (x7_2.eraseIdx (x9_3 : Int).toNat) y329) else (none)) else (none)) else (none))) = some (r1, r2, r3, r4) := by first | (rw [hy329]; with_reducible exact H) | (have H2_ := (Option.bind_some _ _).symm.trans H; rw [hy329]; with_reducible exact H2_) | (have H2_ := (Option.bind_some _ _).symm.trans H; with_reducible exact H2_) | with_reducible exact H | (rw [hy329]; exact H) | exact H
               have Ny329 := Aside0.mk hy329
               clear hy329
               by_cases c68 : ((rd_T47 x7_2 x9_3).f2) > 0
               ·rw [if_pos c68] at H
                have c68b0 : decide (0 < ((rd_T47 x7_2 x9_3).f2)) = true := decide_eq_true c68
                clear c68
                by_cases c69 : ((rd_T47 x7_2 x9_3).f3) > 1
                ·rw [if_pos c69] at H
                 have c69b0 : decide (1 < ((rd_T47 x7_2 x9_3).f3)) = true := decide_eq_true c69
                 clear c69
                 obtain ⟨y335, hy335⟩ : ∃ y_ : List (S47), y_ = (x7_2.set (x9_3 : Int).toNat (⟨(rd_T47 x7_2 x9_3).f0, (rd_T47 x7_2 x9_3).f1, (rd_T47 x7_2 x9_3).f2, wrap64 (((rd_T47 x7_2 x9_3).f3) - 1)⟩ : S47)) := ⟨_, rfl⟩
                 replace H : (spec_RunClock.l0 k3 a1 (y335.set (x9_3 : Int).toNat (⟨(rd_T47 y335 x9_3).f0, wrap64 (((rd_T47 y335 x9_3).f1) + ((rd_T47 y335 x9_3).f2)), (rd_T47 y335 x9_3).f2, (rd_T47 y335 x9_3).f3⟩ : S47)) y329) = some (r1, r2, r3, r4) := by first | (rw [hy335]; with_reducible exact H) | (have H2_ := (Option.bind_some _ _).symm.trans H; rw [hy335]; with_reducible exact H2_) | (have H2_ := (Option.bind_some _ _).symm.trans H; with_reducible exact H2_) | with_reducible exact H | (rw [hy335]; exact H) | exact H
                 have Ny335 := Aside0.mk hy335
                 clear hy335
                 obtain ⟨y338, hy338⟩ : ∃ y_ : List (S47), y_ = (y335.set (x9_3 : Int).toNat (⟨(rd_T47 y335 x9_3).f0, wrap64 (((rd_T47 y335 x9_3).f1) + ((rd_T47 y335 x9_3).f2)), (rd_T47 y335 x9_3).f2, (rd_T47 y335 x9_3).f3⟩ : S47)) := ⟨_, rfl⟩
                 replace H : (spec_RunClock.l0 k3 a1 y338 y329) = some (r1, r2, r3, r4) := by first | (rw [hy338]; with_reducible exact H) | (have H2_ := (Option.bind_some _ _).symm.trans H; rw [hy338]; with_reducible exact H2_) | (have H2_ := (Option.bind_some _ _).symm.trans H; with_reducible exact H2_) | with_reducible exact H | (rw [hy338]; exact H) | exact H
                 have Ny338 := Aside0.mk hy338
                 clear hy338
                 have H' := Aside0.mk H
                 clear H
                 obtain ⟨Ao72, co72, eo72⟩ := Kd.R_slice HO_8.out
                 subst eo72
                 try go_wp2
                 replace HO_7 := Aside0.mk (Kd.R_drew HO_7.out)
                 replace HO_8 := Aside0.mk (Kd.R_drew HO_8.out)
                 replace HO_27 := Aside0.mk (Kd.R_drew HO_27.out)
                 replace BK314 := Aside0.mk (blk_drew BK314.out)
                 replace BK315 := Aside0.mk (blk_drew BK315.out)
                 replace HB := Aside0.mk (below_drew1 HB.out)
                 have p327 : 0 ≤ (x9_3 : Int) := of_decide_eq_true hE
                 have q327 : x9_3 < (x7_2.length : Int) := of_decide_eq_true hE
                 obtain ⟨ad327, e327, hx327_0, hx327_1, hx327_2, hx327_3⟩ := at_T47 (Kd.R_reads' HO_7.out).2.2 x9_3 p327 q327
                 cases e327
                 replace p327 := eq_true p327
                 replace q327 := eq_true q327
                 have p328 : 0 ≤ (x9_3 : Int) := of_decide_eq_true hE
                 have q328 : x9_3 < (x7_2.length : Int) := of_decide_eq_true hE
                 obtain ⟨ad328, e328, hx328_0, hx328_1, hx328_2, hx328_3⟩ := at_T47 (Kd.R_reads' HO_7.out).2.2 x9_3 p328 q328
                 obtain rfl : ad327 = ad328 := (by injection e328)
                 replace p328 := eq_true p328
                 replace q328 := eq_true q328
                 refine start_ (n := 15) (S := fun w' => w'.cell? (ad327.add ((x9_3).toNat * 4)) = some (.int .i64 ((rd_T47 x7_2 x9_3).f0)) ∧ w'.cell? ⟨(ad327.add ((x9_3).toNat * 4)).block, (ad327.add ((x9_3).toNat * 4)).off + 1, none⟩ = some (.int .i64 ((rd_T47 x7_2 x9_3).f1)) ∧ w'.cell? ⟨(ad327.add ((x9_3).toNat * 4)).block, (ad327.add ((x9_3).toNat * 4)).off + 2, none⟩ = some (.int .i64 ((rd_T47 x7_2 x9_3).f2)) ∧ w'.cell? ⟨(ad327.add ((x9_3).toNat * 4)).block, (ad327.add ((x9_3).toNat * 4)).off + 3, none⟩ = some (.int .i64 ((rd_T47 x7_2 x9_3).f3)) ∧ w'.cell? (ad327.add ((x9_3).toNat * 4)) = some (.int .i64 ((rd_T47 x7_2 x9_3).f0)) ∧ w'.cell? ⟨(ad327.add ((x9_3).toNat * 4)).block, (ad327.add ((x9_3).toNat * 4)).off + 1, none⟩ = some (.int .i64 ((rd_T47 x7_2 x9_3).f1)) ∧ w'.cell? ⟨(ad327.add ((x9_3).toNat * 4)).block, (ad327.add ((x9_3).toNat * 4)).off + 2, none⟩ = some (.int .i64 ((rd_T47 x7_2 x9_3).f2)) ∧ w'.cell? ⟨(ad327.add ((x9_3).toNat * 4)).block, (ad327.add ((x9_3).toNat * 4)).off + 3, none⟩ = some (.int .i64 ((rd_T47 x7_2 x9_3).f3))) (ds := [12, 13]) #[false, false, false, false, false, false, false, false, false, false, false, false, false, false, false] (by kernel_rfl) rfl rfl ⟨hx327_0, hx327_1, hx327_2, hx327_3, hx328_0, hx328_1, hx328_2, hx328_3⟩ (fun hHeld => ?_); refine with_tabW spec_RunClock.tab16 spec_RunClock.bits16 (fun HT_ HW_ => ?_)
                 generalize wr.drew = w73 at HO_7 HO_8 HO_27 BK314 BK315 HB hx327_0 hx327_1 hx327_2 hx327_3 hx328_0 hx328_1 hx328_2 hx328_3 hHeld ⊢
                 refine pureA 0 64 (bz 15 1) rfl rfl (any_of HT_.out (by kernel_rfl)) ?_
                 refine pureA 1 65 (bz 15 3) rfl rfl (any_of HT_.out (by kernel_rfl)) ?_
                 refine pureA 2 66 (bz 15 7) rfl rfl (any_of HT_.out (by kernel_rfl)) ?_
                 refine pureA 3 67 (bz 15 15) rfl rfl (any_of HT_.out (by kernel_rfl)) ?_
                 refine pureA 4 68 (bz 15 31) rfl rfl (any_of HT_.out (by kernel_rfl)) ?_
                 refine pureA 6 70 (bz 15 95) rfl rfl (any_of HT_.out (by kernel_rfl)) ?_
                 refine pureA 7 71 (bz 15 223) rfl rfl (any_of HT_.out (by kernel_rfl)) ?_
                 refine pureA 8 72 (bz 15 479) rfl rfl (any_of HT_.out (by kernel_rfl)) ?_
                 refine pureA 9 73 (bz 15 991) rfl rfl (any_of HT_.out (by kernel_rfl)) ?_
                 refine takeA 5 69 (bz 15 1023) rfl rfl (take_ofW HT_.out HW_.out (by kernel_rfl)) hHeld (by rintro w' ⟨s0, s1, s2, s3, s4, s5, s6, s7⟩; go_simp; with_reducible rfl) ?_
                 refine takeA 10 74 (bz 15 2047) rfl rfl (take_ofW HT_.out HW_.out (by kernel_rfl)) hHeld (by rintro w' ⟨s0, s1, s2, s3, s4, s5, s6, s7⟩; go_simp; with_reducible rfl) ?_
                 refine pureA 11 75 (bz 15 4095) rfl rfl (any_of HT_.out (by kernel_rfl)) ?_
                 refine last_ (i := 12) (N := some 76) (bz 15 8191) rfl rfl (one_of HT_.out (by kernel_rfl)) (by decide) (fun K hK => ?_)
                 refine value_ (w1 := ?_) (v := ?_) (by rfl) rfl ?_ ?_
                 rotate_left 2
                 ·go_simp
                  constructor
                  ·rfl
                  ·rfl
                 refine hK.out _ _ ?_
                 clear hK K
                 refine norm_ (a' := ?_) ?_ ?_
                 rotate_left
                 ·show Act.put _ (some 76) _ = _
                  simp only [Act.put, List.setIfInBounds_toArray, List.set_cons_zero, List.set_cons_succ, i64_w, i32_w]
                  rfl
                 refine last_ (i := 13) (N := some 77) (bz 15 16383) rfl rfl (one_of HT_.out (by kernel_rfl)) (by decide) (fun K hK => ?_)
                 refine Kd.R_append_step k50 (w0 := w) w.heap.size (by rfl) (.tmp 64) (.tmp 76) 28 50 (.agg #[(.int .i64 0), (.int .i64 0)]) 16 rfl Try.underlying28 info50 rfl (by decide) (by omega) (.slice Ao72 x8_2.length co72) x8_2 (⟨(rd_T47 x7_2 x9_3).f1, (rd_T47 x7_2 x9_3).f0⟩ : S50) [.int .i64 ((rd_T47 x7_2 x9_3).f1), .int .i64 ((rd_T47 x7_2 x9_3).f0)] (fun _ => True) (fun _ => False) rfl rfl ?aP (fun _ hk => hk.elim) ?aF ?aO ?aB ?aS ?aL ?_
                 (case aP => exact k50_mkM _ _ _ (⟨(rd_T47 x7_2 x9_3).f1, (rd_T47 x7_2 x9_3).f0⟩ : S50))
                 (case aB => exact (lV2 GE314 GE315))
                 (case aF => exact (fun _ _ => trivial))
                 (case aO => exact (rU HO_8.out))
                 (case aS => exact (below_size (lV2 GE314 GE315)))
                 (case aL => have := LMc67.out; omega)
                 intro v330 w74 ho hb hg hat
                 rw [← Ny329.out] at ho
                 replace HO_7 := Aside0.mk (Kd.R_over' (rU HO_7.out) (Kd.R_typed (rU HO_8.out)) (by decide) hg)
                 replace HO_27 := Aside0.mk (Kd.R_over' (rU HO_27.out) (Kd.R_typed (rU HO_8.out)) (by decide) hg)
                 replace BK314 := Aside0.mk (blk_grown (g := gb314) (o := .cells #[.int .i64 a0_0, .slice A0_1 l0_1.length c0_1] 25 (0, 0)) (bV BK314) hg (Kd.R_ne HO_8.out BK314.out (by decide)))
                 replace BK315 := Aside0.mk (blk_grown (g := gb315) (o := .cells #[.int .i64 x316000_2, .slice none 0 0] 25 (0, 0)) (bV BK315) hg (Kd.R_ne HO_8.out BK315.out (by decide)))
                 replace HB := Aside0.mk hb
                 have HO331 := Aside0.mk ho
                 clear HO_8
                 clear ho hb hg hat
                 refine hK.out _ _ ?_
                 clear hK K
                 refine norm_ (a' := ?_) ?_ ?_
                 rotate_left
                 ·show Act.put _ (some 77) _ = _
                  simp only [Act.put, List.setIfInBounds_toArray, List.set_cons_zero, List.set_cons_succ, i64_w, i32_w]
                  rfl
                 refine pureA 14 8 (bz 15 32767) rfl rfl (any_of HT_.out (by kernel_rfl)) ?_
                 refine done_ (done_of HT_.out (by kernel_rfl)) ?_
                 have p332 : 0 ≤ (x9_3 : Int) := of_decide_eq_true hE
                 have q332 : x9_3 < (x7_2.length : Int) := of_decide_eq_true hE
                 obtain ⟨ad332, e332, hx332_0, hx332_1, hx332_2, hx332_3⟩ := at_T47 (Kd.R_reads' HO_7.out).2.2 x9_3 p332 q332
                 obtain rfl : ad327 = ad332 := (by injection e332)
                 replace p332 := eq_true p332
                 replace q332 := eq_true q332
                 have p333 : 0 ≤ (x9_3 : Int) := of_decide_eq_true hE
                 have q333 : x9_3 < (x7_2.length : Int) := of_decide_eq_true hE
                 obtain ⟨ad333, e333, hx333_0, hx333_1, hx333_2, hx333_3⟩ := at_T47 (Kd.R_reads' HO_7.out).2.2 x9_3 p333 q333
                 obtain rfl : ad327 = ad333 := (by injection e333)
                 replace p333 := eq_true p333
                 replace q333 := eq_true q333
                 have p334 : 0 ≤ (x9_3 : Int) := of_decide_eq_true hE
                 have q334 : x9_3 < (x7_2.length : Int) := of_decide_eq_true hE
                 obtain ⟨ad334, e334, hx334_0, hx334_1, hx334_2, hx334_3⟩ := at_T47 (Kd.R_reads' HO_7.out).2.2 x9_3 p334 q334
                 obtain rfl : ad327 = ad334 := (by injection e334)
                 replace p334 := eq_true p334
                 replace q334 := eq_true q334
                 have p70 : 0 ≤ (x9_3 : Int) := of_decide_eq_true hE
                 have q70 : (x9_3 : Int) < ((x7_2.length : Int) : Int) := of_decide_eq_true hE
                 obtain ⟨go70, co70, eo70, gb70, gl70, cl70, HG70⟩ := Kd.R_form HO_7.out (by omega)
                 (first | cases eo70 | (injection eo70 with ea_ en_ ec_; (first | subst ea_ | (injection ea_ with ea_; subst ea_)); subst ec_; clear en_))
                 have GB70 := Aside0.mk gb70
                 have GG70 := Aside0.mk HG70
                 clear gb70 gl70 HG70
                 (first | simp only [add_plain] at hx327_0 | skip)
                 (first | simp only [add_plain] at hx327_1 | skip)
                 (first | simp only [add_plain] at hx327_2 | skip)
                 (first | simp only [add_plain] at hx327_3 | skip)
                 (first | simp only [add_plain] at hx328_0 | skip)
                 (first | simp only [add_plain] at hx328_1 | skip)
                 (first | simp only [add_plain] at hx328_2 | skip)
                 (first | simp only [add_plain] at hx328_3 | skip)
                 (first | simp only [add_plain] at hx332_0 | skip)
                 (first | simp only [add_plain] at hx332_1 | skip)
                 (first | simp only [add_plain] at hx332_2 | skip)
                 (first | simp only [add_plain] at hx332_3 | skip)
                 (first | simp only [add_plain] at hx333_0 | skip)
                 (first | simp only [add_plain] at hx333_1 | skip)
                 (first | simp only [add_plain] at hx333_2 | skip)
                 (first | simp only [add_plain] at hx333_3 | skip)
                 (first | simp only [add_plain] at hx334_0 | skip)
                 (first | simp only [add_plain] at hx334_1 | skip)
                 (first | simp only [add_plain] at hx334_2 | skip)
                 (first | simp only [add_plain] at hx334_3 | skip)
                 obtain ⟨ce70, hcl70, hM70, hcc70, hfr70⟩ := Kd.R_elem HO_7.out z47 (x9_3 : Int) p70 q70
                 obtain rfl := k47_openM hM70
                 have hx70_0 : w74.cell? ⟨go70, (x9_3 : Int).toNat * 4, none⟩ = some (.int .i64 ((rd_T47 x7_2 x9_3).f0)) := hcc70 0 _ rfl
                 have hx70_1 : w74.cell? ⟨go70, (x9_3 : Int).toNat * 4 + 1, none⟩ = some (.int .i64 ((rd_T47 x7_2 x9_3).f1)) := hcc70 1 _ rfl
                 have hx70_2 : w74.cell? ⟨go70, (x9_3 : Int).toNat * 4 + 2, none⟩ = some (.int .i64 ((rd_T47 x7_2 x9_3).f2)) := hcc70 2 _ rfl
                 have hx70_3 : w74.cell? ⟨go70, (x9_3 : Int).toNat * 4 + 3, none⟩ = some (.int .i64 ((rd_T47 x7_2 x9_3).f3)) := hcc70 3 _ rfl
                 have hf70_0 : w74.frozen? ⟨go70, (x9_3 : Int).toNat * 4, none⟩ = false := hfr70 0
                 have hf70_1 : w74.frozen? ⟨go70, (x9_3 : Int).toNat * 4 + 1, none⟩ = false := hfr70 1
                 have hf70_2 : w74.frozen? ⟨go70, (x9_3 : Int).toNat * 4 + 2, none⟩ = false := hfr70 2
                 have hf70_3 : w74.frozen? ⟨go70, (x9_3 : Int).toNat * 4 + 3, none⟩ = false := hfr70 3
                 (try clear hcl70)
                 (try clear hcc70)
                 (try clear hfr70)
                 (try clear hM70)
                 replace p70 := eq_true p70
                 replace q70 := eq_true q70
                 have HX75 := Aside0.mk (show Kd.R k47 47 w74 w.heap.size (fun _ => True) (.slice (some ⟨go70, 0, none⟩) x7_2.length co25) x7_2 from (rU HO_7.out))
                 obtain ⟨ce75, hcl75, hM75, hcc75, hfr75⟩ := Kd.R_elem HX75.out z47 (x9_3 : Int) (of_decide_eq_true hE) (by have h_ : (x9_3 : Int) < ((x7_2.length : Int) : Int) := of_decide_eq_true hE; first | exact h_ | (have e_ := (Kd.R_reads' HO_7.out).1; omega) | simpa using h_)
                 obtain rfl := k47_openM hM75
                 have HP75 := Kd.R_seg HX75.out (x9_3 : Int) (of_decide_eq_true hE) (by have h_ : (x9_3 : Int) < ((x7_2.length : Int) : Int) := of_decide_eq_true hE; first | exact h_ | (have e_ := (Kd.R_reads' HO_7.out).1; omega) | simpa using h_) (seg := [.int .i64 (wrap64 (((rd_T47 x7_2 x9_3).f3) - 1))]) (j := 3) hcl75 hcc75 (show 4 ≤ 4 from by decide) (x' := (⟨(rd_T47 x7_2 x9_3).f0, (rd_T47 x7_2 x9_3).f1, (rd_T47 x7_2 x9_3).f2, wrap64 (((rd_T47 x7_2 x9_3).f3) - 1)⟩ : S47)) (k47_mkM _ _ _ (⟨(rd_T47 x7_2 x9_3).f0, (rd_T47 x7_2 x9_3).f1, (rd_T47 x7_2 x9_3).f2, wrap64 (((rd_T47 x7_2 x9_3).f3) - 1)⟩ : S47) ) (fun _ hk => hk)
                 have hx75_3 := hcc75 3 _ rfl
                 (try simp only [show (k47).sz = 4 from rfl, Nat.mul_one, Nat.add_zero] at hx75_3)
                 have hf75_3 := hfr75 3
                 (try simp only [show (k47).sz = 4 from rfl, Nat.mul_one, Nat.add_zero] at hf75_3)
                 (try clear hcl75)
                 (try clear hcc75)
                 (try clear hfr75)
                 (try clear hM75)
                 try go_wp2_with (first | ((with_reducible refine gate_store (t := 3) (p := 99) rfl ?_); refine store_event (t := 3) (p := 99) (v := ?vo_w76) (w1 := (w74.setCell ⟨go70, (x9_3 : Int).toNat * 4 + 3, none⟩ (.int .i64 (wrap64 (((rd_T47 x7_2 x9_3).f3) - 1))))) ?hg ?ho ?hn ?hr ?_; (case ho => rfl); (case hg => rfl); (case hn => rfl); (case hr => exact sE); intro w76 hw; have hg : w74.grownBy w76 (some go70) := (by rw [hw]; exact HP75.2); have hp_ : Kd.R k47 47 w76 w.heap.size (fun _ => True) (.slice (some ⟨go70, 0, none⟩) x7_2.length co25) y335 := (by rw [hw, Ny335.out]; exact HP75.1); clear HP75; replace BK314 := Aside0.mk (blk_grown (g := gb314) (o := .cells #[.int .i64 a0_0, .slice A0_1 l0_1.length c0_1] 25 (0, 0)) (bV BK314) hg (Kd.R_ne HO_7.out BK314.out (by decide))); replace BK315 := Aside0.mk (blk_grown (g := gb315) (o := .cells #[.int .i64 x316000_2, .slice none 0 0] 25 (0, 0)) (bV BK315) hg (Kd.R_ne HO_7.out BK315.out (by decide))); replace HO331 := Aside0.mk (Kd.R_over' (v := (.slice (some ⟨go70, 0, none⟩) x7_2.length co25)) (rU HO331.out) (Kd.R_typed HO_7.out) (by decide) hg); replace HO_7 := Aside0.mk hp_; replace HB := Aside0.mk ((by rw [hw]; exact below_set (HB.out) GB70.out : Below w.heap.size w w76)); clear hg hw hp_))
                 replace HO_7 := Aside0.mk (Kd.R_drew HO_7.out)
                 replace HO331 := Aside0.mk (Kd.R_drew HO331.out)
                 replace BK314 := Aside0.mk (blk_drew BK314.out)
                 replace BK315 := Aside0.mk (blk_drew BK315.out)
                 replace HB := Aside0.mk (below_drew1 HB.out)
                 have p336 : 0 ≤ (x9_3 : Int) := of_decide_eq_true hE
                 have q336 : x9_3 < (y335.length : Int) := (by have h_ : (x9_3 : Int) < ((x7_2.length : Int) : Int) := of_decide_eq_true hE; first | (have e_ := (Kd.R_reads' HO_7.out).1; omega) | simpa only [Ny335.out, List.length_set] using h_)
                 have ql336 : ((x9_3 : Int) < ((x7_2.length : Int) : Int)) = True := eq_true (of_decide_eq_true hE)
                 obtain ⟨ad336, e336, hx336_0, hx336_1, hx336_2, hx336_3⟩ := at_T47 (Kd.R_reads' HO_7.out).2.2 x9_3 p336 q336
                 obtain rfl : (⟨go70, 0, none⟩ : Addr) = ad336 := (by injection e336)
                 (first | simp only [add_plain] at hx336_0 | simp only [add_at] at hx336_0 | simp only [Addr.add, Nat.zero_add] at hx336_0 | skip)
                 (first | simp only [add_plain] at hx336_1 | simp only [add_at] at hx336_1 | simp only [Addr.add, Nat.zero_add] at hx336_1 | skip)
                 (first | simp only [add_plain] at hx336_2 | simp only [add_at] at hx336_2 | simp only [Addr.add, Nat.zero_add] at hx336_2 | skip)
                 (first | simp only [add_plain] at hx336_3 | simp only [add_at] at hx336_3 | simp only [Addr.add, Nat.zero_add] at hx336_3 | skip)
                 replace p336 := eq_true p336
                 replace q336 := eq_true q336
                 have p337 : 0 ≤ (x9_3 : Int) := of_decide_eq_true hE
                 have q337 : x9_3 < (y335.length : Int) := (by have h_ : (x9_3 : Int) < ((x7_2.length : Int) : Int) := of_decide_eq_true hE; first | (have e_ := (Kd.R_reads' HO_7.out).1; omega) | simpa only [Ny335.out, List.length_set] using h_)
                 have ql337 : ((x9_3 : Int) < ((x7_2.length : Int) : Int)) = True := eq_true (of_decide_eq_true hE)
                 obtain ⟨ad337, e337, hx337_0, hx337_1, hx337_2, hx337_3⟩ := at_T47 (Kd.R_reads' HO_7.out).2.2 x9_3 p337 q337
                 obtain rfl : (⟨go70, 0, none⟩ : Addr) = ad337 := (by injection e337)
                 (first | simp only [add_plain] at hx337_0 | simp only [add_at] at hx337_0 | simp only [Addr.add, Nat.zero_add] at hx337_0 | skip)
                 (first | simp only [add_plain] at hx337_1 | simp only [add_at] at hx337_1 | simp only [Addr.add, Nat.zero_add] at hx337_1 | skip)
                 (first | simp only [add_plain] at hx337_2 | simp only [add_at] at hx337_2 | simp only [Addr.add, Nat.zero_add] at hx337_2 | skip)
                 (first | simp only [add_plain] at hx337_3 | simp only [add_at] at hx337_3 | simp only [Addr.add, Nat.zero_add] at hx337_3 | skip)
                 replace p337 := eq_true p337
                 replace q337 := eq_true q337
                 have p71 : 0 ≤ (x9_3 : Int) := of_decide_eq_true hE
                 have q71 : (x9_3 : Int) < ((x7_2.length : Int) : Int) := of_decide_eq_true hE
                 obtain ⟨ce71, hcl71, hM71, hcc71, hfr71⟩ := Kd.R_elem HO_7.out z47 (x9_3 : Int) p71 q71
                 obtain rfl := k47_openM hM71
                 have hx71_0 : World.cell? _ ⟨go70, (x9_3 : Int).toNat * 4, none⟩ = some (.int .i64 ((rd_T47 y335 x9_3).f0)) := hcc71 0 _ rfl
                 have hx71_1 : World.cell? _ ⟨go70, (x9_3 : Int).toNat * 4 + 1, none⟩ = some (.int .i64 ((rd_T47 y335 x9_3).f1)) := hcc71 1 _ rfl
                 have hx71_2 : World.cell? _ ⟨go70, (x9_3 : Int).toNat * 4 + 2, none⟩ = some (.int .i64 ((rd_T47 y335 x9_3).f2)) := hcc71 2 _ rfl
                 have hx71_3 : World.cell? _ ⟨go70, (x9_3 : Int).toNat * 4 + 3, none⟩ = some (.int .i64 ((rd_T47 y335 x9_3).f3)) := hcc71 3 _ rfl
                 have hf71_0 : World.frozen? _ ⟨go70, (x9_3 : Int).toNat * 4, none⟩ = false := hfr71 0
                 have hf71_1 : World.frozen? _ ⟨go70, (x9_3 : Int).toNat * 4 + 1, none⟩ = false := hfr71 1
                 have hf71_2 : World.frozen? _ ⟨go70, (x9_3 : Int).toNat * 4 + 2, none⟩ = false := hfr71 2
                 have hf71_3 : World.frozen? _ ⟨go70, (x9_3 : Int).toNat * 4 + 3, none⟩ = false := hfr71 3
                 (try clear hcl71)
                 (try clear hcc71)
                 (try clear hfr71)
                 (try clear hM71)
                 replace p71 := eq_true p71
                 replace q71 := eq_true q71
                 obtain ⟨ce78, hcl78, hM78, hcc78, hfr78⟩ := Kd.R_elem HO_7.out z47 (x9_3 : Int) (of_decide_eq_true hE) (by have h_ : (x9_3 : Int) < ((x7_2.length : Int) : Int) := of_decide_eq_true hE; first | exact h_ | (have e_ := (Kd.R_reads' HO_7.out).1; omega) | simpa using h_)
                 obtain rfl := k47_openM hM78
                 have HP78 := (Kd.R_seg HO_7.out (x9_3 : Int) (of_decide_eq_true hE) (by have h_ : (x9_3 : Int) < ((x7_2.length : Int) : Int) := of_decide_eq_true hE; first | exact h_ | (have e_ := (Kd.R_reads' HO_7.out).1; omega) | simpa using h_) (seg := [.int .i64 (wrap64 (((rd_T47 y335 x9_3).f1) + ((rd_T47 y335 x9_3).f2)))]) (j := 1) hcl78 hcc78 (show 2 ≤ 4 from by decide) (x' := (⟨(rd_T47 y335 x9_3).f0, wrap64 (((rd_T47 y335 x9_3).f1) + ((rd_T47 y335 x9_3).f2)), (rd_T47 y335 x9_3).f2, (rd_T47 y335 x9_3).f3⟩ : S47)) (k47_mkM _ _ _ (⟨(rd_T47 y335 x9_3).f0, wrap64 (((rd_T47 y335 x9_3).f1) + ((rd_T47 y335 x9_3).f2)), (rd_T47 y335 x9_3).f2, (rd_T47 y335 x9_3).f3⟩ : S47) ) (fun _ hk => hk)).1
                 rw [← Ny338.out] at HP78
                 have HQ78 := Aside0.mk HP78
                 clear hcl78 hcc78 hfr78 hM78 HP78
                 refine start_ (n := 14) (S := fun w' => w'.cell? ⟨go70, (x9_3).toNat * 4, none⟩ = some (.int .i64 ((rd_T47 y335 x9_3).f0)) ∧ w'.cell? ⟨go70, (x9_3).toNat * 4 + 1, none⟩ = some (.int .i64 ((rd_T47 y335 x9_3).f1)) ∧ w'.cell? ⟨go70, (x9_3).toNat * 4 + 2, none⟩ = some (.int .i64 ((rd_T47 y335 x9_3).f2)) ∧ w'.cell? ⟨go70, (x9_3).toNat * 4 + 3, none⟩ = some (.int .i64 ((rd_T47 y335 x9_3).f3)) ∧ w'.cell? ⟨go70, (x9_3).toNat * 4, none⟩ = some (.int .i64 ((rd_T47 y335 x9_3).f0)) ∧ w'.cell? ⟨go70, (x9_3).toNat * 4 + 1, none⟩ = some (.int .i64 ((rd_T47 y335 x9_3).f1)) ∧ w'.cell? ⟨go70, (x9_3).toNat * 4 + 2, none⟩ = some (.int .i64 ((rd_T47 y335 x9_3).f2)) ∧ w'.cell? ⟨go70, (x9_3).toNat * 4 + 3, none⟩ = some (.int .i64 ((rd_T47 y335 x9_3).f3))) (ds := [13]) #[false, false, false, false, false, false, false, false, false, false, false, false, false, false] (by kernel_rfl) rfl rfl ⟨hx336_0, hx336_1, hx336_2, hx336_3, hx337_0, hx337_1, hx337_2, hx337_3⟩ (fun hHeld => ?_); refine with_tabW spec_RunClock.tab19 spec_RunClock.bits19 (fun HT_ HW_ => ?_)
                 generalize w76.drew = w77 at HO_7 HO331 BK314 BK315 HB HQ78 hf71_0 hf71_1 hf71_2 hf71_3 hx336_0 hx336_1 hx336_2 hx336_3 hx337_0 hx337_1 hx337_2 hx337_3 hx71_0 hx71_1 hx71_2 hx71_3 hHeld ⊢
                 refine pureA 0 100 (bz 14 1) rfl rfl (any_of HT_.out (by kernel_rfl)) ?_
                 refine pureA 1 101 (bz 14 3) rfl rfl (any_of HT_.out (by kernel_rfl)) ?_
                 refine pureA 2 102 (bz 14 7) rfl rfl (any_of HT_.out (by kernel_rfl)) ?_
                 refine pureA 3 103 (bz 14 15) rfl rfl (any_of HT_.out (by kernel_rfl)) ?_
                 refine pureA 5 105 (bz 14 47) rfl rfl (any_of HT_.out (by kernel_rfl)) ?_
                 refine pureA 6 106 (bz 14 111) rfl rfl (any_of HT_.out (by kernel_rfl)) ?_
                 refine pureA 7 107 (bz 14 239) rfl rfl (any_of HT_.out (by kernel_rfl)) ?_
                 refine pureA 8 108 (bz 14 495) rfl rfl (any_of HT_.out (by kernel_rfl)) ?_
                 refine takeA 4 104 (bz 14 511) rfl rfl (take_ofW HT_.out HW_.out (by kernel_rfl)) hHeld (by rintro w' ⟨s0, s1, s2, s3, s4, s5, s6, s7⟩; go_simp; with_reducible rfl) ?_
                 refine takeA 9 109 (bz 14 1023) rfl rfl (take_ofW HT_.out HW_.out (by kernel_rfl)) hHeld (by rintro w' ⟨s0, s1, s2, s3, s4, s5, s6, s7⟩; go_simp; with_reducible rfl) ?_
                 refine pureA 10 110 (bz 14 2047) rfl rfl (any_of HT_.out (by kernel_rfl)) ?_
                 refine pureA 11 111 (bz 14 4095) rfl rfl (any_of HT_.out (by kernel_rfl)) ?_
                 refine pureA 12 112 (bz 14 8191) rfl rfl (any_of HT_.out (by kernel_rfl)) ?_
                 refine last_ (i := 13) (N := none) (bz 14 16383) rfl rfl (one_of HT_.out (by kernel_rfl)) (by decide) (fun K hK => ?_)
                 refine skip_ (w1 := ?_) (by rfl) rfl ?_ ?_
                 rotate_left
                 ·go_simp
                  rfl
                 refine hK.out _ _ ?_
                 clear hK K
                 refine done_ (done_of HT_.out (by kernel_rfl)) ?_
                 try go_wp2
                 go_roundg k3
                 case measure => have := HJ2.out; have := HK2.out; have := HK3.out; omega
                 case rel => exact ⟨(y338), (y329), (x316000_2), H', ⟨by have := HJ2.out; have := HK2.out; have := HK3.out; omega⟩, ⟨by (with_reducible repeat (first | apply Kd.R_alloc | apply Kd.R_drewN | apply Kd.R_drew)); exact HQ78.out⟩, ⟨by (with_reducible repeat (first | apply Kd.R_alloc | apply Kd.R_drewN | apply Kd.R_drew)); exact Kd.R_mono (Kd.R_far (p := ⟨go70, (x9_3 : Int).toNat * 4 + 1, none⟩) (Kd.R_types HO331.out (Kd.R_typed HO_7.out go70 rfl).choose_spec (by decide)) (fun _ hk => hk.2) (.int .i64 (wrap64 (((rd_T47 y335 x9_3).f1) + ((rd_T47 y335 x9_3).f2))))) (fun _ hk => trivial)⟩, ⟨by refine bU ?_; refine blk_far ?_ (by have h_ := Kd.R_ne HO_7.out BK314.out (by decide); intro e_; exact h_ (by rw [e_]; rfl)) _; refine bU ?_; exact BK314.out⟩, ⟨by refine bU ?_; refine blk_far ?_ (by have h_ := Kd.R_ne HO_7.out BK315.out (by decide); intro e_; exact h_ (by rw [e_]; rfl)) _; refine bU ?_; exact BK315.out⟩, ⟨by repeat (first | (with_reducible first | exact HB.out | apply below_alloc | apply pw_below_drewN | apply below_drew1 | refine below_set ?_ GB70.out | refine below_set ?_ GE314.out | refine below_set ?_ GE315.out) | exact HB.out)⟩⟩
                ·rw [if_neg c69] at H
                 have c69b0 : decide (1 < ((rd_T47 x7_2 x9_3).f3)) = false := decide_eq_false c69
                 clear c69
                 have c79b0 := eq_true (of_decide_eq_true hE : 0 ≤ x9_3)
                 by_cases c80 : x9_3 ≤ (x7_2.length : Int)
                 ·rw [if_pos c80] at H
                  have c80b0 := eq_true c80
                  have c80b1 : decide (x9_3 ≤ (x7_2.length : Int)) = true := decide_eq_true c80
                  clear c80
                  obtain ⟨y339, hy339⟩ : ∃ y_ : List (S47), y_ = (x7_2.take (x9_3 : Int).toNat) := ⟨_, rfl⟩
                  replace H : (if 0 ≤ (wrap64 (x9_3 + 1)) then (if (wrap64 (x9_3 + 1)) ≤ (x7_2.length : Int) then (spec_RunClock.l0 k3 a1 (x7_2.eraseIdx (x9_3 : Int).toNat) y329) else (none)) else (none)) = some (r1, r2, r3, r4) := by first | (rw [hy339]; with_reducible exact H) | (have H2_ := (Option.bind_some _ _).symm.trans H; rw [hy339]; with_reducible exact H2_) | (have H2_ := (Option.bind_some _ _).symm.trans H; with_reducible exact H2_) | with_reducible exact H | (rw [hy339]; exact H) | exact H
                  have Ny339 := Aside0.mk hy339
                  clear hy339
                  obtain ⟨ji81, hji81⟩ : ∃ j_ : Int, (wrap64 (x9_3 + 1)) = j_ := ⟨_, rfl⟩
                  replace H : (if 0 ≤ (ji81) then (if (ji81) ≤ (x7_2.length : Int) then (spec_RunClock.l0 k3 a1 (x7_2.eraseIdx (x9_3 : Int).toNat) y329) else (none)) else (none)) = some (r1, r2, r3, r4) := by first | (rw [hji81] at H; exact H) | (simp only [hji81] at H ⊢; exact H)
                  have hji81w : (IntKind.i64.wrap (x9_3 + 1)) = ji81 := (i64_w _).trans hji81
                  by_cases c82 : 0 ≤ (ji81)
                  ·rw [if_pos c82] at H
                   have c82b0 := eq_true c82
                   have c82b1 : decide (0 ≤ (ji81)) = true := decide_eq_true c82
                   clear c82
                   by_cases c83 : (ji81) ≤ (x7_2.length : Int)
                   ·rw [if_pos c83] at H
                    have c83b0 := eq_true c83
                    have c83b1 : decide ((ji81) ≤ (x7_2.length : Int)) = true := decide_eq_true c83
                    clear c83
                    obtain ⟨y343, hy343⟩ : ∃ y_ : List (S47), y_ = (x7_2.drop ((ji81) : Int).toNat) := ⟨_, rfl⟩
                    replace H : (spec_RunClock.l0 k3 a1 (x7_2.eraseIdx (x9_3 : Int).toNat) y329) = some (r1, r2, r3, r4) := by first | (rw [hy343]; with_reducible exact H) | (have H2_ := (Option.bind_some _ _).symm.trans H; rw [hy343]; with_reducible exact H2_) | (have H2_ := (Option.bind_some _ _).symm.trans H; with_reducible exact H2_) | with_reducible exact H | (rw [hy343]; exact H) | exact H
                    have Ny343 := Aside0.mk hy343
                    clear hy343
                    obtain ⟨y347, hy347⟩ : ∃ y_ : List (S47), y_ = (x7_2.eraseIdx (x9_3 : Int).toNat) := ⟨_, rfl⟩
                    replace H : (spec_RunClock.l0 k3 a1 y347 y329) = some (r1, r2, r3, r4) := by first | (rw [hy347]; with_reducible exact H) | (have H2_ := (Option.bind_some _ _).symm.trans H; rw [hy347]; with_reducible exact H2_) | (have H2_ := (Option.bind_some _ _).symm.trans H; with_reducible exact H2_) | with_reducible exact H | (rw [hy347]; exact H) | exact H
                    have Ny347 := Aside0.mk hy347
                    clear hy347
                    have H' := Aside0.mk H
                    clear H
                    obtain ⟨Ao84, co84, eo84⟩ := Kd.R_slice HO_8.out
                    subst eo84
                    try go_wp2
                    replace HO_7 := Aside0.mk (Kd.R_drew HO_7.out)
                    replace HO_8 := Aside0.mk (Kd.R_drew HO_8.out)
                    replace HO_27 := Aside0.mk (Kd.R_drew HO_27.out)
                    replace BK314 := Aside0.mk (blk_drew BK314.out)
                    replace BK315 := Aside0.mk (blk_drew BK315.out)
                    replace HB := Aside0.mk (below_drew1 HB.out)
                    have p327 : 0 ≤ (x9_3 : Int) := of_decide_eq_true hE
                    have q327 : x9_3 < (x7_2.length : Int) := of_decide_eq_true hE
                    obtain ⟨ad327, e327, hx327_0, hx327_1, hx327_2, hx327_3⟩ := at_T47 (Kd.R_reads' HO_7.out).2.2 x9_3 p327 q327
                    cases e327
                    replace p327 := eq_true p327
                    replace q327 := eq_true q327
                    have p328 : 0 ≤ (x9_3 : Int) := of_decide_eq_true hE
                    have q328 : x9_3 < (x7_2.length : Int) := of_decide_eq_true hE
                    obtain ⟨ad328, e328, hx328_0, hx328_1, hx328_2, hx328_3⟩ := at_T47 (Kd.R_reads' HO_7.out).2.2 x9_3 p328 q328
                    obtain rfl : ad327 = ad328 := (by injection e328)
                    replace p328 := eq_true p328
                    replace q328 := eq_true q328
                    refine start_ (n := 15) (S := fun w' => w'.cell? (ad327.add ((x9_3).toNat * 4)) = some (.int .i64 ((rd_T47 x7_2 x9_3).f0)) ∧ w'.cell? ⟨(ad327.add ((x9_3).toNat * 4)).block, (ad327.add ((x9_3).toNat * 4)).off + 1, none⟩ = some (.int .i64 ((rd_T47 x7_2 x9_3).f1)) ∧ w'.cell? ⟨(ad327.add ((x9_3).toNat * 4)).block, (ad327.add ((x9_3).toNat * 4)).off + 2, none⟩ = some (.int .i64 ((rd_T47 x7_2 x9_3).f2)) ∧ w'.cell? ⟨(ad327.add ((x9_3).toNat * 4)).block, (ad327.add ((x9_3).toNat * 4)).off + 3, none⟩ = some (.int .i64 ((rd_T47 x7_2 x9_3).f3)) ∧ w'.cell? (ad327.add ((x9_3).toNat * 4)) = some (.int .i64 ((rd_T47 x7_2 x9_3).f0)) ∧ w'.cell? ⟨(ad327.add ((x9_3).toNat * 4)).block, (ad327.add ((x9_3).toNat * 4)).off + 1, none⟩ = some (.int .i64 ((rd_T47 x7_2 x9_3).f1)) ∧ w'.cell? ⟨(ad327.add ((x9_3).toNat * 4)).block, (ad327.add ((x9_3).toNat * 4)).off + 2, none⟩ = some (.int .i64 ((rd_T47 x7_2 x9_3).f2)) ∧ w'.cell? ⟨(ad327.add ((x9_3).toNat * 4)).block, (ad327.add ((x9_3).toNat * 4)).off + 3, none⟩ = some (.int .i64 ((rd_T47 x7_2 x9_3).f3))) (ds := [12, 13]) #[false, false, false, false, false, false, false, false, false, false, false, false, false, false, false] (by kernel_rfl) rfl rfl ⟨hx327_0, hx327_1, hx327_2, hx327_3, hx328_0, hx328_1, hx328_2, hx328_3⟩ (fun hHeld => ?_); refine with_tabW spec_RunClock.tab16 spec_RunClock.bits16 (fun HT_ HW_ => ?_)
                    generalize wr.drew = w85 at HO_7 HO_8 HO_27 BK314 BK315 HB hx327_0 hx327_1 hx327_2 hx327_3 hx328_0 hx328_1 hx328_2 hx328_3 hHeld ⊢
                    refine pureA 0 64 (bz 15 1) rfl rfl (any_of HT_.out (by kernel_rfl)) ?_
                    refine pureA 1 65 (bz 15 3) rfl rfl (any_of HT_.out (by kernel_rfl)) ?_
                    refine pureA 2 66 (bz 15 7) rfl rfl (any_of HT_.out (by kernel_rfl)) ?_
                    refine pureA 3 67 (bz 15 15) rfl rfl (any_of HT_.out (by kernel_rfl)) ?_
                    refine pureA 4 68 (bz 15 31) rfl rfl (any_of HT_.out (by kernel_rfl)) ?_
                    refine pureA 6 70 (bz 15 95) rfl rfl (any_of HT_.out (by kernel_rfl)) ?_
                    refine pureA 7 71 (bz 15 223) rfl rfl (any_of HT_.out (by kernel_rfl)) ?_
                    refine pureA 8 72 (bz 15 479) rfl rfl (any_of HT_.out (by kernel_rfl)) ?_
                    refine pureA 9 73 (bz 15 991) rfl rfl (any_of HT_.out (by kernel_rfl)) ?_
                    refine takeA 5 69 (bz 15 1023) rfl rfl (take_ofW HT_.out HW_.out (by kernel_rfl)) hHeld (by rintro w' ⟨s0, s1, s2, s3, s4, s5, s6, s7⟩; go_simp; with_reducible rfl) ?_
                    refine takeA 10 74 (bz 15 2047) rfl rfl (take_ofW HT_.out HW_.out (by kernel_rfl)) hHeld (by rintro w' ⟨s0, s1, s2, s3, s4, s5, s6, s7⟩; go_simp; with_reducible rfl) ?_
                    refine pureA 11 75 (bz 15 4095) rfl rfl (any_of HT_.out (by kernel_rfl)) ?_
                    refine last_ (i := 12) (N := some 76) (bz 15 8191) rfl rfl (one_of HT_.out (by kernel_rfl)) (by decide) (fun K hK => ?_)
                    refine value_ (w1 := ?_) (v := ?_) (by rfl) rfl ?_ ?_
                    rotate_left 2
                    ·go_simp
                     constructor
                     ·rfl
                     ·rfl
                    refine hK.out _ _ ?_
                    clear hK K
                    refine norm_ (a' := ?_) ?_ ?_
                    rotate_left
                    ·show Act.put _ (some 76) _ = _
                     simp only [Act.put, List.setIfInBounds_toArray, List.set_cons_zero, List.set_cons_succ, i64_w, i32_w]
                     rfl
                    refine last_ (i := 13) (N := some 77) (bz 15 16383) rfl rfl (one_of HT_.out (by kernel_rfl)) (by decide) (fun K hK => ?_)
                    refine Kd.R_append_step k50 (w0 := w) w.heap.size (by rfl) (.tmp 64) (.tmp 76) 28 50 (.agg #[(.int .i64 0), (.int .i64 0)]) 16 rfl Try.underlying28 info50 rfl (by decide) (by omega) (.slice Ao84 x8_2.length co84) x8_2 (⟨(rd_T47 x7_2 x9_3).f1, (rd_T47 x7_2 x9_3).f0⟩ : S50) [.int .i64 ((rd_T47 x7_2 x9_3).f1), .int .i64 ((rd_T47 x7_2 x9_3).f0)] (fun _ => True) (fun _ => False) rfl rfl ?aP (fun _ hk => hk.elim) ?aF ?aO ?aB ?aS ?aL ?_
                    (case aP => exact k50_mkM _ _ _ (⟨(rd_T47 x7_2 x9_3).f1, (rd_T47 x7_2 x9_3).f0⟩ : S50))
                    (case aB => exact (lV2 GE314 GE315))
                    (case aF => exact (fun _ _ => trivial))
                    (case aO => exact (rU HO_8.out))
                    (case aS => exact (below_size (lV2 GE314 GE315)))
                    (case aL => have := LMc67.out; omega)
                    intro v330 w86 ho hb hg hat
                    rw [← Ny329.out] at ho
                    replace HO_7 := Aside0.mk (Kd.R_over' (rU HO_7.out) (Kd.R_typed (rU HO_8.out)) (by decide) hg)
                    replace HO_27 := Aside0.mk (Kd.R_over' (rU HO_27.out) (Kd.R_typed (rU HO_8.out)) (by decide) hg)
                    replace BK314 := Aside0.mk (blk_grown (g := gb314) (o := .cells #[.int .i64 a0_0, .slice A0_1 l0_1.length c0_1] 25 (0, 0)) (bV BK314) hg (Kd.R_ne HO_8.out BK314.out (by decide)))
                    replace BK315 := Aside0.mk (blk_grown (g := gb315) (o := .cells #[.int .i64 x316000_2, .slice none 0 0] 25 (0, 0)) (bV BK315) hg (Kd.R_ne HO_8.out BK315.out (by decide)))
                    replace HB := Aside0.mk hb
                    have HO331 := Aside0.mk ho
                    clear HO_8
                    clear ho hb hg hat
                    refine hK.out _ _ ?_
                    clear hK K
                    refine norm_ (a' := ?_) ?_ ?_
                    rotate_left
                    ·show Act.put _ (some 77) _ = _
                     simp only [Act.put, List.setIfInBounds_toArray, List.set_cons_zero, List.set_cons_succ, i64_w, i32_w]
                     rfl
                    refine pureA 14 8 (bz 15 32767) rfl rfl (any_of HT_.out (by kernel_rfl)) ?_
                    refine done_ (done_of HT_.out (by kernel_rfl)) ?_
                    have p332 : 0 ≤ (x9_3 : Int) := of_decide_eq_true hE
                    have q332 : x9_3 < (x7_2.length : Int) := of_decide_eq_true hE
                    obtain ⟨ad332, e332, hx332_0, hx332_1, hx332_2, hx332_3⟩ := at_T47 (Kd.R_reads' HO_7.out).2.2 x9_3 p332 q332
                    obtain rfl : ad327 = ad332 := (by injection e332)
                    replace p332 := eq_true p332
                    replace q332 := eq_true q332
                    have p333 : 0 ≤ (x9_3 : Int) := of_decide_eq_true hE
                    have q333 : x9_3 < (x7_2.length : Int) := of_decide_eq_true hE
                    obtain ⟨ad333, e333, hx333_0, hx333_1, hx333_2, hx333_3⟩ := at_T47 (Kd.R_reads' HO_7.out).2.2 x9_3 p333 q333
                    obtain rfl : ad327 = ad333 := (by injection e333)
                    replace p333 := eq_true p333
                    replace q333 := eq_true q333
                    try go_wp2
                    replace HO_7 := Aside0.mk (Kd.R_drew HO_7.out)
                    replace HO_27 := Aside0.mk (Kd.R_drew HO_27.out)
                    replace HO331 := Aside0.mk (Kd.R_drew HO331.out)
                    replace BK314 := Aside0.mk (blk_drew BK314.out)
                    replace BK315 := Aside0.mk (blk_drew BK315.out)
                    replace HB := Aside0.mk (below_drew1 HB.out)
                    have q88 : (x9_3 : Int) ≤ ((x7_2.length : Int) : Int) := of_decide_eq_true hE
                    obtain ⟨i088, hi088, _, hsz88, _⟩ := info_parts info47
                    have hroom88 : x7_2.length ≤ co25 := (Kd.R_reads' HO_7.out).2.1
                    have hC88 : Kd.C k47 _ (some ad327) x7_2.length x7_2 := (Kd.R_reads' HO_7.out).2.2
                    have hcut88 := cut_to (P := Try.prog) 23 47 .i64 Try.underlying23 hi088 (some ad327) x7_2.length co25 x9_3 (of_decide_eq_true hE) q88 hroom88
                    have hr88 := Kd.C_take (m := (x9_3 : Int).toNat) hC88 (by omega)
                    have hy88 : y339.length = (x9_3 : Int).toNat := (by rw [Ny339.out, List.length_take]; omega)
                    rw [← Ny339.out] at hr88
                    rw [← hy88] at hcut88
                    have HR342 := Aside0.mk hr88
                    have HC342 := Aside0.mk (show y339.length ≤ co25 from by omega)
                    clear hr88 hC88 hroom88 hi088 hsz88
                    have KY88 := Aside0.mk hy88
                    clear hy88
                    have KL88 := Aside0.mk (show (x9_3 : Int).toNat ≤ x7_2.length from by omega)
                    replace q88 := eq_true q88
                    have q89 : ((ji81) : Int) ≤ ((x7_2.length : Int) : Int) := of_decide_eq_true hE
                    obtain ⟨i089, hi089, _, hsz89, _⟩ := info_parts info47
                    have hroom89 : x7_2.length ≤ co25 := (Kd.R_reads' HO_7.out).2.1
                    have hC89 : Kd.C k47 _ (some ad327) x7_2.length x7_2 := (Kd.R_reads' HO_7.out).2.2
                    have q089 : (0 : Int) ≤ ((ji81) : Int) := of_decide_eq_true hE
                    have hcut89 := cut_from (P := Try.prog) 23 47 .i64 Try.underlying23 hi089 4 hsz89 (some ad327) x7_2.length co25 (ji81) q089 q89
                    have hr89 := Kd.C_drop (m := ((ji81) : Int).toNat) (c := co25) hC89 (by omega) hroom89
                    obtain ⟨A89, hA89⟩ : ∃ A1, A1 = (if co25 = ((ji81) : Int).toNat then (some ad327) else ((some ad327) : Option Addr).map (·.add (((ji81) : Int).toNat * 4))) := ⟨_, rfl⟩
                    obtain ⟨c89, hc89⟩ : ∃ c1, c1 = co25 - ((ji81) : Int).toNat := ⟨_, rfl⟩
                    have hy89 : y343.length = x7_2.length - ((ji81) : Int).toNat := (by rw [Ny343.out, List.length_drop] <;> omega)
                    rw [show (x7_2).drop ((ji81) : Int).toNat = y343 from Ny343.out.symm] at hr89
                    replace hr89 : Kd.C k47 _ A89 y343.length y343 := (by rw [hA89]; exact hr89)
                    rw [← hy89, ← hA89, ← hc89] at hcut89
                    have HR346 := Aside0.mk hr89
                    have HC346 := Aside0.mk (show y343.length ≤ c89 from by rw [hy89, hc89]; exact Nat.sub_le_sub_right hroom89 _)
                    clear hr89 hC89 hroom89 hi089 hsz89 hc89
                    have KY89 := Aside0.mk hy89
                    have KA89 := Aside0.mk hA89
                    (try clear hy89)
                    (try clear hA89)
                    have KL89 := Aside0.mk (show ((ji81) : Int).toNat ≤ x7_2.length from by omega)
                    replace q89 := eq_true q89
                    obtain ⟨go91, co91, eo91, gb91, gl91, cl91, HG91⟩ := Kd.R_form HO_7.out (by have hj_ : 0 ≤ (x9_3 : Int) := of_decide_eq_true hE; have hl_ : (ji81 : Int) ≤ (x7_2.length : Int) := of_decide_eq_true hE; have hh_ : (x9_3 : Int) ≤ (x7_2.length : Int) := of_decide_eq_true hE; rw [← hji81] at hl_; unfold wrap64 at hl_; omega)
                    (first | cases eo91 | (injection eo91 with ea_ en_ ec_; (first | subst ea_ | (injection ea_ with ea_; subst ea_)); subst ec_; clear en_))
                    have GB91 := Aside0.mk gb91
                    have GG91 := Aside0.mk HG91
                    clear gb91 gl91 HG91
                    (first | simp only [add_plain] at hx327_0 | skip)
                    (first | simp only [add_plain] at hx327_1 | skip)
                    (first | simp only [add_plain] at hx327_2 | skip)
                    (first | simp only [add_plain] at hx327_3 | skip)
                    (first | simp only [add_plain] at hx328_0 | skip)
                    (first | simp only [add_plain] at hx328_1 | skip)
                    (first | simp only [add_plain] at hx328_2 | skip)
                    (first | simp only [add_plain] at hx328_3 | skip)
                    (first | simp only [add_plain] at hx332_0 | skip)
                    (first | simp only [add_plain] at hx332_1 | skip)
                    (first | simp only [add_plain] at hx332_2 | skip)
                    (first | simp only [add_plain] at hx332_3 | skip)
                    (first | simp only [add_plain] at hx333_0 | skip)
                    (first | simp only [add_plain] at hx333_1 | skip)
                    (first | simp only [add_plain] at hx333_2 | skip)
                    (first | simp only [add_plain] at hx333_3 | skip)
                    refine start_ (n := 9) (S := fun w' => True) (ds := []) #[false, false, false, false, false, false, false, false, false] (by kernel_rfl) rfl rfl trivial (fun hHeld => ?_); refine with_tabW spec_RunClock.tab20 spec_RunClock.bits20 (fun HT_ HW_ => ?_)
                    generalize w86.drew = w87 at HO_7 HO_27 HO331 BK314 BK315 HB GG91 HR342 HR346 hx327_0 hx327_1 hx327_2 hx327_3 hx328_0 hx328_1 hx328_2 hx328_3 hx332_0 hx332_1 hx332_2 hx332_3 hx333_0 hx333_1 hx333_2 hx333_3 hHeld ⊢
                    refine pureA 0 113 (bz 9 1) rfl rfl (any_of HT_.out (by kernel_rfl)) ?_
                    refine pureA 1 114 (bz 9 3) rfl rfl (any_of HT_.out (by kernel_rfl)) ?_
                    refine pureA 2 115 (bz 9 7) rfl rfl (any_of HT_.out (by kernel_rfl)) ?_
                    refine pureA 3 116 (bz 9 15) rfl rfl (any_of HT_.out (by kernel_rfl)) ?_
                    refine pureA 4 117 (bz 9 31) rfl rfl (any_of HT_.out (by kernel_rfl)) ?_
                    refine pureA 5 118 (bz 9 63) rfl rfl (any_of HT_.out (by kernel_rfl)) ?_
                    refine pureA 6 119 (bz 9 127) rfl rfl (any_of HT_.out (by kernel_rfl)) ?_
                    refine one_ (i := 7) (N := some 120) (bz 9 255) rfl rfl (one_of HT_.out (by kernel_rfl)) (by decide) (fun K hK => ?_)
                    have hj_ : 0 ≤ (x9_3 : Int) := of_decide_eq_true hE
                    have hl_ : (ji81 : Int) ≤ (x7_2.length : Int) := of_decide_eq_true hE
                    have hh_ : (x9_3 : Int) ≤ (x7_2.length : Int) := of_decide_eq_true hE
                    have hb_ := (Kd.R_reads' HO_7.out).2.2.2.1
                    have h0_ : (0 : Int) ≤ (ji81 : Int) := of_decide_eq_true hE
                    have hy1_ := KY88.out
                    have hk_ : (ji81 : Int).toNat = y339.length + 1 := (by have hw_ : (ji81 : Int) = x9_3 + 1 := (by have h00_ := h0_; rw [← hji81] at h00_ ⊢; unfold wrap64 at h00_ ⊢; omega); rw [hw_]; omega)
                    refine Kd.R_delete_step k47 (w0 := w) w.heap.size (by rfl) (.tmp 115) (.tmp 119) 23 47 rfl Try.underlying23 (by kernel_rfl) (g := go91) (n := x7_2.length) (c := co25) (k := y339.length) rfl rfl ?hA ?hm (rU HO_7.out) ?hk (lV2 GE314 GE315) (below_size (lV2 GE314 GE315)) ?_
                    (case hA => have ha_ := KA89.out; rw [hk_] at ha_; exact ha_)
                    (case hm => have ha_ := KY89.out; omega)
                    (case hk => omega)
                    intro w90 ho hb hg
                    clear hj_ hl_ hh_ hb_ hk_ h0_
                    rw [hy1_, ← Ny347.out] at ho
                    clear hy1_
                    have hn_ : x7_2.length - 1 = y347.length := (by have := (Kd.R_reads' ho).1; omega)
                    rw [hn_] at ho ⊢
                    clear hn_
                    replace BK314 := Aside0.mk (blk_grown (g := gb314) (o := .cells #[.int .i64 a0_0, .slice A0_1 l0_1.length c0_1] 25 (0, 0)) (bV BK314) hg (Kd.R_ne HO_7.out BK314.out (by decide)))
                    replace BK315 := Aside0.mk (blk_grown (g := gb315) (o := .cells #[.int .i64 x316000_2, .slice none 0 0] 25 (0, 0)) (bV BK315) hg (Kd.R_ne HO_7.out BK315.out (by decide)))
                    replace HO331 := Aside0.mk (Kd.R_over' (v := (.slice (some ⟨go91, 0, none⟩) x7_2.length co25)) (rU HO331.out) (Kd.R_typed HO_7.out) (by decide) hg)
                    replace HO_7 := Aside0.mk ho
                    replace HB := Aside0.mk hb
                    clear ho hb hg
                    refine hK.out _ _ trivial (fun hHeld => ?_)
                    clear hK K
                    refine norm_ (a' := ?_) ?_ ?_
                    rotate_left
                    ·show Act.put _ (some 120) _ = _
                     simp only [Act.put, List.setIfInBounds_toArray, List.set_cons_zero, List.set_cons_succ, i64_w, i32_w]
                     rfl
                    refine pureA 8 7 (bz 9 511) rfl rfl (any_of HT_.out (by kernel_rfl)) ?_
                    refine done_ (done_of HT_.out (by kernel_rfl)) ?_
                    try go_wp2
                    go_roundg k3
                    case measure => have := HJ2.out; have := HK2.out; have := HK3.out; omega
                    case rel => exact ⟨(y347), (y329), (x316000_2), H', ⟨by have := HJ2.out; have := HK2.out; have := HK3.out; omega⟩, ⟨by (with_reducible repeat (first | apply Kd.R_alloc | apply Kd.R_drewN | apply Kd.R_drew)); exact HO_7.out⟩, ⟨by (with_reducible repeat (first | apply Kd.R_alloc | apply Kd.R_drewN | apply Kd.R_drew)); exact HO331.out⟩, ⟨by refine bU ?_; exact BK314.out⟩, ⟨by refine bU ?_; exact BK315.out⟩, ⟨by repeat (first | (with_reducible first | exact HB.out | apply below_alloc | apply pw_below_drewN | apply below_drew1 | refine below_set ?_ GE314.out | refine below_set ?_ GE315.out) | exact HB.out)⟩⟩
                   ·rw [if_neg c83] at H
                    exact absurd H (by simp)
                  ·rw [if_neg c82] at H
                   exact absurd H (by simp)
                 ·rw [if_neg c80] at H
                  exact absurd H (by simp)
               ·rw [if_neg c68] at H
                have c68b0 : decide (0 < ((rd_T47 x7_2 x9_3).f2)) = false := decide_eq_false c68
                clear c68
                have c92b0 := eq_true (of_decide_eq_true hE : 0 ≤ x9_3)
                by_cases c93 : x9_3 ≤ (x7_2.length : Int)
                ·rw [if_pos c93] at H
                 have c93b0 := eq_true c93
                 have c93b1 : decide (x9_3 ≤ (x7_2.length : Int)) = true := decide_eq_true c93
                 clear c93
                 obtain ⟨y350, hy350⟩ : ∃ y_ : List (S47), y_ = (x7_2.take (x9_3 : Int).toNat) := ⟨_, rfl⟩
                 replace H : (if 0 ≤ (wrap64 (x9_3 + 1)) then (if (wrap64 (x9_3 + 1)) ≤ (x7_2.length : Int) then (spec_RunClock.l0 k3 a1 (x7_2.eraseIdx (x9_3 : Int).toNat) y329) else (none)) else (none)) = some (r1, r2, r3, r4) := by first | (rw [hy350]; with_reducible exact H) | (have H2_ := (Option.bind_some _ _).symm.trans H; rw [hy350]; with_reducible exact H2_) | (have H2_ := (Option.bind_some _ _).symm.trans H; with_reducible exact H2_) | with_reducible exact H | (rw [hy350]; exact H) | exact H
                 have Ny350 := Aside0.mk hy350
                 clear hy350
                 obtain ⟨ji94, hji94⟩ : ∃ j_ : Int, (wrap64 (x9_3 + 1)) = j_ := ⟨_, rfl⟩
                 replace H : (if 0 ≤ (ji94) then (if (ji94) ≤ (x7_2.length : Int) then (spec_RunClock.l0 k3 a1 (x7_2.eraseIdx (x9_3 : Int).toNat) y329) else (none)) else (none)) = some (r1, r2, r3, r4) := by first | (rw [hji94] at H; exact H) | (simp only [hji94] at H ⊢; exact H)
                 have hji94w : (IntKind.i64.wrap (x9_3 + 1)) = ji94 := (i64_w _).trans hji94
                 by_cases c95 : 0 ≤ (ji94)
                 ·rw [if_pos c95] at H
                  have c95b0 := eq_true c95
                  have c95b1 : decide (0 ≤ (ji94)) = true := decide_eq_true c95
                  clear c95
                  by_cases c96 : (ji94) ≤ (x7_2.length : Int)
                  ·rw [if_pos c96] at H
                   have c96b0 := eq_true c96
                   have c96b1 : decide ((ji94) ≤ (x7_2.length : Int)) = true := decide_eq_true c96
                   clear c96
                   obtain ⟨y354, hy354⟩ : ∃ y_ : List (S47), y_ = (x7_2.drop ((ji94) : Int).toNat) := ⟨_, rfl⟩
                   replace H : (spec_RunClock.l0 k3 a1 (x7_2.eraseIdx (x9_3 : Int).toNat) y329) = some (r1, r2, r3, r4) := by first | (rw [hy354]; with_reducible exact H) | (have H2_ := (Option.bind_some _ _).symm.trans H; rw [hy354]; with_reducible exact H2_) | (have H2_ := (Option.bind_some _ _).symm.trans H; with_reducible exact H2_) | with_reducible exact H | (rw [hy354]; exact H) | exact H
                   have Ny354 := Aside0.mk hy354
                   clear hy354
                   obtain ⟨y358, hy358⟩ : ∃ y_ : List (S47), y_ = (x7_2.eraseIdx (x9_3 : Int).toNat) := ⟨_, rfl⟩
                   replace H : (spec_RunClock.l0 k3 a1 y358 y329) = some (r1, r2, r3, r4) := by first | (rw [hy358]; with_reducible exact H) | (have H2_ := (Option.bind_some _ _).symm.trans H; rw [hy358]; with_reducible exact H2_) | (have H2_ := (Option.bind_some _ _).symm.trans H; with_reducible exact H2_) | with_reducible exact H | (rw [hy358]; exact H) | exact H
                   have Ny358 := Aside0.mk hy358
                   clear hy358
                   have H' := Aside0.mk H
                   clear H
                   obtain ⟨Ao97, co97, eo97⟩ := Kd.R_slice HO_8.out
                   subst eo97
                   try go_wp2
                   replace HO_7 := Aside0.mk (Kd.R_drew HO_7.out)
                   replace HO_8 := Aside0.mk (Kd.R_drew HO_8.out)
                   replace HO_27 := Aside0.mk (Kd.R_drew HO_27.out)
                   replace BK314 := Aside0.mk (blk_drew BK314.out)
                   replace BK315 := Aside0.mk (blk_drew BK315.out)
                   replace HB := Aside0.mk (below_drew1 HB.out)
                   have p327 : 0 ≤ (x9_3 : Int) := of_decide_eq_true hE
                   have q327 : x9_3 < (x7_2.length : Int) := of_decide_eq_true hE
                   obtain ⟨ad327, e327, hx327_0, hx327_1, hx327_2, hx327_3⟩ := at_T47 (Kd.R_reads' HO_7.out).2.2 x9_3 p327 q327
                   cases e327
                   replace p327 := eq_true p327
                   replace q327 := eq_true q327
                   have p328 : 0 ≤ (x9_3 : Int) := of_decide_eq_true hE
                   have q328 : x9_3 < (x7_2.length : Int) := of_decide_eq_true hE
                   obtain ⟨ad328, e328, hx328_0, hx328_1, hx328_2, hx328_3⟩ := at_T47 (Kd.R_reads' HO_7.out).2.2 x9_3 p328 q328
                   obtain rfl : ad327 = ad328 := (by injection e328)
                   replace p328 := eq_true p328
                   replace q328 := eq_true q328
                   refine start_ (n := 15) (S := fun w' => w'.cell? (ad327.add ((x9_3).toNat * 4)) = some (.int .i64 ((rd_T47 x7_2 x9_3).f0)) ∧ w'.cell? ⟨(ad327.add ((x9_3).toNat * 4)).block, (ad327.add ((x9_3).toNat * 4)).off + 1, none⟩ = some (.int .i64 ((rd_T47 x7_2 x9_3).f1)) ∧ w'.cell? ⟨(ad327.add ((x9_3).toNat * 4)).block, (ad327.add ((x9_3).toNat * 4)).off + 2, none⟩ = some (.int .i64 ((rd_T47 x7_2 x9_3).f2)) ∧ w'.cell? ⟨(ad327.add ((x9_3).toNat * 4)).block, (ad327.add ((x9_3).toNat * 4)).off + 3, none⟩ = some (.int .i64 ((rd_T47 x7_2 x9_3).f3)) ∧ w'.cell? (ad327.add ((x9_3).toNat * 4)) = some (.int .i64 ((rd_T47 x7_2 x9_3).f0)) ∧ w'.cell? ⟨(ad327.add ((x9_3).toNat * 4)).block, (ad327.add ((x9_3).toNat * 4)).off + 1, none⟩ = some (.int .i64 ((rd_T47 x7_2 x9_3).f1)) ∧ w'.cell? ⟨(ad327.add ((x9_3).toNat * 4)).block, (ad327.add ((x9_3).toNat * 4)).off + 2, none⟩ = some (.int .i64 ((rd_T47 x7_2 x9_3).f2)) ∧ w'.cell? ⟨(ad327.add ((x9_3).toNat * 4)).block, (ad327.add ((x9_3).toNat * 4)).off + 3, none⟩ = some (.int .i64 ((rd_T47 x7_2 x9_3).f3))) (ds := [12, 13]) #[false, false, false, false, false, false, false, false, false, false, false, false, false, false, false] (by kernel_rfl) rfl rfl ⟨hx327_0, hx327_1, hx327_2, hx327_3, hx328_0, hx328_1, hx328_2, hx328_3⟩ (fun hHeld => ?_); refine with_tabW spec_RunClock.tab16 spec_RunClock.bits16 (fun HT_ HW_ => ?_)
                   generalize wr.drew = w98 at HO_7 HO_8 HO_27 BK314 BK315 HB hx327_0 hx327_1 hx327_2 hx327_3 hx328_0 hx328_1 hx328_2 hx328_3 hHeld ⊢
                   refine pureA 0 64 (bz 15 1) rfl rfl (any_of HT_.out (by kernel_rfl)) ?_
                   refine pureA 1 65 (bz 15 3) rfl rfl (any_of HT_.out (by kernel_rfl)) ?_
                   refine pureA 2 66 (bz 15 7) rfl rfl (any_of HT_.out (by kernel_rfl)) ?_
                   refine pureA 3 67 (bz 15 15) rfl rfl (any_of HT_.out (by kernel_rfl)) ?_
                   refine pureA 4 68 (bz 15 31) rfl rfl (any_of HT_.out (by kernel_rfl)) ?_
                   refine pureA 6 70 (bz 15 95) rfl rfl (any_of HT_.out (by kernel_rfl)) ?_
                   refine pureA 7 71 (bz 15 223) rfl rfl (any_of HT_.out (by kernel_rfl)) ?_
                   refine pureA 8 72 (bz 15 479) rfl rfl (any_of HT_.out (by kernel_rfl)) ?_
                   refine pureA 9 73 (bz 15 991) rfl rfl (any_of HT_.out (by kernel_rfl)) ?_
                   refine takeA 5 69 (bz 15 1023) rfl rfl (take_ofW HT_.out HW_.out (by kernel_rfl)) hHeld (by rintro w' ⟨s0, s1, s2, s3, s4, s5, s6, s7⟩; go_simp; with_reducible rfl) ?_
                   refine takeA 10 74 (bz 15 2047) rfl rfl (take_ofW HT_.out HW_.out (by kernel_rfl)) hHeld (by rintro w' ⟨s0, s1, s2, s3, s4, s5, s6, s7⟩; go_simp; with_reducible rfl) ?_
                   refine pureA 11 75 (bz 15 4095) rfl rfl (any_of HT_.out (by kernel_rfl)) ?_
                   refine last_ (i := 12) (N := some 76) (bz 15 8191) rfl rfl (one_of HT_.out (by kernel_rfl)) (by decide) (fun K hK => ?_)
                   refine value_ (w1 := ?_) (v := ?_) (by rfl) rfl ?_ ?_
                   rotate_left 2
                   ·go_simp
                    constructor
                    ·rfl
                    ·rfl
                   refine hK.out _ _ ?_
                   clear hK K
                   refine norm_ (a' := ?_) ?_ ?_
                   rotate_left
                   ·show Act.put _ (some 76) _ = _
                    simp only [Act.put, List.setIfInBounds_toArray, List.set_cons_zero, List.set_cons_succ, i64_w, i32_w]
                    rfl
                   refine last_ (i := 13) (N := some 77) (bz 15 16383) rfl rfl (one_of HT_.out (by kernel_rfl)) (by decide) (fun K hK => ?_)
                   refine Kd.R_append_step k50 (w0 := w) w.heap.size (by rfl) (.tmp 64) (.tmp 76) 28 50 (.agg #[(.int .i64 0), (.int .i64 0)]) 16 rfl Try.underlying28 info50 rfl (by decide) (by omega) (.slice Ao97 x8_2.length co97) x8_2 (⟨(rd_T47 x7_2 x9_3).f1, (rd_T47 x7_2 x9_3).f0⟩ : S50) [.int .i64 ((rd_T47 x7_2 x9_3).f1), .int .i64 ((rd_T47 x7_2 x9_3).f0)] (fun _ => True) (fun _ => False) rfl rfl ?aP (fun _ hk => hk.elim) ?aF ?aO ?aB ?aS ?aL ?_
                   (case aP => exact k50_mkM _ _ _ (⟨(rd_T47 x7_2 x9_3).f1, (rd_T47 x7_2 x9_3).f0⟩ : S50))
                   (case aB => exact (lV2 GE314 GE315))
                   (case aF => exact (fun _ _ => trivial))
                   (case aO => exact (rU HO_8.out))
                   (case aS => exact (below_size (lV2 GE314 GE315)))
                   (case aL => have := LMc67.out; omega)
                   intro v330 w99 ho hb hg hat
                   rw [← Ny329.out] at ho
                   replace HO_7 := Aside0.mk (Kd.R_over' (rU HO_7.out) (Kd.R_typed (rU HO_8.out)) (by decide) hg)
                   replace HO_27 := Aside0.mk (Kd.R_over' (rU HO_27.out) (Kd.R_typed (rU HO_8.out)) (by decide) hg)
                   replace BK314 := Aside0.mk (blk_grown (g := gb314) (o := .cells #[.int .i64 a0_0, .slice A0_1 l0_1.length c0_1] 25 (0, 0)) (bV BK314) hg (Kd.R_ne HO_8.out BK314.out (by decide)))
                   replace BK315 := Aside0.mk (blk_grown (g := gb315) (o := .cells #[.int .i64 x316000_2, .slice none 0 0] 25 (0, 0)) (bV BK315) hg (Kd.R_ne HO_8.out BK315.out (by decide)))
                   replace HB := Aside0.mk hb
                   have HO331 := Aside0.mk ho
                   clear HO_8
                   clear ho hb hg hat
                   refine hK.out _ _ ?_
                   clear hK K
                   refine norm_ (a' := ?_) ?_ ?_
                   rotate_left
                   ·show Act.put _ (some 77) _ = _
                    simp only [Act.put, List.setIfInBounds_toArray, List.set_cons_zero, List.set_cons_succ, i64_w, i32_w]
                    rfl
                   refine pureA 14 8 (bz 15 32767) rfl rfl (any_of HT_.out (by kernel_rfl)) ?_
                   refine done_ (done_of HT_.out (by kernel_rfl)) ?_
                   have p332 : 0 ≤ (x9_3 : Int) := of_decide_eq_true hE
                   have q332 : x9_3 < (x7_2.length : Int) := of_decide_eq_true hE
                   obtain ⟨ad332, e332, hx332_0, hx332_1, hx332_2, hx332_3⟩ := at_T47 (Kd.R_reads' HO_7.out).2.2 x9_3 p332 q332
                   obtain rfl : ad327 = ad332 := (by injection e332)
                   replace p332 := eq_true p332
                   replace q332 := eq_true q332
                   try go_wp2
                   replace HO_7 := Aside0.mk (Kd.R_drew HO_7.out)
                   replace HO_27 := Aside0.mk (Kd.R_drew HO_27.out)
                   replace HO331 := Aside0.mk (Kd.R_drew HO331.out)
                   replace BK314 := Aside0.mk (blk_drew BK314.out)
                   replace BK315 := Aside0.mk (blk_drew BK315.out)
                   replace HB := Aside0.mk (below_drew1 HB.out)
                   have q101 : (x9_3 : Int) ≤ ((x7_2.length : Int) : Int) := of_decide_eq_true hE
                   obtain ⟨i0101, hi0101, _, hsz101, _⟩ := info_parts info47
                   have hroom101 : x7_2.length ≤ co25 := (Kd.R_reads' HO_7.out).2.1
                   have hC101 : Kd.C k47 _ (some ad327) x7_2.length x7_2 := (Kd.R_reads' HO_7.out).2.2
                   have hcut101 := cut_to (P := Try.prog) 23 47 .i64 Try.underlying23 hi0101 (some ad327) x7_2.length co25 x9_3 (of_decide_eq_true hE) q101 hroom101
                   have hr101 := Kd.C_take (m := (x9_3 : Int).toNat) hC101 (by omega)
                   have hy101 : y350.length = (x9_3 : Int).toNat := (by rw [Ny350.out, List.length_take]; omega)
                   rw [← Ny350.out] at hr101
                   rw [← hy101] at hcut101
                   have HR353 := Aside0.mk hr101
                   have HC353 := Aside0.mk (show y350.length ≤ co25 from by omega)
                   clear hr101 hC101 hroom101 hi0101 hsz101
                   have KY101 := Aside0.mk hy101
                   clear hy101
                   have KL101 := Aside0.mk (show (x9_3 : Int).toNat ≤ x7_2.length from by omega)
                   replace q101 := eq_true q101
                   have q102 : ((ji94) : Int) ≤ ((x7_2.length : Int) : Int) := of_decide_eq_true hE
                   obtain ⟨i0102, hi0102, _, hsz102, _⟩ := info_parts info47
                   have hroom102 : x7_2.length ≤ co25 := (Kd.R_reads' HO_7.out).2.1
                   have hC102 : Kd.C k47 _ (some ad327) x7_2.length x7_2 := (Kd.R_reads' HO_7.out).2.2
                   have q0102 : (0 : Int) ≤ ((ji94) : Int) := of_decide_eq_true hE
                   have hcut102 := cut_from (P := Try.prog) 23 47 .i64 Try.underlying23 hi0102 4 hsz102 (some ad327) x7_2.length co25 (ji94) q0102 q102
                   have hr102 := Kd.C_drop (m := ((ji94) : Int).toNat) (c := co25) hC102 (by omega) hroom102
                   obtain ⟨A102, hA102⟩ : ∃ A1, A1 = (if co25 = ((ji94) : Int).toNat then (some ad327) else ((some ad327) : Option Addr).map (·.add (((ji94) : Int).toNat * 4))) := ⟨_, rfl⟩
                   obtain ⟨c102, hc102⟩ : ∃ c1, c1 = co25 - ((ji94) : Int).toNat := ⟨_, rfl⟩
                   have hy102 : y354.length = x7_2.length - ((ji94) : Int).toNat := (by rw [Ny354.out, List.length_drop] <;> omega)
                   rw [show (x7_2).drop ((ji94) : Int).toNat = y354 from Ny354.out.symm] at hr102
                   replace hr102 : Kd.C k47 _ A102 y354.length y354 := (by rw [hA102]; exact hr102)
                   rw [← hy102, ← hA102, ← hc102] at hcut102
                   have HR357 := Aside0.mk hr102
                   have HC357 := Aside0.mk (show y354.length ≤ c102 from by rw [hy102, hc102]; exact Nat.sub_le_sub_right hroom102 _)
                   clear hr102 hC102 hroom102 hi0102 hsz102 hc102
                   have KY102 := Aside0.mk hy102
                   have KA102 := Aside0.mk hA102
                   (try clear hy102)
                   (try clear hA102)
                   have KL102 := Aside0.mk (show ((ji94) : Int).toNat ≤ x7_2.length from by omega)
                   replace q102 := eq_true q102
                   obtain ⟨go104, co104, eo104, gb104, gl104, cl104, HG104⟩ := Kd.R_form HO_7.out (by have hj_ : 0 ≤ (x9_3 : Int) := of_decide_eq_true hE; have hl_ : (ji94 : Int) ≤ (x7_2.length : Int) := of_decide_eq_true hE; have hh_ : (x9_3 : Int) ≤ (x7_2.length : Int) := of_decide_eq_true hE; rw [← hji94] at hl_; unfold wrap64 at hl_; omega)
                   (first | cases eo104 | (injection eo104 with ea_ en_ ec_; (first | subst ea_ | (injection ea_ with ea_; subst ea_)); subst ec_; clear en_))
                   have GB104 := Aside0.mk gb104
                   have GG104 := Aside0.mk HG104
                   clear gb104 gl104 HG104
                   (first | simp only [add_plain] at hx327_0 | skip)
                   (first | simp only [add_plain] at hx327_1 | skip)
                   (first | simp only [add_plain] at hx327_2 | skip)
                   (first | simp only [add_plain] at hx327_3 | skip)
                   (first | simp only [add_plain] at hx328_0 | skip)
                   (first | simp only [add_plain] at hx328_1 | skip)
                   (first | simp only [add_plain] at hx328_2 | skip)
                   (first | simp only [add_plain] at hx328_3 | skip)
                   (first | simp only [add_plain] at hx332_0 | skip)
                   (first | simp only [add_plain] at hx332_1 | skip)
                   (first | simp only [add_plain] at hx332_2 | skip)
                   (first | simp only [add_plain] at hx332_3 | skip)
                   refine start_ (n := 9) (S := fun w' => True) (ds := []) #[false, false, false, false, false, false, false, false, false] (by kernel_rfl) rfl rfl trivial (fun hHeld => ?_); refine with_tabW spec_RunClock.tab20 spec_RunClock.bits20 (fun HT_ HW_ => ?_)
                   generalize w99.drew = w100 at HO_7 HO_27 HO331 BK314 BK315 HB GG104 HR353 HR357 hx327_0 hx327_1 hx327_2 hx327_3 hx328_0 hx328_1 hx328_2 hx328_3 hx332_0 hx332_1 hx332_2 hx332_3 hHeld ⊢
                   refine pureA 0 113 (bz 9 1) rfl rfl (any_of HT_.out (by kernel_rfl)) ?_
                   refine pureA 1 114 (bz 9 3) rfl rfl (any_of HT_.out (by kernel_rfl)) ?_
                   refine pureA 2 115 (bz 9 7) rfl rfl (any_of HT_.out (by kernel_rfl)) ?_
                   refine pureA 3 116 (bz 9 15) rfl rfl (any_of HT_.out (by kernel_rfl)) ?_
                   refine pureA 4 117 (bz 9 31) rfl rfl (any_of HT_.out (by kernel_rfl)) ?_
                   refine pureA 5 118 (bz 9 63) rfl rfl (any_of HT_.out (by kernel_rfl)) ?_
                   refine pureA 6 119 (bz 9 127) rfl rfl (any_of HT_.out (by kernel_rfl)) ?_
                   refine one_ (i := 7) (N := some 120) (bz 9 255) rfl rfl (one_of HT_.out (by kernel_rfl)) (by decide) (fun K hK => ?_)
                   have hj_ : 0 ≤ (x9_3 : Int) := of_decide_eq_true hE
                   have hl_ : (ji94 : Int) ≤ (x7_2.length : Int) := of_decide_eq_true hE
                   have hh_ : (x9_3 : Int) ≤ (x7_2.length : Int) := of_decide_eq_true hE
                   have hb_ := (Kd.R_reads' HO_7.out).2.2.2.1
                   have h0_ : (0 : Int) ≤ (ji94 : Int) := of_decide_eq_true hE
                   have hy1_ := KY101.out
                   have hk_ : (ji94 : Int).toNat = y350.length + 1 := (by have hw_ : (ji94 : Int) = x9_3 + 1 := (by have h00_ := h0_; rw [← hji94] at h00_ ⊢; unfold wrap64 at h00_ ⊢; omega); rw [hw_]; omega)
                   refine Kd.R_delete_step k47 (w0 := w) w.heap.size (by rfl) (.tmp 115) (.tmp 119) 23 47 rfl Try.underlying23 (by kernel_rfl) (g := go104) (n := x7_2.length) (c := co25) (k := y350.length) rfl rfl ?hA ?hm (rU HO_7.out) ?hk (lV2 GE314 GE315) (below_size (lV2 GE314 GE315)) ?_
                   (case hA => have ha_ := KA102.out; rw [hk_] at ha_; exact ha_)
                   (case hm => have ha_ := KY102.out; omega)
                   (case hk => omega)
                   intro w103 ho hb hg
                   clear hj_ hl_ hh_ hb_ hk_ h0_
                   rw [hy1_, ← Ny358.out] at ho
                   clear hy1_
                   have hn_ : x7_2.length - 1 = y358.length := (by have := (Kd.R_reads' ho).1; omega)
                   rw [hn_] at ho ⊢
                   clear hn_
                   replace BK314 := Aside0.mk (blk_grown (g := gb314) (o := .cells #[.int .i64 a0_0, .slice A0_1 l0_1.length c0_1] 25 (0, 0)) (bV BK314) hg (Kd.R_ne HO_7.out BK314.out (by decide)))
                   replace BK315 := Aside0.mk (blk_grown (g := gb315) (o := .cells #[.int .i64 x316000_2, .slice none 0 0] 25 (0, 0)) (bV BK315) hg (Kd.R_ne HO_7.out BK315.out (by decide)))
                   replace HO331 := Aside0.mk (Kd.R_over' (v := (.slice (some ⟨go104, 0, none⟩) x7_2.length co25)) (rU HO331.out) (Kd.R_typed HO_7.out) (by decide) hg)
                   replace HO_7 := Aside0.mk ho
                   replace HB := Aside0.mk hb
                   clear ho hb hg
                   refine hK.out _ _ trivial (fun hHeld => ?_)
                   clear hK K
                   refine norm_ (a' := ?_) ?_ ?_
                   rotate_left
                   ·show Act.put _ (some 120) _ = _
                    simp only [Act.put, List.setIfInBounds_toArray, List.set_cons_zero, List.set_cons_succ, i64_w, i32_w]
                    rfl
                   refine pureA 8 7 (bz 9 511) rfl rfl (any_of HT_.out (by kernel_rfl)) ?_
                   refine done_ (done_of HT_.out (by kernel_rfl)) ?_
                   try go_wp2
                   go_roundg k3
                   case measure => have := HJ2.out; have := HK2.out; have := HK3.out; omega
                   case rel => exact ⟨(y358), (y329), (x316000_2), H', ⟨by have := HJ2.out; have := HK2.out; have := HK3.out; omega⟩, ⟨by (with_reducible repeat (first | apply Kd.R_alloc | apply Kd.R_drewN | apply Kd.R_drew)); exact HO_7.out⟩, ⟨by (with_reducible repeat (first | apply Kd.R_alloc | apply Kd.R_drewN | apply Kd.R_drew)); exact HO331.out⟩, ⟨by refine bU ?_; exact BK314.out⟩, ⟨by refine bU ?_; exact BK315.out⟩, ⟨by repeat (first | (with_reducible first | exact HB.out | apply below_alloc | apply pw_below_drewN | apply below_drew1 | refine below_set ?_ GE314.out | refine below_set ?_ GE315.out) | exact HB.out)⟩⟩
                  ·rw [if_neg c96] at H
                   exact absurd H (by simp)
                 ·rw [if_neg c95] at H
                  exact absurd H (by simp)
                ·rw [if_neg c93] at H
                 exact absurd H (by simp)
              ·rw [if_neg c67] at H
               exact absurd H (by simp)
             ·rw [if_neg c66] at H
              exact absurd H (by simp)
            ·rw [if_neg c65] at H
             exact absurd H (by simp)
    ·rw [if_neg c19] at H
     exact absurd H (by simp)
end Go.Proofs.Ythacmchmppnldaa.PFnPieces
namespace Go.Proofs.Ythacmchmppnldaa.PFnPieces
open Go.RowKit Go.Proofs.YthacmchmppnldaaW.PrintWords Go.Proofs.YthacmchmppnldaaW.PrintLast Go.Proofs.YthacmchmppnldaaW.PrintMore
attribute [local go_sem] max2_int min2_int max_two min_two max_three min_three max_four min_four   -- for this text's walks alone
set_option linter.unusedVariables false
set_option linter.unusedSimpArgs false
attribute [local go_sem high] eqA47 eqA50
def laws_sameFired.l0 : Nat → List (S50) → List (S50) → Int → Int → Option (Bool)
 | 0, _, _, _, _ => none
 | k + 1, x0, x1, x12, x13 => if x13 < x12 then (if 0 ≤ x13 then (if x13 < (x0.length : Int) then (if x13 < (x1.length : Int) then (if (!(((rd_T50 x0 x13).f0) == ((rd_T50 x1 x13).f0)) || (!(((rd_T50 x0 x13).f1) == ((rd_T50 x1 x13).f1)))) = true then (some false) else (laws_sameFired.l0 k x0 x1 x12 (wrap64 (x13 + 1)))) else (none)) else (none)) else (none)) else (some true)
def laws_sameFired.f (k : Nat) (l0 : List (S50)) (l1 : List (S50)) : Option (Bool) := if (l0.length : Int) = (l1.length : Int) then (laws_sameFired.l0 k l0 l1 (l0.length : Int) 0) else (some false)
theorem laws_sameFired.mono_l : ∀ k, (∀ y0 y1 y2 y3, LeO (laws_sameFired.l0 k y0 y1 y2 y3) (laws_sameFired.l0 (k + 1) y0 y1 y2 y3))
 | 0 => fun _ _ _ _ r h => by simp [laws_sameFired.l0] at h
 | k + 1 => by
  have ih0 := laws_sameFired.mono_l k
  ·intro y0 y1 y2 y3
   unfold laws_sameFired.l0
   repeat' first
   | (with_reducible exact ih0 _ _ _ _)
   | (with_reducible first | exact LeO.refl _ | exact LeO.none _ | refine LeO.ite ?_ ?_ | refine LeO.bind ?_ (fun _ => ?_))
   | exact ih0 _ _ _ _ | exact LeO.none _ | refine LeO.ite ?_ ?_ | refine LeO.bind ?_ (fun _ => ?_)
theorem laws_sameFired.mono : ∀ a0 a1 k, LeO (laws_sameFired.f k a0 a1) (laws_sameFired.f (k + 1) a0 a1) := by
 intro a0 a1 k
 have ih0 := laws_sameFired.mono_l k
 unfold laws_sameFired.f
 repeat' first
   | (with_reducible exact ih0 _ _ _ _)
   | (with_reducible first | exact LeO.refl _ | exact LeO.none _ | refine LeO.ite ?_ ?_ | refine LeO.bind ?_ (fun _ => ?_))
   | exact ih0 _ _ _ _ | exact LeO.none _ | refine LeO.ite ?_ ?_ | refine LeO.bind ?_ (fun _ => ?_)
set_option maxHeartbeats 8000000 in
set_option maxRecDepth 100000 in
theorem laws_sameFired.calls (k : Nat) (A0 : Option Addr) (c0 : Nat) (l0 : List (S50)) (A1 : Option Addr) (c1 : Nat) (l1 : List (S50)) (r : Bool) (w : World) (hr0 : Kd.C k50 w A0 l0.length l0) (hc0 : l0.length ≤ c0) (hr1 : Kd.C k50 w A1 l1.length l1) (hc1 : l1.length ≤ c1) (h : laws_sameFired.f k l0 l1 = some r) :
  Calls Try.prog 7 #[.slice A0 l0.length c0, .slice A1 l1.length c1] w fun e w' => e = .returned (.bool r) ∧ Drawn0 w w' := by
 have hu50 := Try.underlying50
 have HR0 := Aside0.mk hr0
 have HC0 := Aside0.mk hc0
 clear hr0 hc0
 have HR1 := Aside0.mk hr1
 have HC1 := Aside0.mk hc1
 clear hr1 hc1
 have H : (if (l0.length : Int) = (l1.length : Int) then (laws_sameFired.l0 k l0 l1 (l0.length : Int) 0) else (some false)) = some r := h
 clear h
 by_cases c3 : (l0.length : Int) = (l1.length : Int)
 ·rw [if_pos c3] at H
  have c3b0 : ((l0.length : Int) == (l1.length : Int)) = true := beq_iff_eq.mpr c3
  have c3b1 : ((l0.length : Int) != (l1.length : Int)) = false := bne_eq_false_iff_eq.mpr c3
  have c3b2 : (l0.length == l1.length) = true := by first | simpa using c3 | (simp at c3 ⊢; omega)
  clear c3
  have H' := Aside0.mk H
  clear H
  go_enter Try.func7, Try.ntmps7
  go_wp2
  repeat (go_quiet (fail); try go_wp2)
  go_loopg [13] k (fun kq v13 w' => ∃ (x13_1 : Int), v13 = .int .i64 x13_1 ∧ Aside0 (laws_sameFired.l0 kq l0 l1 (l0.length : Int) x13_1 = some r) ∧ Aside0 (kq ≤ k) ∧ Drawn0 w w')
  case atStart => exact ⟨(0), tE, H', ⟨Nat.le_refl _⟩, by repeat (first | exact Drawn0.refl _ | apply Drawn0.step)⟩
  case round =>
   clear H'
   try clear c1
   try clear p2
   try clear c3
   try clear c3b0
   try clear c3b1
   try clear c3b2
   obtain ⟨x13_1, rfl, HA, HK1, ⟨m1, rfl⟩⟩ := hrel
   cases gk with
   | zero => exact absurd HA.out (by simp [laws_sameFired.l0])
   | succ k1 =>
    have H := HA.out
    clear HA
    simp only [laws_sameFired.l0] at H
    by_cases c4 : x13_1 < (l0.length : Int)
    ·rw [if_pos c4] at H
     have c4b0 : decide (x13_1 < (l0.length : Int)) = true := decide_eq_true c4
     clear c4
     by_cases c5 : 0 ≤ x13_1
     ·rw [if_pos c5] at H
      have c5b0 : decide (0 ≤ x13_1) = true := decide_eq_true c5
      clear c5
      by_cases c6 : x13_1 < (l0.length : Int)
      ·rw [if_pos c6] at H
       have c6b0 : decide (x13_1 < (l0.length : Int)) = true := decide_eq_true c6
       clear c6
       by_cases c7 : x13_1 < (l1.length : Int)
       ·rw [if_pos c7] at H
        have c7b0 : decide (x13_1 < (l1.length : Int)) = true := decide_eq_true c7
        clear c7
        by_cases c8 : (!(((rd_T50 l0 x13_1).f0) == ((rd_T50 l1 x13_1).f0)) || (!(((rd_T50 l0 x13_1).f1) == ((rd_T50 l1 x13_1).f1)))) = true
        ·rw [if_pos c8] at H
         have c8b0 : (!(((rd_T50 l0 x13_1).f0) == ((rd_T50 l1 x13_1).f0)) || (!(((rd_T50 l0 x13_1).f1) == ((rd_T50 l1 x13_1).f1)))) = true := c8
         clear c8
         obtain rfl := Option.some.inj H
         have p361 : 0 ≤ (x13_1 : Int) := of_decide_eq_true hE
         have q361 : x13_1 < (l0.length : Int) := of_decide_eq_true hE
         obtain ⟨ad361, e361, hx361_0, hx361_1⟩ := at_T50 HR0.out x13_1 p361 q361
         cases e361
         replace p361 := eq_true p361
         replace q361 := eq_true q361
         have p362 : 0 ≤ (x13_1 : Int) := of_decide_eq_true hE
         have q362 : x13_1 < (l1.length : Int) := of_decide_eq_true hE
         obtain ⟨ad362, e362, hx362_0, hx362_1⟩ := at_T50 HR1.out x13_1 p362 q362
         cases e362
         replace p362 := eq_true p362
         replace q362 := eq_true q362
         go_wp2
         repeat (go_quiet (fail); try go_wp2)
         go_ret
         exact ⟨by first | rfl | (simp; done) | (simp [*]; done) | exact not_isEmpty _ | exact (not_isEmpty _).symm | exact is_empty _ | exact (is_empty _).symm, by repeat (first | exact Drawn0.refl _ | apply Drawn0.step)⟩
        ·rw [if_neg c8] at H
         have c8b0 : (!(((rd_T50 l0 x13_1).f0) == ((rd_T50 l1 x13_1).f0)) || (!(((rd_T50 l0 x13_1).f1) == ((rd_T50 l1 x13_1).f1)))) = false := by simpa using c8
         clear c8
         have H' := Aside0.mk H
         clear H
         have p361 : 0 ≤ (x13_1 : Int) := of_decide_eq_true hE
         have q361 : x13_1 < (l0.length : Int) := of_decide_eq_true hE
         obtain ⟨ad361, e361, hx361_0, hx361_1⟩ := at_T50 HR0.out x13_1 p361 q361
         cases e361
         replace p361 := eq_true p361
         replace q361 := eq_true q361
         have p362 : 0 ≤ (x13_1 : Int) := of_decide_eq_true hE
         have q362 : x13_1 < (l1.length : Int) := of_decide_eq_true hE
         obtain ⟨ad362, e362, hx362_0, hx362_1⟩ := at_T50 HR1.out x13_1 p362 q362
         cases e362
         replace p362 := eq_true p362
         replace q362 := eq_true q362
         go_wp2
         repeat (go_quiet (fail); try go_wp2)
         go_roundg k1
         case measure => have := HK1.out; omega
         case rel => exact ⟨(wrap64 (x13_1 + 1)), tE, H', ⟨by have := HK1.out; omega⟩, by repeat (first | exact Drawn0.refl _ | apply Drawn0.step)⟩
       ·rw [if_neg c7] at H
        exact absurd H (by simp)
      ·rw [if_neg c6] at H
       exact absurd H (by simp)
     ·rw [if_neg c5] at H
      exact absurd H (by simp)
    ·rw [if_neg c4] at H
     have c4b0 : decide (x13_1 < (l0.length : Int)) = false := decide_eq_false c4
     clear c4
     obtain rfl := Option.some.inj H
     go_wp2
     repeat (go_quiet (fail); try go_wp2)
     go_ret
     exact ⟨by first | rfl | (simp; done) | (simp [*]; done) | exact not_isEmpty _ | exact (not_isEmpty _).symm | exact is_empty _ | exact (is_empty _).symm, by repeat (first | exact Drawn0.refl _ | apply Drawn0.step)⟩
 ·rw [if_neg c3] at H
  have c3b0 : ((l0.length : Int) == (l1.length : Int)) = false := beq_eq_false_iff_ne.mpr c3
  have c3b1 : ((l0.length : Int) != (l1.length : Int)) = true := bne_iff_ne.mpr c3
  have c3b2 : (l0.length == l1.length) = false := by first | simpa using c3 | (simp at c3 ⊢; omega)
  obtain rfl := Option.some.inj H
  go_enter Try.func7, Try.ntmps7
  go_wp2
  repeat (go_quiet (fail); try go_wp2)
  go_ret
  exact ⟨by first | rfl | (simp; done) | (simp [*]; done) | exact not_isEmpty _ | exact (not_isEmpty _).symm | exact is_empty _ | exact (is_empty _).symm, by repeat (first | exact Drawn0.refl _ | apply Drawn0.step)⟩
def laws_sameTimers.l0 : Nat → List (S47) → List (S47) → Int → Int → Option (Bool)
 | 0, _, _, _, _ => none
 | k + 1, x0, x1, x12, x13 => if x13 < x12 then (if 0 ≤ x13 then (if x13 < (x0.length : Int) then (if x13 < (x1.length : Int) then (if (!(((rd_T47 x0 x13).f0) == ((rd_T47 x1 x13).f0)) || (!(((rd_T47 x0 x13).f1) == ((rd_T47 x1 x13).f1)) || (!(((rd_T47 x0 x13).f2) == ((rd_T47 x1 x13).f2)) || (!(((rd_T47 x0 x13).f3) == ((rd_T47 x1 x13).f3)))))) = true then (some false) else (laws_sameTimers.l0 k x0 x1 x12 (wrap64 (x13 + 1)))) else (none)) else (none)) else (none)) else (some true)
def laws_sameTimers.f (k : Nat) (l0 : List (S47)) (l1 : List (S47)) : Option (Bool) := if (l0.length : Int) = (l1.length : Int) then (laws_sameTimers.l0 k l0 l1 (l0.length : Int) 0) else (some false)
theorem laws_sameTimers.mono_l : ∀ k, (∀ y0 y1 y2 y3, LeO (laws_sameTimers.l0 k y0 y1 y2 y3) (laws_sameTimers.l0 (k + 1) y0 y1 y2 y3))
 | 0 => fun _ _ _ _ r h => by simp [laws_sameTimers.l0] at h
 | k + 1 => by
  have ih0 := laws_sameTimers.mono_l k
  ·intro y0 y1 y2 y3
   unfold laws_sameTimers.l0
   repeat' first
   | (with_reducible exact ih0 _ _ _ _)
   | (with_reducible first | exact LeO.refl _ | exact LeO.none _ | refine LeO.ite ?_ ?_ | refine LeO.bind ?_ (fun _ => ?_))
   | exact ih0 _ _ _ _ | exact LeO.none _ | refine LeO.ite ?_ ?_ | refine LeO.bind ?_ (fun _ => ?_)
theorem laws_sameTimers.mono : ∀ a0 a1 k, LeO (laws_sameTimers.f k a0 a1) (laws_sameTimers.f (k + 1) a0 a1) := by
 intro a0 a1 k
 have ih0 := laws_sameTimers.mono_l k
 unfold laws_sameTimers.f
 repeat' first
   | (with_reducible exact ih0 _ _ _ _)
   | (with_reducible first | exact LeO.refl _ | exact LeO.none _ | refine LeO.ite ?_ ?_ | refine LeO.bind ?_ (fun _ => ?_))
   | exact ih0 _ _ _ _ | exact LeO.none _ | refine LeO.ite ?_ ?_ | refine LeO.bind ?_ (fun _ => ?_)
set_option maxHeartbeats 8000000 in
set_option maxRecDepth 100000 in
theorem laws_sameTimers.calls (k : Nat) (A0 : Option Addr) (c0 : Nat) (l0 : List (S47)) (A1 : Option Addr) (c1 : Nat) (l1 : List (S47)) (r : Bool) (w : World) (hr0 : Kd.C k47 w A0 l0.length l0) (hc0 : l0.length ≤ c0) (hr1 : Kd.C k47 w A1 l1.length l1) (hc1 : l1.length ≤ c1) (h : laws_sameTimers.f k l0 l1 = some r) :
  Calls Try.prog 8 #[.slice A0 l0.length c0, .slice A1 l1.length c1] w fun e w' => e = .returned (.bool r) ∧ Drawn0 w w' := by
 have hu47 := Try.underlying47
 have HR0 := Aside0.mk hr0
 have HC0 := Aside0.mk hc0
 clear hr0 hc0
 have HR1 := Aside0.mk hr1
 have HC1 := Aside0.mk hc1
 clear hr1 hc1
 have H : (if (l0.length : Int) = (l1.length : Int) then (laws_sameTimers.l0 k l0 l1 (l0.length : Int) 0) else (some false)) = some r := h
 clear h
 by_cases c3 : (l0.length : Int) = (l1.length : Int)
 ·rw [if_pos c3] at H
  have c3b0 : ((l0.length : Int) == (l1.length : Int)) = true := beq_iff_eq.mpr c3
  have c3b1 : ((l0.length : Int) != (l1.length : Int)) = false := bne_eq_false_iff_eq.mpr c3
  have c3b2 : (l0.length == l1.length) = true := by first | simpa using c3 | (simp at c3 ⊢; omega)
  clear c3
  have H' := Aside0.mk H
  clear H
  go_enter Try.func8, Try.ntmps8
  go_wp2
  repeat (go_quiet (fail); try go_wp2)
  go_loopg [13] k (fun kq v13 w' => ∃ (x13_1 : Int), v13 = .int .i64 x13_1 ∧ Aside0 (laws_sameTimers.l0 kq l0 l1 (l0.length : Int) x13_1 = some r) ∧ Aside0 (kq ≤ k) ∧ Drawn0 w w')
  case atStart => exact ⟨(0), tE, H', ⟨Nat.le_refl _⟩, by repeat (first | exact Drawn0.refl _ | apply Drawn0.step)⟩
  case round =>
   clear H'
   try clear c1
   try clear p2
   try clear c3
   try clear c3b0
   try clear c3b1
   try clear c3b2
   obtain ⟨x13_1, rfl, HA, HK1, ⟨m1, rfl⟩⟩ := hrel
   cases gk with
   | zero => exact absurd HA.out (by simp [laws_sameTimers.l0])
   | succ k1 =>
    have H := HA.out
    clear HA
    simp only [laws_sameTimers.l0] at H
    by_cases c4 : x13_1 < (l0.length : Int)
    ·rw [if_pos c4] at H
     have c4b0 : decide (x13_1 < (l0.length : Int)) = true := decide_eq_true c4
     clear c4
     by_cases c5 : 0 ≤ x13_1
     ·rw [if_pos c5] at H
      have c5b0 : decide (0 ≤ x13_1) = true := decide_eq_true c5
      clear c5
      by_cases c6 : x13_1 < (l0.length : Int)
      ·rw [if_pos c6] at H
       have c6b0 : decide (x13_1 < (l0.length : Int)) = true := decide_eq_true c6
       clear c6
       by_cases c7 : x13_1 < (l1.length : Int)
       ·rw [if_pos c7] at H
        have c7b0 : decide (x13_1 < (l1.length : Int)) = true := decide_eq_true c7
        clear c7
        by_cases c8 : (!(((rd_T47 l0 x13_1).f0) == ((rd_T47 l1 x13_1).f0)) || (!(((rd_T47 l0 x13_1).f1) == ((rd_T47 l1 x13_1).f1)) || (!(((rd_T47 l0 x13_1).f2) == ((rd_T47 l1 x13_1).f2)) || (!(((rd_T47 l0 x13_1).f3) == ((rd_T47 l1 x13_1).f3)))))) = true
        ·rw [if_pos c8] at H
         have c8b0 : (!(((rd_T47 l0 x13_1).f0) == ((rd_T47 l1 x13_1).f0)) || (!(((rd_T47 l0 x13_1).f1) == ((rd_T47 l1 x13_1).f1)) || (!(((rd_T47 l0 x13_1).f2) == ((rd_T47 l1 x13_1).f2)) || (!(((rd_T47 l0 x13_1).f3) == ((rd_T47 l1 x13_1).f3)))))) = true := c8
         clear c8
         obtain rfl := Option.some.inj H
         have p363 : 0 ≤ (x13_1 : Int) := of_decide_eq_true hE
         have q363 : x13_1 < (l0.length : Int) := of_decide_eq_true hE
         obtain ⟨ad363, e363, hx363_0, hx363_1, hx363_2, hx363_3⟩ := at_T47 HR0.out x13_1 p363 q363
         cases e363
         replace p363 := eq_true p363
         replace q363 := eq_true q363
         have p364 : 0 ≤ (x13_1 : Int) := of_decide_eq_true hE
         have q364 : x13_1 < (l1.length : Int) := of_decide_eq_true hE
         obtain ⟨ad364, e364, hx364_0, hx364_1, hx364_2, hx364_3⟩ := at_T47 HR1.out x13_1 p364 q364
         cases e364
         replace p364 := eq_true p364
         replace q364 := eq_true q364
         go_wp2
         repeat (go_quiet (fail); try go_wp2)
         go_ret
         exact ⟨by first | rfl | (simp; done) | (simp [*]; done) | exact not_isEmpty _ | exact (not_isEmpty _).symm | exact is_empty _ | exact (is_empty _).symm, by repeat (first | exact Drawn0.refl _ | apply Drawn0.step)⟩
        ·rw [if_neg c8] at H
         have c8b0 : (!(((rd_T47 l0 x13_1).f0) == ((rd_T47 l1 x13_1).f0)) || (!(((rd_T47 l0 x13_1).f1) == ((rd_T47 l1 x13_1).f1)) || (!(((rd_T47 l0 x13_1).f2) == ((rd_T47 l1 x13_1).f2)) || (!(((rd_T47 l0 x13_1).f3) == ((rd_T47 l1 x13_1).f3)))))) = false := by simpa using c8
         clear c8
         have H' := Aside0.mk H
         clear H
         have p363 : 0 ≤ (x13_1 : Int) := of_decide_eq_true hE
         have q363 : x13_1 < (l0.length : Int) := of_decide_eq_true hE
         obtain ⟨ad363, e363, hx363_0, hx363_1, hx363_2, hx363_3⟩ := at_T47 HR0.out x13_1 p363 q363
         cases e363
         replace p363 := eq_true p363
         replace q363 := eq_true q363
         have p364 : 0 ≤ (x13_1 : Int) := of_decide_eq_true hE
         have q364 : x13_1 < (l1.length : Int) := of_decide_eq_true hE
         obtain ⟨ad364, e364, hx364_0, hx364_1, hx364_2, hx364_3⟩ := at_T47 HR1.out x13_1 p364 q364
         cases e364
         replace p364 := eq_true p364
         replace q364 := eq_true q364
         go_wp2
         repeat (go_quiet (fail); try go_wp2)
         go_roundg k1
         case measure => have := HK1.out; omega
         case rel => exact ⟨(wrap64 (x13_1 + 1)), tE, H', ⟨by have := HK1.out; omega⟩, by repeat (first | exact Drawn0.refl _ | apply Drawn0.step)⟩
       ·rw [if_neg c7] at H
        exact absurd H (by simp)
      ·rw [if_neg c6] at H
       exact absurd H (by simp)
     ·rw [if_neg c5] at H
      exact absurd H (by simp)
    ·rw [if_neg c4] at H
     have c4b0 : decide (x13_1 < (l0.length : Int)) = false := decide_eq_false c4
     clear c4
     obtain rfl := Option.some.inj H
     go_wp2
     repeat (go_quiet (fail); try go_wp2)
     go_ret
     exact ⟨by first | rfl | (simp; done) | (simp [*]; done) | exact not_isEmpty _ | exact (not_isEmpty _).symm | exact is_empty _ | exact (is_empty _).symm, by repeat (first | exact Drawn0.refl _ | apply Drawn0.step)⟩
 ·rw [if_neg c3] at H
  have c3b0 : ((l0.length : Int) == (l1.length : Int)) = false := beq_eq_false_iff_ne.mpr c3
  have c3b1 : ((l0.length : Int) != (l1.length : Int)) = true := bne_iff_ne.mpr c3
  have c3b2 : (l0.length == l1.length) = false := by first | simpa using c3 | (simp at c3 ⊢; omega)
  obtain rfl := Option.some.inj H
  go_enter Try.func8, Try.ntmps8
  go_wp2
  repeat (go_quiet (fail); try go_wp2)
  go_ret
  exact ⟨by first | rfl | (simp; done) | (simp [*]; done) | exact not_isEmpty _ | exact (not_isEmpty _).symm | exact is_empty _ | exact (is_empty _).symm, by repeat (first | exact Drawn0.refl _ | apply Drawn0.step)⟩
def laws_FnPieces.j0 : Nat → Int → List (S50) → Bool → Bool → Int → List (S47) → Int → List (S47) → Option (Bool)
 | 0, _, _, _, _, _, _, _, _ => none
 | k + 1, x4, x6, x7, x47, x371000, x371001, x380000, x380001 => if x47 = true then (some false) else (if x7 = true then ((impl_RunClock.f k x371000 x371001 (wrap64 (x371000 + (wrap64 (Int.tdiv (wrap64 (x4 - x371000)) 2))))).bind fun bt390 => ((impl_RunClock.f k bt390.1 bt390.2.1 x4).bind fun bt399 => (if bt390.2.2.2 = true then (if bt399.2.2.2 = true then (if bt390.2.2.1.length + bt399.2.2.1.length < 8796093022208 then ((laws_sameFired.f k (bt390.2.2.1 ++ bt399.2.2.1) x6).bind fun t411 => (if t411 = true then (if bt399.1 = x380000 then ((laws_sameTimers.f k x380001 bt399.2.1).bind fun t412 => (some t412)) else (some false)) else (some false))) else (none)) else (some false)) else (some false)))) else (some true))
def laws_FnPieces.f (k : Nat) (l0 : List Int) : Option (Bool) := if (l0.length : Int) > 1048576 then (some true) else ((spec_DrawRunClock.f k l0).bind fun bt365 => ((impl_RunClock.f k bt365.1 bt365.2.1 bt365.2.2).bind fun bt371 => ((spec_RunClock.f k bt365.1 bt365.2.1 bt365.2.2).bind fun bt380 => (if (bt371.2.2.2 != bt380.2.2.2) = true then (laws_FnPieces.j0 k bt365.2.2 bt371.2.2.1 bt371.2.2.2 true bt365.1 bt365.2.1 bt371.1 bt371.2.1) else ((laws_sameFired.f k bt371.2.2.1 bt380.2.2.1).bind fun t389 => (laws_FnPieces.j0 k bt365.2.2 bt371.2.2.1 bt371.2.2.2 (!t389) bt365.1 bt365.2.1 bt371.1 bt371.2.1))))))
theorem laws_FnPieces.mono_l : ∀ k, (∀ y0 y1 y2 y3 y4 y5 y6 y7, LeO (laws_FnPieces.j0 k y0 y1 y2 y3 y4 y5 y6 y7) (laws_FnPieces.j0 (k + 1) y0 y1 y2 y3 y4 y5 y6 y7))
 | 0 => fun _ _ _ _ _ _ _ _ r h => by simp [laws_FnPieces.j0] at h
 | k + 1 => by
  have ih0 := laws_FnPieces.mono_l k
  ·intro y0 y1 y2 y3 y4 y5 y6 y7
   unfold laws_FnPieces.j0
   repeat' first
   | (with_reducible exact ih0 _ _ _ _ _ _ _ _)
   | (with_reducible exact impl_RunClock.mono _ _ _ _)
   | (with_reducible exact laws_sameFired.mono _ _ _)
   | (with_reducible exact laws_sameTimers.mono _ _ _)
   | (with_reducible exact spec_DrawRunClock.mono _ _)
   | (with_reducible exact spec_RunClock.mono _ _ _ _)
   | (with_reducible first | exact LeO.refl _ | exact LeO.none _ | refine LeO.ite ?_ ?_ | refine LeO.bind ?_ (fun _ => ?_))
   | exact ih0 _ _ _ _ _ _ _ _
   | exact impl_RunClock.mono _ _ _ _
   | exact laws_sameFired.mono _ _ _
   | exact laws_sameTimers.mono _ _ _
   | exact spec_DrawRunClock.mono _ _
   | exact spec_RunClock.mono _ _ _ _ | exact LeO.none _ | refine LeO.ite ?_ ?_ | refine LeO.bind ?_ (fun _ => ?_)
theorem laws_FnPieces.mono : ∀ a0 k, LeO (laws_FnPieces.f k a0) (laws_FnPieces.f (k + 1) a0) := by
 intro a0 k
 have ih0 := laws_FnPieces.mono_l k
 unfold laws_FnPieces.f
 repeat' first
   | (with_reducible exact ih0 _ _ _ _ _ _ _ _)
   | (with_reducible exact impl_RunClock.mono _ _ _ _)
   | (with_reducible exact laws_sameFired.mono _ _ _)
   | (with_reducible exact laws_sameTimers.mono _ _ _)
   | (with_reducible exact spec_DrawRunClock.mono _ _)
   | (with_reducible exact spec_RunClock.mono _ _ _ _)
   | (with_reducible first | exact LeO.refl _ | exact LeO.none _ | refine LeO.ite ?_ ?_ | refine LeO.bind ?_ (fun _ => ?_))
   | exact ih0 _ _ _ _ _ _ _ _
   | exact impl_RunClock.mono _ _ _ _
   | exact laws_sameFired.mono _ _ _
   | exact laws_sameTimers.mono _ _ _
   | exact spec_DrawRunClock.mono _ _
   | exact spec_RunClock.mono _ _ _ _ | exact LeO.none _ | refine LeO.ite ?_ ?_ | refine LeO.bind ?_ (fun _ => ?_)
set_option maxHeartbeats 8000000 in
set_option maxRecDepth 100000 in
theorem laws_FnPieces.calls (k : Nat) (A0 : Option Addr) (c0 : Nat) (l0 : List Int) (r : Bool) (w : World) (hr0 : Kd.C (Kd.int .u8) w A0 l0.length l0) (hc0 : l0.length ≤ c0) (h : laws_FnPieces.f k l0 = some r) :
  Calls Try.prog 3 #[.slice A0 l0.length c0] w fun e w' => e = .returned (.bool r) ∧ Below w.heap.size w w' := by
 have hu25 := Try.underlying25
 have HR0 := Aside0.mk hr0
 have HC0 := Aside0.mk hc0
 clear hr0 hc0
 have HB := Aside0.mk (Below.refl w.heap.size w)
 have H : (if (l0.length : Int) > 1048576 then (some true) else ((spec_DrawRunClock.f k l0).bind fun bt365 => ((impl_RunClock.f k bt365.1 bt365.2.1 bt365.2.2).bind fun bt371 => ((spec_RunClock.f k bt365.1 bt365.2.1 bt365.2.2).bind fun bt380 => (if (bt371.2.2.2 != bt380.2.2.2) = true then (laws_FnPieces.j0 k bt365.2.2 bt371.2.2.1 bt371.2.2.2 true bt365.1 bt365.2.1 bt371.1 bt371.2.1) else ((laws_sameFired.f k bt371.2.2.1 bt380.2.2.1).bind fun t389 => (laws_FnPieces.j0 k bt365.2.2 bt371.2.2.1 bt371.2.2.2 (!t389) bt365.1 bt365.2.1 bt371.1 bt371.2.1))))))) = some r := h
 clear h
 by_cases c2 : (l0.length : Int) > 1048576
 ·rw [if_pos c2] at H
  have c2b0 : decide (1048576 < (l0.length : Int)) = true := decide_eq_true c2
  have c2b1 : decide (1048576 < l0.length) = true := decide_eq_true (by omega)
  clear c2
  obtain rfl := Option.some.inj H
  go_enter Try.func3, Try.ntmps3
  go_wp2
  go_ret
  exact ⟨eE, lU⟩
 ·rw [if_neg c2] at H
  have c2b0 : decide (1048576 < (l0.length : Int)) = false := decide_eq_false c2
  have c2b1 : decide (1048576 < l0.length) = false := decide_eq_false (by omega)
  clear c2
  replace H := Option.bind_eq_some_iff.mp H
  obtain ⟨⟨t365, t366, t369⟩, A30, H⟩ := H
  replace H : ((impl_RunClock.f k t365 t366 t369).bind fun bt371 => ((spec_RunClock.f k t365 t366 t369).bind fun bt380 => (if (bt371.2.2.2 != bt380.2.2.2) = true then (laws_FnPieces.j0 k t369 bt371.2.2.1 bt371.2.2.2 true t365 t366 bt371.1 bt371.2.1) else ((laws_sameFired.f k bt371.2.2.1 bt380.2.2.1).bind fun t389 => (laws_FnPieces.j0 k t369 bt371.2.2.1 bt371.2.2.2 (!t389) t365 t366 bt371.1 bt371.2.1))))) = some r := H
  have A3 := Aside0.mk A30
  clear A30
  replace H := Option.bind_eq_some_iff.mp H
  obtain ⟨⟨t371, t372, t375, t378⟩, A40, H⟩ := H
  replace H : ((spec_RunClock.f k t365 t366 t369).bind fun bt380 => (if (t378 != bt380.2.2.2) = true then (laws_FnPieces.j0 k t369 t375 t378 true t365 t366 t371 t372) else ((laws_sameFired.f k t375 bt380.2.2.1).bind fun t389 => (laws_FnPieces.j0 k t369 t375 t378 (!t389) t365 t366 t371 t372)))) = some r := H
  have A4 := Aside0.mk A40
  clear A40
  replace H := Option.bind_eq_some_iff.mp H
  obtain ⟨⟨t380, t381, t384, t387⟩, A50, H⟩ := H
  replace H : (if (t378 != t387) = true then (laws_FnPieces.j0 k t369 t375 t378 true t365 t366 t371 t372) else ((laws_sameFired.f k t375 t384).bind fun t389 => (laws_FnPieces.j0 k t369 t375 t378 (!t389) t365 t366 t371 t372))) = some r := H
  have A5 := Aside0.mk A50
  clear A50
  have HC6 := Aside0.mk H
  clear H
  go_enter Try.func3, Try.ntmps3
  go_upto_region 6 with (first | ((with_reducible refine gate_callee (f := 4) rfl ?_); refine goesL_ (some 22) rfl rfl Try.func4 (by kernel_rfl) rfl #[.slice A0 l0.length c0] rfl aE ?_; (with_reducible refine (spec_DrawRunClock.calls k _ _ l0 t365 t366 t369 _ ?side1 ?side2 A3.out).mono ?_); (case side1 => repeat (first | exact HR0.out | (with_reducible refine Kd.C_alloc ?_ _) | (with_reducible refine Kd.C_drewN ?_ _) | (with_reducible refine Kd.C_drew ?_))); (case side2 => exact HC0.out); rintro e w7 ⟨v367, rfl, ho0, hb⟩; refine ⟨_, rfl, ?_⟩; have HO368 := Aside0.mk (Kd.R_lower ho0 (below_size (lU))); replace HB := bH (lU) hb; (try clear hb); (try clear ho0)) | ((with_reducible refine gate_dst (N := 3) rfl ?_); (try (refine gate_guard (by rfl) ?_; dsimp only)); refine box_event rfl (N := 3) rfl (cs := #[.int .i64 0, .slice none 0 0]) (t := 25) sE ?_; intro gb370 hg w8 hbox hb; replace HO368 := Aside0.mk (Kd.R_below (rU HO368.out) hb); have BK370 := Aside0.mk hbox; have GW370 := gS w hg (lU); have GE370 := gS w hg (lU); replace HB := bH (lU) hb; clear hb hbox hg; have hcz9_0 := cz BK370 0 (.int .i64 0); have hcz9_1 := cz BK370 1 (.slice none 0 0); have hfz9_0 := fz BK370 0; have hfz9_1 := fz BK370 1; obtain ⟨Ao10, co10, eo10⟩ := Kd.R_slice HO368.out; subst eo10) | ((with_reducible refine gate_callee (f := 5) rfl ?_); refine goesL_ (some 28) rfl rfl Try.func5 (by kernel_rfl) rfl #[.agg #[.int .i64 t365, .slice Ao10 t366.length co10], .int .i64 t369] rfl aE ?_; (with_reducible refine (impl_RunClock.calls k t365 _ _ t366 t369 t371 t372 t375 t378 _ ?side1 ?side2 A4.out).mono ?_); (case side1 => refine (Kd.R_reads' (e := 47) (base := w.heap.size) (ok := fun k_ => True) (n := t366.length) (c := co10) ?_).2.2; exact (rU (Kd.R_mono (Kd.R_far (p := ⟨gb370, 1, none⟩) (Kd.R_far (p := ⟨gb370, 0, none⟩) (Kd.R_types HO368.out BK370.out (by decide)) (fun _ hk => hk.2) (.int .i64 t365)) (fun _ hk => hk.2) (.slice Ao10 t366.length co10)) (fun _ h_ => h_.1)))); (case side2 => exact (Kd.R_reads' HO368.out).2.1); rintro e w11 ⟨v373, v376, rfl, ho0, ho1, hb⟩; refine ⟨_, rfl, ?_⟩; have HO374 := Aside0.mk (Kd.R_lower (Kd.R_new' ho0 (Kd.R_lt (rU (Kd.R_mono (Kd.R_far (p := ⟨gb370, 1, none⟩) (Kd.R_far (p := ⟨gb370, 0, none⟩) (Kd.R_types HO368.out BK370.out (by decide)) (fun _ hk => hk.2) (.int .i64 t365)) (fun _ hk => hk.2) (.slice Ao10 t366.length co10)) (fun _ h_ => h_.1))))) (below_size (lV1 GE370))); replace HO368 := Aside0.mk (Kd.R_elder' (rU (Kd.R_mono (Kd.R_far (p := ⟨gb370, 1, none⟩) (Kd.R_far (p := ⟨gb370, 0, none⟩) (Kd.R_types HO368.out BK370.out (by decide)) (fun _ hk => hk.2) (.int .i64 t365)) (fun _ hk => hk.2) (.slice Ao10 t366.length co10)) (fun _ h_ => h_.1))) (Kd.R_base ho0) hb); have HO377 := Aside0.mk (Kd.R_lower ho1 (below_size (lV1 GE370))); replace BK370 := Aside0.mk (blk_below (g := gb370) (o := .cells #[.int .i64 t365, .slice Ao10 t366.length co10] 25 (0, 0)) (by refine bU ?_; refine blk_put (cs := #[.int .i64 t365, .slice none 0 0]) ?_ 1 _ rfl; refine bU ?_; refine blk_put (cs := #[.int .i64 0, .slice none 0 0]) ?_ 0 _ rfl; refine bU ?_; exact BK370.out) hb); replace HB := bH (lV1 GE370) hb; (try clear hb); (try clear ho0); (try clear ho1)) | ((with_reducible refine gate_dst (N := 5) rfl ?_); (try (refine gate_guard (by rfl) ?_; dsimp only)); refine box_event rfl (N := 5) rfl (cs := #[.int .i64 0, .slice none 0 0]) (t := 25) sE ?_; intro gb379 hg w12 hbox hb; replace HO368 := Aside0.mk (Kd.R_below (rU HO368.out) hb); replace HO374 := Aside0.mk (Kd.R_below (rU HO374.out) hb); replace HO377 := Aside0.mk (Kd.R_below (rU HO377.out) hb); have BK379 := Aside0.mk hbox; have GW379 := gS w hg (lV1 GE370); have GE379 := gS w hg (lV1 GE370); replace HB := bH (lV1 GE370) hb; have NB370_379 := nL hg (bV BK370); have NB379_370 := nG hg (bV BK370); replace BK370 := bB (bV BK370) hb; clear hb hbox hg; have hnb13 := NB379_370.out; have hnc13 := NB370_379.out; have hcz14_0 := cz BK379 0 (.int .i64 0); have hcz14_1 := cz BK379 1 (.slice none 0 0); have hfz14_0 := fz BK379 0; have hfz14_1 := fz BK379 1; obtain ⟨Ao15, co15, eo15⟩ := Kd.R_slice HO374.out; subst eo15; have hcz16_0 := cz BK370 0 (.int .i64 t365); have hcz16_1 := cz BK370 1 (.slice Ao10 t366.length co10); have hfz16_0 := fz BK370 0; have hfz16_1 := fz BK370 1) | ((with_reducible refine gate_callee (f := 6) rfl ?_); refine goesL_ (some 35) rfl rfl Try.func6 (by kernel_rfl) rfl #[.agg #[.int .i64 t365, .slice Ao10 t366.length co10], .int .i64 t369] rfl aE ?_; (with_reducible refine (spec_RunClock.calls k t365 _ _ t366 t369 t380 t381 t384 t387 _ ?side1 ?side2 A5.out).mono ?_); (case side1 => refine (Kd.R_reads' (e := 47) (base := w.heap.size) (ok := fun k_ => (True ∧ some k_ ≠ (.slice Ao15 t372.length co15 : Value).ownBlock)) (n := t366.length) (c := co10) ?_).2.2; exact (rU (Kd.R_mono (Kd.R_far (p := ⟨gb379, 1, none⟩) (Kd.R_far (p := ⟨gb379, 0, none⟩) (Kd.R_types HO368.out BK379.out (by decide)) (fun _ hk => hk.2) (.int .i64 t371)) (fun _ hk => hk.2) (.slice Ao15 t372.length co15)) (fun _ h_ => h_.1)))); (case side2 => exact (Kd.R_reads' HO368.out).2.1); rintro e w17 ⟨v382, v385, rfl, ho0, ho1, hb⟩; refine ⟨_, rfl, ?_⟩; have HO383 := Aside0.mk (Kd.R_lower (Kd.R_new' (Kd.R_new' ho0 (Kd.R_lt (rU (Kd.R_mono (Kd.R_far (p := ⟨gb379, 1, none⟩) (Kd.R_far (p := ⟨gb379, 0, none⟩) (Kd.R_types HO368.out BK379.out (by decide)) (fun _ hk => hk.2) (.int .i64 t371)) (fun _ hk => hk.2) (.slice Ao15 t372.length co15)) (fun _ h_ => h_.1))))) (Kd.R_lt (rU (Kd.R_mono (Kd.R_far (p := ⟨gb379, 1, none⟩) (Kd.R_far (p := ⟨gb379, 0, none⟩) (Kd.R_types HO374.out BK379.out (by decide)) (fun _ hk => hk.2) (.int .i64 t371)) (fun _ hk => hk.2) (.slice Ao15 t372.length co15)) (fun _ h_ => h_.1))))) (below_size (lV2 GE370 GE379))); replace HO368 := Aside0.mk (Kd.R_elder' (rU (Kd.R_mono (Kd.R_far (p := ⟨gb379, 1, none⟩) (Kd.R_far (p := ⟨gb379, 0, none⟩) (Kd.R_types HO368.out BK379.out (by decide)) (fun _ hk => hk.2) (.int .i64 t371)) (fun _ hk => hk.2) (.slice Ao15 t372.length co15)) (fun _ h_ => h_.1))) (Kd.R_base ho0) hb); replace HO374 := Aside0.mk (Kd.R_elder' (rU (Kd.R_mono (Kd.R_far (p := ⟨gb379, 1, none⟩) (Kd.R_far (p := ⟨gb379, 0, none⟩) (Kd.R_types HO374.out BK379.out (by decide)) (fun _ hk => hk.2) (.int .i64 t371)) (fun _ hk => hk.2) (.slice Ao15 t372.length co15)) (fun _ h_ => h_.1))) (Kd.R_base ho0) hb); have HO386 := Aside0.mk (Kd.R_lower (Kd.R_new' ho1 (Kd.R_lt (rU (Kd.R_mono (Kd.R_far (p := ⟨gb379, 1, none⟩) (Kd.R_far (p := ⟨gb379, 0, none⟩) (Kd.R_types HO377.out BK379.out (by decide)) (fun _ hk => hk.2) (.int .i64 t371)) (fun _ hk => hk.2) (.slice Ao15 t372.length co15)) (fun _ h_ => h_.1))))) (below_size (lV2 GE370 GE379))); replace HO377 := Aside0.mk (Kd.R_elder' (rU (Kd.R_mono (Kd.R_far (p := ⟨gb379, 1, none⟩) (Kd.R_far (p := ⟨gb379, 0, none⟩) (Kd.R_types HO377.out BK379.out (by decide)) (fun _ hk => hk.2) (.int .i64 t371)) (fun _ hk => hk.2) (.slice Ao15 t372.length co15)) (fun _ h_ => h_.1))) (Kd.R_base ho1) hb); replace BK370 := bB (bG NB370_379 BK370) hb; replace BK379 := Aside0.mk (blk_below (g := gb379) (o := .cells #[.int .i64 t371, .slice Ao15 t372.length co15] 25 (0, 0)) (by refine bU ?_; refine blk_put (cs := #[.int .i64 t371, .slice none 0 0]) ?_ 1 _ rfl; refine bU ?_; refine blk_put (cs := #[.int .i64 0, .slice none 0 0]) ?_ 0 _ rfl; refine bU ?_; exact BK379.out) hb); replace HB := bH (lV2 GE370 GE379) hb; (try clear hb); (try clear ho0); (try clear ho1)) | ((with_reducible refine gate_dst (N := 8) rfl ?_); (try (refine gate_guard (by rfl) ?_; dsimp only)); refine box_event rfl (N := 8) rfl (cs := #[.int .i64 0, .slice none 0 0]) (t := 25) sE ?_; intro gb388 hg w18 hbox hb; replace HO368 := Aside0.mk (Kd.R_below (rU HO368.out) hb); replace HO374 := Aside0.mk (Kd.R_below (rU HO374.out) hb); replace HO377 := Aside0.mk (Kd.R_below (rU HO377.out) hb); replace HO383 := Aside0.mk (Kd.R_below (rU HO383.out) hb); replace HO386 := Aside0.mk (Kd.R_below (rU HO386.out) hb); have BK388 := Aside0.mk hbox; have GW388 := gS w hg (lV2 GE370 GE379); have GE388 := gS w hg (lV2 GE370 GE379); replace HB := bH (lV2 GE370 GE379) hb; have NB370_388 := nL hg (bV BK370); have NB388_370 := nG hg (bV BK370); replace BK370 := bB (bV BK370) hb; have NB379_388 := nL hg (bV BK379); have NB388_379 := nG hg (bV BK379); replace BK379 := bB (bV BK379) hb; clear hb hbox hg; have hnb19 := NB388_370.out; have hnc19 := NB370_388.out; have hnb20 := NB388_379.out; have hnc20 := NB379_388.out; have hcz21_0 := cz BK388 0 (.int .i64 0); have hcz21_1 := cz BK388 1 (.slice none 0 0); have hfz21_0 := fz BK388 0; have hfz21_1 := fz BK388 1; obtain ⟨Ao22, co22, eo22⟩ := Kd.R_slice HO383.out; subst eo22))
  (try simp only [Act.put, List.setIfInBounds_toArray, List.set_cons_zero, List.set_cons_succ])
  go_cut [47] (fun v47 wc => ∃ (kq : Nat) (x47_5 : Bool), v47 = .bool x47_5 ∧ Aside0 (laws_FnPieces.j0 kq t369 t375 t378 x47_5 t365 t366 t371 t372 = some r) ∧ Aside0 (kq ≤ k) ∧ Aside0 (Kd.R k50 50 wc w.heap.size (fun _ => True) v376 t375) ∧ Aside0 (Kd.R k47 47 wc w.heap.size (fun k_ => some k_ ≠ ((.slice Ao15 t372.length co15) : Value).ownBlock ∧ some k_ ≠ ((.slice Ao22 t381.length co22) : Value).ownBlock) (.slice Ao10 t366.length co10) t366) ∧ Aside0 (Kd.R k47 47 wc w.heap.size (fun k_ => some k_ ≠ ((.slice Ao10 t366.length co10) : Value).ownBlock ∧ some k_ ≠ ((.slice Ao22 t381.length co22) : Value).ownBlock) (.slice Ao15 t372.length co15) t372) ∧ Aside0 (Kd.R k47 47 wc w.heap.size (fun k_ => some k_ ≠ ((.slice Ao10 t366.length co10) : Value).ownBlock ∧ some k_ ≠ ((.slice Ao15 t372.length co15) : Value).ownBlock) (.slice Ao22 t381.length co22) t381) ∧ Aside0 (wc.heap[gb370]? = some (.cells #[.int .i64 t365, (.slice Ao10 t366.length co10)] 25 (0, 0))) ∧ Aside0 (wc.heap[gb379]? = some (.cells #[.int .i64 t371, (.slice Ao15 t372.length co15)] 25 (0, 0))) ∧ Aside0 (wc.heap[gb388]? = some (.cells #[.int .i64 t380, (.slice Ao22 t381.length co22)] 25 (0, 0))) ∧ Aside0 (Below w.heap.size w wc))
  case first =>
   have H := HC6.out
   clear HC6
   by_cases c23 : (t378 != t387) = true
   ·rw [if_pos c23] at H
    have c23b0 : (t378 != t387) = true := c23
    (try (have c23b1 : decide (t378 = t387) = false := by simpa using c23))
    (try (have c23b2 : (t378 == t387) = false := by simpa using c23))
    (try (have c23b3 : ¬ (t378 = t387) := by simpa using c23))
    clear c23
    (first | rw [c23b0] | (simp only [i64_w, i32_w]; rw [c23b0]) | (rw [c23b2]; simp only [Bool.not_false, Bool.not_true]) | skip)
    have H' := Aside0.mk H
    clear H
    go_wp2
    go_meet
    case rel => exact ⟨_, (true), tE, H', ⟨by first | omega | exact Nat.le_refl _⟩, ⟨by (with_reducible repeat (first | apply Kd.R_alloc | apply Kd.R_drewN | apply Kd.R_drew)); exact Kd.R_mono (Kd.R_far (p := ⟨gb388, 1, none⟩) (Kd.R_far (p := ⟨gb388, 0, none⟩) (Kd.R_types HO377.out BK388.out (by decide)) (fun _ hk => hk.2) (.int .i64 t380)) (fun _ hk => hk.2) (.slice Ao22 t381.length co22)) (fun _ hk => trivial)⟩, ⟨by (with_reducible repeat (first | apply Kd.R_alloc | apply Kd.R_drewN | apply Kd.R_drew)); exact Kd.R_mono (Kd.R_far (p := ⟨gb388, 1, none⟩) (Kd.R_far (p := ⟨gb388, 0, none⟩) (Kd.R_types HO368.out BK388.out (by decide)) (fun _ hk => hk.2) (.int .i64 t380)) (fun _ hk => hk.2) (.slice Ao22 t381.length co22)) (fun _ hk => ⟨hk.1.1.2, hk.1.2⟩)⟩, ⟨by (with_reducible repeat (first | apply Kd.R_alloc | apply Kd.R_drewN | apply Kd.R_drew)); exact Kd.R_mono (Kd.R_far (p := ⟨gb388, 1, none⟩) (Kd.R_far (p := ⟨gb388, 0, none⟩) (Kd.R_types HO374.out BK388.out (by decide)) (fun _ hk => hk.2) (.int .i64 t380)) (fun _ hk => hk.2) (.slice Ao22 t381.length co22)) (fun _ hk => ⟨hk.1.1.2, hk.1.2⟩)⟩, ⟨by (with_reducible repeat (first | apply Kd.R_alloc | apply Kd.R_drewN | apply Kd.R_drew)); exact Kd.R_mono (Kd.R_far (p := ⟨gb388, 1, none⟩) (Kd.R_far (p := ⟨gb388, 0, none⟩) (Kd.R_types HO383.out BK388.out (by decide)) (fun _ hk => hk.2) (.int .i64 t380)) (fun _ hk => hk.2) (.slice Ao22 t381.length co22)) (fun _ hk => ⟨hk.1.1.2, hk.1.2⟩)⟩, ⟨by refine bU ?_; refine blk_far ?_ NB370_388.out _; refine bU ?_; refine blk_far ?_ NB370_388.out _; refine bU ?_; exact BK370.out⟩, ⟨by refine bU ?_; refine blk_far ?_ NB379_388.out _; refine bU ?_; refine blk_far ?_ NB379_388.out _; refine bU ?_; exact BK379.out⟩, ⟨by refine bU ?_; refine blk_put (cs := #[.int .i64 t380, .slice none 0 0]) ?_ 1 _ rfl; refine bU ?_; refine blk_put (cs := #[.int .i64 0, .slice none 0 0]) ?_ 0 _ rfl; refine bU ?_; exact BK388.out⟩, ⟨by repeat (first | (with_reducible first | exact HB.out | apply below_alloc | apply pw_below_drewN | apply below_drew1 | refine below_set ?_ GE370.out | refine below_set ?_ GE379.out | refine below_set ?_ GE388.out) | exact HB.out)⟩⟩
   ·rw [if_neg c23] at H
    have c23b0 : (t378 != t387) = false := by simpa using c23
    (try (have c23b1 : decide (t378 = t387) = true := by simpa using c23))
    (try (have c23b2 : (t378 == t387) = true := by simpa using c23))
    clear c23
    (first | rw [c23b0] | (simp only [i64_w, i32_w]; rw [c23b0]) | (rw [c23b2]; simp only [Bool.not_false, Bool.not_true]) | skip)
    replace H := Option.bind_eq_some_iff.mp H
    obtain ⟨t389, A240, H⟩ := H
    replace H : (laws_FnPieces.j0 k t369 t375 t378 (!t389) t365 t366 t371 t372) = some r := H
    have A24 := Aside0.mk A240
    clear A240
    have H' := Aside0.mk H
    clear H
    obtain ⟨Ao25, co25, eo25⟩ := Kd.R_slice HO377.out
    subst eo25
    obtain ⟨Ao26, co26, eo26⟩ := Kd.R_slice HO386.out
    subst eo26
    go_wp2_with (first | (go_at_call 7; (with_reducible refine (laws_sameFired.calls k _ _ t375 _ _ t384 t389 _ ?side1 ?side2 ?side3 ?side4 A24.out).mono ?_); (case side1 => refine (Kd.R_reads' (e := 50) (base := w.heap.size) (ok := fun k_ => (True ∧ some k_ ≠ (.slice Ao26 t384.length co26 : Value).ownBlock)) (n := t375.length) (c := co25) ?_).2.2; exact (rU (Kd.R_mono (Kd.R_far (p := ⟨gb388, 1, none⟩) (Kd.R_far (p := ⟨gb388, 0, none⟩) (Kd.R_types HO377.out BK388.out (by decide)) (fun _ hk => hk.2) (.int .i64 t380)) (fun _ hk => hk.2) (.slice Ao22 t381.length co22)) (fun _ h_ => h_.1)))); (case side2 => exact (Kd.R_reads' HO377.out).2.1); (case side3 => refine (Kd.R_reads' (e := 50) (base := w.heap.size) (ok := fun k_ => (True ∧ some k_ ≠ (.slice Ao25 t375.length co25 : Value).ownBlock)) (n := t384.length) (c := co26) ?_).2.2; exact (rU (Kd.R_mono (Kd.R_far (p := ⟨gb388, 1, none⟩) (Kd.R_far (p := ⟨gb388, 0, none⟩) (Kd.R_types HO386.out BK388.out (by decide)) (fun _ hk => hk.2) (.int .i64 t380)) (fun _ hk => hk.2) (.slice Ao22 t381.length co22)) (fun _ h_ => h_.1)))); (case side4 => exact (Kd.R_reads' HO386.out).2.1); rintro e w' ⟨rfl, ⟨nd, rfl⟩⟩))
    go_meet
    case rel => exact ⟨_, (!t389), tE, H', ⟨by first | omega | exact Nat.le_refl _⟩, ⟨by (with_reducible repeat (first | apply Kd.R_alloc | apply Kd.R_drewN | apply Kd.R_drew)); exact Kd.R_mono (Kd.R_far (p := ⟨gb388, 1, none⟩) (Kd.R_far (p := ⟨gb388, 0, none⟩) (Kd.R_types HO377.out BK388.out (by decide)) (fun _ hk => hk.2) (.int .i64 t380)) (fun _ hk => hk.2) (.slice Ao22 t381.length co22)) (fun _ hk => trivial)⟩, ⟨by (with_reducible repeat (first | apply Kd.R_alloc | apply Kd.R_drewN | apply Kd.R_drew)); exact Kd.R_mono (Kd.R_far (p := ⟨gb388, 1, none⟩) (Kd.R_far (p := ⟨gb388, 0, none⟩) (Kd.R_types HO368.out BK388.out (by decide)) (fun _ hk => hk.2) (.int .i64 t380)) (fun _ hk => hk.2) (.slice Ao22 t381.length co22)) (fun _ hk => ⟨hk.1.1.2, hk.1.2⟩)⟩, ⟨by (with_reducible repeat (first | apply Kd.R_alloc | apply Kd.R_drewN | apply Kd.R_drew)); exact Kd.R_mono (Kd.R_far (p := ⟨gb388, 1, none⟩) (Kd.R_far (p := ⟨gb388, 0, none⟩) (Kd.R_types HO374.out BK388.out (by decide)) (fun _ hk => hk.2) (.int .i64 t380)) (fun _ hk => hk.2) (.slice Ao22 t381.length co22)) (fun _ hk => ⟨hk.1.1.2, hk.1.2⟩)⟩, ⟨by (with_reducible repeat (first | apply Kd.R_alloc | apply Kd.R_drewN | apply Kd.R_drew)); exact Kd.R_mono (Kd.R_far (p := ⟨gb388, 1, none⟩) (Kd.R_far (p := ⟨gb388, 0, none⟩) (Kd.R_types HO383.out BK388.out (by decide)) (fun _ hk => hk.2) (.int .i64 t380)) (fun _ hk => hk.2) (.slice Ao22 t381.length co22)) (fun _ hk => ⟨hk.1.1.2, hk.1.2⟩)⟩, ⟨by refine bU ?_; refine blk_far ?_ NB370_388.out _; refine bU ?_; refine blk_far ?_ NB370_388.out _; refine bU ?_; exact BK370.out⟩, ⟨by refine bU ?_; refine blk_far ?_ NB379_388.out _; refine bU ?_; refine blk_far ?_ NB379_388.out _; refine bU ?_; exact BK379.out⟩, ⟨by refine bU ?_; refine blk_put (cs := #[.int .i64 t380, .slice none 0 0]) ?_ 1 _ rfl; refine bU ?_; refine blk_put (cs := #[.int .i64 0, .slice none 0 0]) ?_ 0 _ rfl; refine bU ?_; exact BK388.out⟩, ⟨by repeat (first | (with_reducible first | exact HB.out | apply below_alloc | apply pw_below_drewN | apply below_drew1 | refine below_set ?_ GE370.out | refine below_set ?_ GE379.out | refine below_set ?_ GE388.out) | exact HB.out)⟩⟩
  case rest =>
   clear HC6
   try clear c1
   try clear c2
   try clear c2b0
   try clear c2b1
   try clear p2
   try clear c3
   try clear c4
   try clear c5
   try clear c6
   try clear c13
   try clear c19
   try clear c20
   try clear c23
   try clear c23b0
   try clear c23b1
   try clear c23b2
   try clear hcz14_0
   try clear hcz14_1
   try clear hcz16_0
   try clear hcz16_1
   try clear hcz21_0
   try clear hcz21_1
   try clear hcz9_0
   try clear hcz9_1
   try clear hfz14_0
   try clear hfz14_1
   try clear hfz16_0
   try clear hfz16_1
   try clear hfz21_0
   try clear hfz21_1
   try clear hfz9_0
   try clear hfz9_1
   obtain ⟨kq, x47_5, rfl, HA, HJ5, HO_6, HO_371001, HO_380001, HO_389001, BK370, BK379, BK388, HB⟩ := hcut
   cases kq with
   | zero => exact absurd HA.out (by simp [laws_FnPieces.j0])
   | succ kj5 =>
    have H := HA.out
    clear HA
    simp only [laws_FnPieces.j0] at H
    by_cases c27 : x47_5 = true
    ·subst c27
     have H1 : (some false) = some r := by rw [if_pos rfl] at H; exact H
     clear H
     have H := H1
     clear H1
     obtain rfl := Option.some.inj H
     go_wp2
     go_ret
     exact ⟨eE, lV3 GE370 GE379 GE388⟩
    ·replace c27 := Bool.eq_false_iff.mpr c27
     subst c27
     have H1 : (if t378 = true then ((impl_RunClock.f kj5 t365 t366 (wrap64 (t365 + (wrap64 (Int.tdiv (wrap64 (t369 - t365)) 2))))).bind fun bt390 => ((impl_RunClock.f kj5 bt390.1 bt390.2.1 t369).bind fun bt399 => (if bt390.2.2.2 = true then (if bt399.2.2.2 = true then (if bt390.2.2.1.length + bt399.2.2.1.length < 8796093022208 then ((laws_sameFired.f kj5 (bt390.2.2.1 ++ bt399.2.2.1) t375).bind fun t411 => (if t411 = true then (if bt399.1 = t371 then ((laws_sameTimers.f kj5 t372 bt399.2.1).bind fun t412 => (some t412)) else (some false)) else (some false))) else (none)) else (some false)) else (some false)))) else (some true)) = some r := by rw [if_neg (show ¬ (false = true) by decide)] at H; exact H
     clear H
     have H := H1
     clear H1
     by_cases c28 : t378 = true
     ·subst c28
      have H1 : ((impl_RunClock.f kj5 t365 t366 (wrap64 (t365 + (wrap64 (Int.tdiv (wrap64 (t369 - t365)) 2))))).bind fun bt390 => ((impl_RunClock.f kj5 bt390.1 bt390.2.1 t369).bind fun bt399 => (if bt390.2.2.2 = true then (if bt399.2.2.2 = true then (if bt390.2.2.1.length + bt399.2.2.1.length < 8796093022208 then ((laws_sameFired.f kj5 (bt390.2.2.1 ++ bt399.2.2.1) t375).bind fun t411 => (if t411 = true then (if bt399.1 = t371 then ((laws_sameTimers.f kj5 t372 bt399.2.1).bind fun t412 => (some t412)) else (some false)) else (some false))) else (none)) else (some false)) else (some false)))) = some r := by rw [if_pos rfl] at H; exact H
      clear H
      have H := H1
      clear H1
      replace H := Option.bind_eq_some_iff.mp H
      obtain ⟨⟨t390, t391, t394, t397⟩, A290, H⟩ := H
      replace H : ((impl_RunClock.f kj5 t390 t391 t369).bind fun bt399 => (if t397 = true then (if bt399.2.2.2 = true then (if t394.length + bt399.2.2.1.length < 8796093022208 then ((laws_sameFired.f kj5 (t394 ++ bt399.2.2.1) t375).bind fun t411 => (if t411 = true then (if bt399.1 = t371 then ((laws_sameTimers.f kj5 t372 bt399.2.1).bind fun t412 => (some t412)) else (some false)) else (some false))) else (none)) else (some false)) else (some false))) = some r := H
      have A29 := Aside0.mk A290
      clear A290
      replace H := Option.bind_eq_some_iff.mp H
      obtain ⟨⟨t399, t400, t403, t406⟩, A300, H⟩ := H
      replace H : (if t397 = true then (if t406 = true then (if t394.length + t403.length < 8796093022208 then ((laws_sameFired.f kj5 (t394 ++ t403) t375).bind fun t411 => (if t411 = true then (if t399 = t371 then ((laws_sameTimers.f kj5 t372 t400).bind fun t412 => (some t412)) else (some false)) else (some false))) else (none)) else (some false)) else (some false)) = some r := H
      have A30 := Aside0.mk A300
      clear A300
      by_cases c31 : t397 = true
      ·subst c31
       have H1 : (if t406 = true then (if t394.length + t403.length < 8796093022208 then ((laws_sameFired.f kj5 (t394 ++ t403) t375).bind fun t411 => (if t411 = true then (if t399 = t371 then ((laws_sameTimers.f kj5 t372 t400).bind fun t412 => (some t412)) else (some false)) else (some false))) else (none)) else (some false)) = some r := by rw [if_pos rfl] at H; exact H
       clear H
       have H := H1
       clear H1
       by_cases c32 : t406 = true
       ·subst c32
        have H1 : (if t394.length + t403.length < 8796093022208 then ((laws_sameFired.f kj5 (t394 ++ t403) t375).bind fun t411 => (if t411 = true then (if t399 = t371 then ((laws_sameTimers.f kj5 t372 t400).bind fun t412 => (some t412)) else (some false)) else (some false))) else (none)) = some r := by rw [if_pos rfl] at H; exact H
        clear H
        have H := H1
        clear H1
        by_cases c33 : t394.length + t403.length < 8796093022208
        ·rw [if_pos c33] at H
         have LMc33 := Aside0.mk c33
         clear c33
         obtain ⟨y408, hy408⟩ : ∃ y_ : List (S50), y_ = (t394 ++ t403) := ⟨_, rfl⟩
         replace H : ((laws_sameFired.f kj5 y408 t375).bind fun t411 => (if t411 = true then (if t399 = t371 then ((laws_sameTimers.f kj5 t372 t400).bind fun t412 => (some t412)) else (some false)) else (some false))) = some r := by first | (rw [hy408]; with_reducible exact H) | (have H2_ := (Option.bind_some _ _).symm.trans H; rw [hy408]; with_reducible exact H2_) | (have H2_ := (Option.bind_some _ _).symm.trans H; with_reducible exact H2_) | with_reducible exact H | (rw [hy408]; exact H) | exact H
         have Ny408 := Aside0.mk hy408
         clear hy408
         replace H := Option.bind_eq_some_iff.mp H
         obtain ⟨t411, A340, H⟩ := H
         replace H : (if t411 = true then (if t399 = t371 then ((laws_sameTimers.f kj5 t372 t400).bind fun t412 => (some t412)) else (some false)) else (some false)) = some r := H
         have A34 := Aside0.mk A340
         clear A340
         by_cases c35 : t411 = true
         ·subst c35
          have H1 : (if t399 = t371 then ((laws_sameTimers.f kj5 t372 t400).bind fun t412 => (some t412)) else (some false)) = some r := by rw [if_pos rfl] at H; exact H
          clear H
          have H := H1
          clear H1
          by_cases c36 : t399 = t371
          ·rw [if_pos c36] at H
           have c36b0 : (t399 == t371) = true := beq_iff_eq.mpr c36
           have c36b1 : (t399 != t371) = false := bne_eq_false_iff_eq.mpr c36
           clear c36
           replace H := Option.bind_eq_some_iff.mp H
           obtain ⟨t412, A370, H⟩ := H
           replace H : (some t412) = some r := H
           have A37 := Aside0.mk A370
           clear A370
           obtain rfl := Option.some.inj H
           have hnb38 := NB370_379.out
           have hnc38 := NB379_370.out
           have hnb39 := NB370_388.out
           have hnc39 := NB388_370.out
           have hcz40_0 := cz BK370 0 (.int .i64 t365)
           have hcz40_1 := cz BK370 1 (.slice Ao10 t366.length co10)
           have hfz40_0 := fz BK370 0
           have hfz40_1 := fz BK370 1
           go_wp2_with (first | ((with_reducible refine gate_callee (f := 5) rfl ?_); refine goesL_ (some 60) rfl rfl Try.func5 (by kernel_rfl) rfl #[.agg #[.int .i64 t365, .slice Ao10 t366.length co10], .int .i64 (wrap64 (t365 + (wrap64 (Int.tdiv (wrap64 (t369 - t365)) 2))))] rfl aE ?_; (with_reducible refine (impl_RunClock.calls kj5 t365 _ _ t366 (wrap64 (t365 + (wrap64 (Int.tdiv (wrap64 (t369 - t365)) 2)))) t390 t391 t394 true _ ?side1 ?side2 A29.out).mono ?_); (case side1 => exact cU (Kd.R_reads' HO_371001.out).2.2); (case side2 => exact (Kd.R_reads' HO_371001.out).2.1); rintro e w41 ⟨v392, v395, rfl, ho0, ho1, hb⟩; refine ⟨_, rfl, ?_⟩; have HO393 := Aside0.mk (Kd.R_lower (Kd.R_new' (Kd.R_new' (Kd.R_new' ho0 (Kd.R_lt (rU HO_371001.out))) (Kd.R_lt (rU HO_380001.out))) (Kd.R_lt (rU HO_389001.out))) (below_size (lV3 GE370 GE379 GE388))); replace HO_371001 := Aside0.mk (Kd.R_elder' (rU HO_371001.out) (Kd.R_base ho0) hb); replace HO_380001 := Aside0.mk (Kd.R_elder' (rU HO_380001.out) (Kd.R_base ho0) hb); replace HO_389001 := Aside0.mk (Kd.R_elder' (rU HO_389001.out) (Kd.R_base ho0) hb); have HO396 := Aside0.mk (Kd.R_lower (Kd.R_new' ho1 (Kd.R_lt (rU HO_6.out))) (below_size (lV3 GE370 GE379 GE388))); replace HO_6 := Aside0.mk (Kd.R_elder' (rU HO_6.out) (Kd.R_base ho1) hb); replace BK370 := bB (bV BK370) hb; replace BK379 := bB (bV BK379) hb; replace BK388 := bB (bV BK388) hb; replace HB := bH (lV3 GE370 GE379 GE388) hb; (try clear hb); (try clear ho0); (try clear ho1)) | ((with_reducible refine gate_dst (N := 11) rfl ?_); (try (refine gate_guard (by rfl) ?_; dsimp only)); refine box_event rfl (N := 11) rfl (cs := #[.int .i64 0, .slice none 0 0]) (t := 25) sE ?_; intro gb398 hg w42 hbox hb; replace HO_6 := Aside0.mk (Kd.R_below (rU HO_6.out) hb); replace HO_371001 := Aside0.mk (Kd.R_below (rU HO_371001.out) hb); replace HO_380001 := Aside0.mk (Kd.R_below (rU HO_380001.out) hb); replace HO_389001 := Aside0.mk (Kd.R_below (rU HO_389001.out) hb); replace HO393 := Aside0.mk (Kd.R_below (rU HO393.out) hb); replace HO396 := Aside0.mk (Kd.R_below (rU HO396.out) hb); have BK398 := Aside0.mk hbox; have GW398 := gS w hg (lV3 GE370 GE379 GE388); have GE398 := gS w hg (lV3 GE370 GE379 GE388); replace HB := bH (lV3 GE370 GE379 GE388) hb; have NB370_398 := nL hg (bV BK370); have NB398_370 := nG hg (bV BK370); replace BK370 := bB (bV BK370) hb; have NB379_398 := nL hg (bV BK379); have NB398_379 := nG hg (bV BK379); replace BK379 := bB (bV BK379) hb; have NB388_398 := nL hg (bV BK388); have NB398_388 := nG hg (bV BK388); replace BK388 := bB (bV BK388) hb; clear hb hbox hg; have hnb43 := NB398_370.out; have hnc43 := NB370_398.out; have hnb44 := NB398_379.out; have hnc44 := NB379_398.out; have hnb45 := NB398_388.out; have hnc45 := NB388_398.out; have hcz46_0 := cz BK398 0 (.int .i64 0); have hcz46_1 := cz BK398 1 (.slice none 0 0); have hfz46_0 := fz BK398 0; have hfz46_1 := fz BK398 1; obtain ⟨Ao47, co47, eo47⟩ := Kd.R_slice HO393.out; subst eo47) | ((with_reducible refine gate_callee (f := 5) rfl ?_); refine goesL_ (some 67) rfl rfl Try.func5 (by kernel_rfl) rfl #[.agg #[.int .i64 t390, .slice Ao47 t391.length co47], .int .i64 t369] rfl aE ?_; (with_reducible refine (impl_RunClock.calls kj5 t390 _ _ t391 t369 t399 t400 t403 true _ ?side1 ?side2 A30.out).mono ?_); (case side1 => refine (Kd.R_reads' (e := 47) (base := w.heap.size) (ok := fun k_ => (((True ∧ some k_ ≠ (.slice Ao10 t366.length co10 : Value).ownBlock) ∧ some k_ ≠ (.slice Ao15 t372.length co15 : Value).ownBlock) ∧ some k_ ≠ (.slice Ao22 t381.length co22 : Value).ownBlock)) (n := t391.length) (c := co47) ?_).2.2; exact (rU (Kd.R_mono (Kd.R_far (p := ⟨gb398, 1, none⟩) (Kd.R_far (p := ⟨gb398, 0, none⟩) (Kd.R_types HO393.out BK398.out (by decide)) (fun _ hk => hk.2) (.int .i64 t390)) (fun _ hk => hk.2) (.slice Ao47 t391.length co47)) (fun _ h_ => h_.1)))); (case side2 => exact (Kd.R_reads' HO393.out).2.1); rintro e w48 ⟨v401, v404, rfl, ho0, ho1, hb⟩; refine ⟨_, rfl, ?_⟩; have HO402 := Aside0.mk (Kd.R_lower (Kd.R_new' (Kd.R_new' (Kd.R_new' (Kd.R_new' ho0 (Kd.R_lt (rU (Kd.R_mono (Kd.R_far (p := ⟨gb398, 1, none⟩) (Kd.R_far (p := ⟨gb398, 0, none⟩) (Kd.R_types HO_371001.out BK398.out (by decide)) (fun _ hk => hk.2) (.int .i64 t390)) (fun _ hk => hk.2) (.slice Ao47 t391.length co47)) (fun _ h_ => h_.1))))) (Kd.R_lt (rU (Kd.R_mono (Kd.R_far (p := ⟨gb398, 1, none⟩) (Kd.R_far (p := ⟨gb398, 0, none⟩) (Kd.R_types HO_380001.out BK398.out (by decide)) (fun _ hk => hk.2) (.int .i64 t390)) (fun _ hk => hk.2) (.slice Ao47 t391.length co47)) (fun _ h_ => h_.1))))) (Kd.R_lt (rU (Kd.R_mono (Kd.R_far (p := ⟨gb398, 1, none⟩) (Kd.R_far (p := ⟨gb398, 0, none⟩) (Kd.R_types HO_389001.out BK398.out (by decide)) (fun _ hk => hk.2) (.int .i64 t390)) (fun _ hk => hk.2) (.slice Ao47 t391.length co47)) (fun _ h_ => h_.1))))) (Kd.R_lt (rU (Kd.R_mono (Kd.R_far (p := ⟨gb398, 1, none⟩) (Kd.R_far (p := ⟨gb398, 0, none⟩) (Kd.R_types HO393.out BK398.out (by decide)) (fun _ hk => hk.2) (.int .i64 t390)) (fun _ hk => hk.2) (.slice Ao47 t391.length co47)) (fun _ h_ => h_.1))))) (below_size (lV4 GE370 GE379 GE388 GE398))); replace HO_371001 := Aside0.mk (Kd.R_elder' (rU (Kd.R_mono (Kd.R_far (p := ⟨gb398, 1, none⟩) (Kd.R_far (p := ⟨gb398, 0, none⟩) (Kd.R_types HO_371001.out BK398.out (by decide)) (fun _ hk => hk.2) (.int .i64 t390)) (fun _ hk => hk.2) (.slice Ao47 t391.length co47)) (fun _ h_ => h_.1))) (Kd.R_base ho0) hb); replace HO_380001 := Aside0.mk (Kd.R_elder' (rU (Kd.R_mono (Kd.R_far (p := ⟨gb398, 1, none⟩) (Kd.R_far (p := ⟨gb398, 0, none⟩) (Kd.R_types HO_380001.out BK398.out (by decide)) (fun _ hk => hk.2) (.int .i64 t390)) (fun _ hk => hk.2) (.slice Ao47 t391.length co47)) (fun _ h_ => h_.1))) (Kd.R_base ho0) hb); replace HO_389001 := Aside0.mk (Kd.R_elder' (rU (Kd.R_mono (Kd.R_far (p := ⟨gb398, 1, none⟩) (Kd.R_far (p := ⟨gb398, 0, none⟩) (Kd.R_types HO_389001.out BK398.out (by decide)) (fun _ hk => hk.2) (.int .i64 t390)) (fun _ hk => hk.2) (.slice Ao47 t391.length co47)) (fun _ h_ => h_.1))) (Kd.R_base ho0) hb); replace HO393 := Aside0.mk (Kd.R_elder' (rU (Kd.R_mono (Kd.R_far (p := ⟨gb398, 1, none⟩) (Kd.R_far (p := ⟨gb398, 0, none⟩) (Kd.R_types HO393.out BK398.out (by decide)) (fun _ hk => hk.2) (.int .i64 t390)) (fun _ hk => hk.2) (.slice Ao47 t391.length co47)) (fun _ h_ => h_.1))) (Kd.R_base ho0) hb); have HO405 := Aside0.mk (Kd.R_lower (Kd.R_new' (Kd.R_new' ho1 (Kd.R_lt (rU (Kd.R_mono (Kd.R_far (p := ⟨gb398, 1, none⟩) (Kd.R_far (p := ⟨gb398, 0, none⟩) (Kd.R_types HO_6.out BK398.out (by decide)) (fun _ hk => hk.2) (.int .i64 t390)) (fun _ hk => hk.2) (.slice Ao47 t391.length co47)) (fun _ h_ => h_.1))))) (Kd.R_lt (rU (Kd.R_mono (Kd.R_far (p := ⟨gb398, 1, none⟩) (Kd.R_far (p := ⟨gb398, 0, none⟩) (Kd.R_types HO396.out BK398.out (by decide)) (fun _ hk => hk.2) (.int .i64 t390)) (fun _ hk => hk.2) (.slice Ao47 t391.length co47)) (fun _ h_ => h_.1))))) (below_size (lV4 GE370 GE379 GE388 GE398))); replace HO_6 := Aside0.mk (Kd.R_elder' (rU (Kd.R_mono (Kd.R_far (p := ⟨gb398, 1, none⟩) (Kd.R_far (p := ⟨gb398, 0, none⟩) (Kd.R_types HO_6.out BK398.out (by decide)) (fun _ hk => hk.2) (.int .i64 t390)) (fun _ hk => hk.2) (.slice Ao47 t391.length co47)) (fun _ h_ => h_.1))) (Kd.R_base ho1) hb); replace HO396 := Aside0.mk (Kd.R_elder' (rU (Kd.R_mono (Kd.R_far (p := ⟨gb398, 1, none⟩) (Kd.R_far (p := ⟨gb398, 0, none⟩) (Kd.R_types HO396.out BK398.out (by decide)) (fun _ hk => hk.2) (.int .i64 t390)) (fun _ hk => hk.2) (.slice Ao47 t391.length co47)) (fun _ h_ => h_.1))) (Kd.R_base ho1) hb); replace BK370 := bB (bG NB370_398 BK370) hb; replace BK379 := bB (bG NB379_398 BK379) hb; replace BK388 := bB (bG NB388_398 BK388) hb; replace BK398 := Aside0.mk (blk_below (g := gb398) (o := .cells #[.int .i64 t390, .slice Ao47 t391.length co47] 25 (0, 0)) (by refine bU ?_; refine blk_put (cs := #[.int .i64 t390, .slice none 0 0]) ?_ 1 _ rfl; refine bU ?_; refine blk_put (cs := #[.int .i64 0, .slice none 0 0]) ?_ 0 _ rfl; refine bU ?_; exact BK398.out) hb); replace HB := bH (lV4 GE370 GE379 GE388 GE398) hb; (try clear hb); (try clear ho0); (try clear ho1)) | ((with_reducible refine gate_dst (N := 14) rfl ?_); (try (refine gate_guard (by rfl) ?_; dsimp only)); refine box_event rfl (N := 14) rfl (cs := #[.int .i64 0, .slice none 0 0]) (t := 25) sE ?_; intro gb407 hg w49 hbox hb; replace HO_6 := Aside0.mk (Kd.R_below (rU HO_6.out) hb); replace HO_371001 := Aside0.mk (Kd.R_below (rU HO_371001.out) hb); replace HO_380001 := Aside0.mk (Kd.R_below (rU HO_380001.out) hb); replace HO_389001 := Aside0.mk (Kd.R_below (rU HO_389001.out) hb); replace HO393 := Aside0.mk (Kd.R_below (rU HO393.out) hb); replace HO396 := Aside0.mk (Kd.R_below (rU HO396.out) hb); replace HO402 := Aside0.mk (Kd.R_below (rU HO402.out) hb); replace HO405 := Aside0.mk (Kd.R_below (rU HO405.out) hb); have BK407 := Aside0.mk hbox; have GW407 := gS w hg (lV4 GE370 GE379 GE388 GE398); have GE407 := gS w hg (lV4 GE370 GE379 GE388 GE398); replace HB := bH (lV4 GE370 GE379 GE388 GE398) hb; have NB370_407 := nL hg (bV BK370); have NB407_370 := nG hg (bV BK370); replace BK370 := bB (bV BK370) hb; have NB379_407 := nL hg (bV BK379); have NB407_379 := nG hg (bV BK379); replace BK379 := bB (bV BK379) hb; have NB388_407 := nL hg (bV BK388); have NB407_388 := nG hg (bV BK388); replace BK388 := bB (bV BK388) hb; have NB398_407 := nL hg (bV BK398); have NB407_398 := nG hg (bV BK398); replace BK398 := bB (bV BK398) hb; clear hb hbox hg; have hnb50 := NB407_370.out; have hnc50 := NB370_407.out; have hnb51 := NB407_379.out; have hnc51 := NB379_407.out; have hnb52 := NB407_388.out; have hnc52 := NB388_407.out; have hnb53 := NB407_398.out; have hnc53 := NB398_407.out; have hcz54_0 := cz BK407 0 (.int .i64 0); have hcz54_1 := cz BK407 1 (.slice none 0 0); have hfz54_0 := fz BK407 0; have hfz54_1 := fz BK407 1; obtain ⟨Ao55, co55, eo55⟩ := Kd.R_slice HO402.out; subst eo55; obtain ⟨Ao57, co57, eo57⟩ := Kd.R_slice HO405.out; subst eo57) | ((with_reducible refine gate_builtin (b := .append) (xs := #[.tmp 76, .tmp 77]) rfl ?_); (try (refine gate_guard (by rfl) ?_; dsimp only)); at_builtin; refine Kd.R_append_rows k50 (w0 := w) w.heap.size rfl (.tmp 76) (.tmp 77) 28 50 (.agg #[(.int .i64 0), (.int .i64 0)]) 16 rfl Try.underlying28 info50 rfl (by decide) (by omega) v395 t394 t403 _ _ _ (fun k_ => some k_ ≠ (v376 : Value).ownBlock ∧ some k_ ≠ (.slice Ao57 t403.length co57 : Value).ownBlock) (fun _ => False) rfl rfl ?aO ?aR (fun _ _ h => h) (fun _ h => h.elim) ?aF ?aB ?aS ?aL ?_; (case aR => refine (Kd.R_reads' (e := 50) (base := w.heap.size) (ok := fun k_ => ((True ∧ some k_ ≠ (v376 : Value).ownBlock) ∧ some k_ ≠ (v395 : Value).ownBlock)) (n := t403.length) (c := co57) ?_).2.2; exact (rU (Kd.R_mono (Kd.R_far (p := ⟨gb407, 1, none⟩) (Kd.R_far (p := ⟨gb407, 0, none⟩) (Kd.R_types HO405.out BK407.out (by decide)) (fun _ hk => hk.2) (.int .i64 t399)) (fun _ hk => hk.2) (.slice Ao55 t400.length co55)) (fun _ h_ => h_.1)))); (case aB => exact (lV5 GE370 GE379 GE388 GE398 GE407)); (case aF => exact (fun k_ hk => ⟨Kd.fresh' (Kd.R_lt (rU (Kd.R_mono (Kd.R_far (p := ⟨gb407, 1, none⟩) (Kd.R_far (p := ⟨gb407, 0, none⟩) (Kd.R_types HO_6.out BK407.out (by decide)) (fun _ hk => hk.2) (.int .i64 t399)) (fun _ hk => hk.2) (.slice Ao55 t400.length co55)) (fun _ h_ => h_.1)))) k_ hk, Kd.fresh' (Kd.R_lt (rU (Kd.R_mono (Kd.R_far (p := ⟨gb407, 1, none⟩) (Kd.R_far (p := ⟨gb407, 0, none⟩) (Kd.R_types HO405.out BK407.out (by decide)) (fun _ hk => hk.2) (.int .i64 t399)) (fun _ hk => hk.2) (.slice Ao55 t400.length co55)) (fun _ h_ => h_.1)))) k_ hk⟩)); (case aO => exact (by (with_reducible repeat (first | apply Kd.R_alloc | apply Kd.R_drewN | apply Kd.R_drew)); exact Kd.R_mono (Kd.R_far (p := ⟨gb407, 1, none⟩) (Kd.R_far (p := ⟨gb407, 0, none⟩) (Kd.R_types HO396.out BK407.out (by decide)) (fun _ hk => hk.2) (.int .i64 t399)) (fun _ hk => hk.2) (.slice Ao55 t400.length co55)) (fun _ hk => ⟨hk.1.1.2, hk.1.2⟩))); (case aS => exact (below_size (lV5 GE370 GE379 GE388 GE398 GE407))); (case aL => have := LMc33.out; omega); intro v409 w56 ho hb hg hat; rw [← Ny408.out] at ho; replace HO_6 := Aside0.mk (Kd.R_after (ok := (fun k_ => some k_ ≠ (.slice Ao57 t403.length co57 : Value).ownBlock)) (by (with_reducible repeat (first | apply Kd.R_alloc | apply Kd.R_drewN | apply Kd.R_drew)); exact Kd.R_mono (Kd.R_far (p := ⟨gb407, 1, none⟩) (Kd.R_far (p := ⟨gb407, 0, none⟩) (Kd.R_types HO_6.out BK407.out (by decide)) (fun _ hk => hk.2) (.int .i64 t399)) (fun _ hk => hk.2) (.slice Ao55 t400.length co55)) (fun _ hk => ⟨hk.1.2, hk.1.1.2⟩)) hg hat); replace HO_371001 := Aside0.mk (Kd.R_over' (rU (Kd.R_mono (Kd.R_far (p := ⟨gb407, 1, none⟩) (Kd.R_far (p := ⟨gb407, 0, none⟩) (Kd.R_types HO_371001.out BK407.out (by decide)) (fun _ hk => hk.2) (.int .i64 t399)) (fun _ hk => hk.2) (.slice Ao55 t400.length co55)) (fun _ h_ => h_.1))) (Kd.R_typed (rU (Kd.R_mono (Kd.R_far (p := ⟨gb407, 1, none⟩) (Kd.R_far (p := ⟨gb407, 0, none⟩) (Kd.R_types HO396.out BK407.out (by decide)) (fun _ hk => hk.2) (.int .i64 t399)) (fun _ hk => hk.2) (.slice Ao55 t400.length co55)) (fun _ h_ => h_.1)))) (by decide) hg); replace HO_380001 := Aside0.mk (Kd.R_over' (rU (Kd.R_mono (Kd.R_far (p := ⟨gb407, 1, none⟩) (Kd.R_far (p := ⟨gb407, 0, none⟩) (Kd.R_types HO_380001.out BK407.out (by decide)) (fun _ hk => hk.2) (.int .i64 t399)) (fun _ hk => hk.2) (.slice Ao55 t400.length co55)) (fun _ h_ => h_.1))) (Kd.R_typed (rU (Kd.R_mono (Kd.R_far (p := ⟨gb407, 1, none⟩) (Kd.R_far (p := ⟨gb407, 0, none⟩) (Kd.R_types HO396.out BK407.out (by decide)) (fun _ hk => hk.2) (.int .i64 t399)) (fun _ hk => hk.2) (.slice Ao55 t400.length co55)) (fun _ h_ => h_.1)))) (by decide) hg); replace HO_389001 := Aside0.mk (Kd.R_over' (rU (Kd.R_mono (Kd.R_far (p := ⟨gb407, 1, none⟩) (Kd.R_far (p := ⟨gb407, 0, none⟩) (Kd.R_types HO_389001.out BK407.out (by decide)) (fun _ hk => hk.2) (.int .i64 t399)) (fun _ hk => hk.2) (.slice Ao55 t400.length co55)) (fun _ h_ => h_.1))) (Kd.R_typed (rU (Kd.R_mono (Kd.R_far (p := ⟨gb407, 1, none⟩) (Kd.R_far (p := ⟨gb407, 0, none⟩) (Kd.R_types HO396.out BK407.out (by decide)) (fun _ hk => hk.2) (.int .i64 t399)) (fun _ hk => hk.2) (.slice Ao55 t400.length co55)) (fun _ h_ => h_.1)))) (by decide) hg); replace BK370 := Aside0.mk (blk_grown (g := gb370) (o := .cells #[.int .i64 t365, .slice Ao10 t366.length co10] 25 (0, 0)) (bG NB370_407 BK370) hg (Kd.R_ne HO396.out BK370.out (by decide))); replace BK379 := Aside0.mk (blk_grown (g := gb379) (o := .cells #[.int .i64 t371, .slice Ao15 t372.length co15] 25 (0, 0)) (bG NB379_407 BK379) hg (Kd.R_ne HO396.out BK379.out (by decide))); replace BK388 := Aside0.mk (blk_grown (g := gb388) (o := .cells #[.int .i64 t380, .slice Ao22 t381.length co22] 25 (0, 0)) (bG NB388_407 BK388) hg (Kd.R_ne HO396.out BK388.out (by decide))); replace HO393 := Aside0.mk (Kd.R_over' (rU (Kd.R_mono (Kd.R_far (p := ⟨gb407, 1, none⟩) (Kd.R_far (p := ⟨gb407, 0, none⟩) (Kd.R_types HO393.out BK407.out (by decide)) (fun _ hk => hk.2) (.int .i64 t399)) (fun _ hk => hk.2) (.slice Ao55 t400.length co55)) (fun _ h_ => h_.1))) (Kd.R_typed (rU (Kd.R_mono (Kd.R_far (p := ⟨gb407, 1, none⟩) (Kd.R_far (p := ⟨gb407, 0, none⟩) (Kd.R_types HO396.out BK407.out (by decide)) (fun _ hk => hk.2) (.int .i64 t399)) (fun _ hk => hk.2) (.slice Ao55 t400.length co55)) (fun _ h_ => h_.1)))) (by decide) hg); replace BK398 := Aside0.mk (blk_grown (g := gb398) (o := .cells #[.int .i64 t390, .slice Ao47 t391.length co47] 25 (0, 0)) (bG NB398_407 BK398) hg (Kd.R_ne HO396.out BK398.out (by decide))); replace HO402 := Aside0.mk (Kd.R_over' (rU (Kd.R_mono (Kd.R_far (p := ⟨gb407, 1, none⟩) (Kd.R_far (p := ⟨gb407, 0, none⟩) (Kd.R_types HO402.out BK407.out (by decide)) (fun _ hk => hk.2) (.int .i64 t399)) (fun _ hk => hk.2) (.slice Ao55 t400.length co55)) (fun _ h_ => h_.1))) (Kd.R_typed (rU (Kd.R_mono (Kd.R_far (p := ⟨gb407, 1, none⟩) (Kd.R_far (p := ⟨gb407, 0, none⟩) (Kd.R_types HO396.out BK407.out (by decide)) (fun _ hk => hk.2) (.int .i64 t399)) (fun _ hk => hk.2) (.slice Ao55 t400.length co55)) (fun _ h_ => h_.1)))) (by decide) hg); replace HO405 := Aside0.mk (Kd.R_after (ok := (fun k_ => some k_ ≠ (v376 : Value).ownBlock)) (by (with_reducible repeat (first | apply Kd.R_alloc | apply Kd.R_drewN | apply Kd.R_drew)); exact Kd.R_mono (Kd.R_far (p := ⟨gb407, 1, none⟩) (Kd.R_far (p := ⟨gb407, 0, none⟩) (Kd.R_types HO405.out BK407.out (by decide)) (fun _ hk => hk.2) (.int .i64 t399)) (fun _ hk => hk.2) (.slice Ao55 t400.length co55)) (fun _ hk => ⟨hk.1.1.2, hk.1.2⟩)) hg hat); replace BK407 := Aside0.mk (blk_grown (g := gb407) (o := .cells #[.int .i64 t399, .slice Ao55 t400.length co55] 25 (0, 0)) (by refine bU ?_; refine blk_put (cs := #[.int .i64 t399, .slice none 0 0]) ?_ 1 _ rfl; refine bU ?_; refine blk_put (cs := #[.int .i64 0, .slice none 0 0]) ?_ 0 _ rfl; refine bU ?_; exact BK407.out) hg (Kd.R_ne HO396.out BK407.out (by decide))); replace HB := Aside0.mk hb; have HO410 := Aside0.mk ho; clear HO396; clear ho hb hg hat; obtain ⟨Ao58, co58, eo58⟩ := Kd.R_slice HO410.out; subst eo58; obtain ⟨Ao59, co59, eo59⟩ := Kd.R_slice HO_6.out; subst eo59) | (go_at_call 7; (with_reducible refine (laws_sameFired.calls kj5 _ _ y408 _ _ t375 true _ ?side1 ?side2 ?side3 ?side4 A34.out).mono ?_); (case side1 => exact cU (Kd.R_reads' HO410.out).2.2); (case side2 => exact (Kd.R_reads' HO410.out).2.1); (case side3 => exact cU (Kd.R_reads' HO_6.out).2.2); (case side4 => exact (Kd.R_reads' HO_6.out).2.1); rintro e w' ⟨rfl, ⟨nd, rfl⟩⟩; have hcz60_0 := cz BK407 0 (.int .i64 t399); have hcz60_1 := cz BK407 1 (.slice Ao55 t400.length co55); have hfz60_0 := fz BK407 0; have hfz60_1 := fz BK407 1; have hnb61 := NB379_388.out; have hnc61 := NB388_379.out; have hcz62_0 := cz BK379 0 (.int .i64 t371); have hcz62_1 := cz BK379 1 (.slice Ao15 t372.length co15); have hfz62_0 := fz BK379 0; have hfz62_1 := fz BK379 1) | (go_at_call 8; (with_reducible refine (laws_sameTimers.calls kj5 _ _ t372 _ _ t400 t412 _ ?side1 ?side2 ?side3 ?side4 A37.out).mono ?_); (case side1 => exact cU (Kd.R_reads' HO_380001.out).2.2); (case side2 => exact (Kd.R_reads' HO_380001.out).2.1); (case side3 => exact cU (Kd.R_reads' HO402.out).2.2); (case side4 => exact (Kd.R_reads' HO402.out).2.1); rintro e w' ⟨rfl, ⟨nd, rfl⟩⟩))
           go_ret
           exact ⟨eE, lV5 GE370 GE379 GE388 GE398 GE407⟩
          ·rw [if_neg c36] at H
           have c36b0 : (t399 == t371) = false := beq_eq_false_iff_ne.mpr c36
           have c36b1 : (t399 != t371) = true := bne_iff_ne.mpr c36
           obtain rfl := Option.some.inj H
           have hnb63 := NB370_379.out
           have hnc63 := NB379_370.out
           have hnb64 := NB370_388.out
           have hnc64 := NB388_370.out
           have hcz65_0 := cz BK370 0 (.int .i64 t365)
           have hcz65_1 := cz BK370 1 (.slice Ao10 t366.length co10)
           have hfz65_0 := fz BK370 0
           have hfz65_1 := fz BK370 1
           go_wp2_with (first | ((with_reducible refine gate_callee (f := 5) rfl ?_); refine goesL_ (some 60) rfl rfl Try.func5 (by kernel_rfl) rfl #[.agg #[.int .i64 t365, .slice Ao10 t366.length co10], .int .i64 (wrap64 (t365 + (wrap64 (Int.tdiv (wrap64 (t369 - t365)) 2))))] rfl aE ?_; (with_reducible refine (impl_RunClock.calls kj5 t365 _ _ t366 (wrap64 (t365 + (wrap64 (Int.tdiv (wrap64 (t369 - t365)) 2)))) t390 t391 t394 true _ ?side1 ?side2 A29.out).mono ?_); (case side1 => exact cU (Kd.R_reads' HO_371001.out).2.2); (case side2 => exact (Kd.R_reads' HO_371001.out).2.1); rintro e w66 ⟨v392, v395, rfl, ho0, ho1, hb⟩; refine ⟨_, rfl, ?_⟩; have HO393 := Aside0.mk (Kd.R_lower (Kd.R_new' (Kd.R_new' (Kd.R_new' ho0 (Kd.R_lt (rU HO_371001.out))) (Kd.R_lt (rU HO_380001.out))) (Kd.R_lt (rU HO_389001.out))) (below_size (lV3 GE370 GE379 GE388))); replace HO_371001 := Aside0.mk (Kd.R_elder' (rU HO_371001.out) (Kd.R_base ho0) hb); replace HO_380001 := Aside0.mk (Kd.R_elder' (rU HO_380001.out) (Kd.R_base ho0) hb); replace HO_389001 := Aside0.mk (Kd.R_elder' (rU HO_389001.out) (Kd.R_base ho0) hb); have HO396 := Aside0.mk (Kd.R_lower (Kd.R_new' ho1 (Kd.R_lt (rU HO_6.out))) (below_size (lV3 GE370 GE379 GE388))); replace HO_6 := Aside0.mk (Kd.R_elder' (rU HO_6.out) (Kd.R_base ho1) hb); replace BK370 := bB (bV BK370) hb; replace BK379 := bB (bV BK379) hb; replace BK388 := bB (bV BK388) hb; replace HB := bH (lV3 GE370 GE379 GE388) hb; (try clear hb); (try clear ho0); (try clear ho1)) | ((with_reducible refine gate_dst (N := 11) rfl ?_); (try (refine gate_guard (by rfl) ?_; dsimp only)); refine box_event rfl (N := 11) rfl (cs := #[.int .i64 0, .slice none 0 0]) (t := 25) sE ?_; intro gb398 hg w67 hbox hb; replace HO_6 := Aside0.mk (Kd.R_below (rU HO_6.out) hb); replace HO_371001 := Aside0.mk (Kd.R_below (rU HO_371001.out) hb); replace HO_380001 := Aside0.mk (Kd.R_below (rU HO_380001.out) hb); replace HO_389001 := Aside0.mk (Kd.R_below (rU HO_389001.out) hb); replace HO393 := Aside0.mk (Kd.R_below (rU HO393.out) hb); replace HO396 := Aside0.mk (Kd.R_below (rU HO396.out) hb); have BK398 := Aside0.mk hbox; have GW398 := gS w hg (lV3 GE370 GE379 GE388); have GE398 := gS w hg (lV3 GE370 GE379 GE388); replace HB := bH (lV3 GE370 GE379 GE388) hb; have NB370_398 := nL hg (bV BK370); have NB398_370 := nG hg (bV BK370); replace BK370 := bB (bV BK370) hb; have NB379_398 := nL hg (bV BK379); have NB398_379 := nG hg (bV BK379); replace BK379 := bB (bV BK379) hb; have NB388_398 := nL hg (bV BK388); have NB398_388 := nG hg (bV BK388); replace BK388 := bB (bV BK388) hb; clear hb hbox hg; have hnb68 := NB398_370.out; have hnc68 := NB370_398.out; have hnb69 := NB398_379.out; have hnc69 := NB379_398.out; have hnb70 := NB398_388.out; have hnc70 := NB388_398.out; have hcz71_0 := cz BK398 0 (.int .i64 0); have hcz71_1 := cz BK398 1 (.slice none 0 0); have hfz71_0 := fz BK398 0; have hfz71_1 := fz BK398 1; obtain ⟨Ao72, co72, eo72⟩ := Kd.R_slice HO393.out; subst eo72) | ((with_reducible refine gate_callee (f := 5) rfl ?_); refine goesL_ (some 67) rfl rfl Try.func5 (by kernel_rfl) rfl #[.agg #[.int .i64 t390, .slice Ao72 t391.length co72], .int .i64 t369] rfl aE ?_; (with_reducible refine (impl_RunClock.calls kj5 t390 _ _ t391 t369 t399 t400 t403 true _ ?side1 ?side2 A30.out).mono ?_); (case side1 => refine (Kd.R_reads' (e := 47) (base := w.heap.size) (ok := fun k_ => (((True ∧ some k_ ≠ (.slice Ao10 t366.length co10 : Value).ownBlock) ∧ some k_ ≠ (.slice Ao15 t372.length co15 : Value).ownBlock) ∧ some k_ ≠ (.slice Ao22 t381.length co22 : Value).ownBlock)) (n := t391.length) (c := co72) ?_).2.2; exact (rU (Kd.R_mono (Kd.R_far (p := ⟨gb398, 1, none⟩) (Kd.R_far (p := ⟨gb398, 0, none⟩) (Kd.R_types HO393.out BK398.out (by decide)) (fun _ hk => hk.2) (.int .i64 t390)) (fun _ hk => hk.2) (.slice Ao72 t391.length co72)) (fun _ h_ => h_.1)))); (case side2 => exact (Kd.R_reads' HO393.out).2.1); rintro e w73 ⟨v401, v404, rfl, ho0, ho1, hb⟩; refine ⟨_, rfl, ?_⟩; have HO402 := Aside0.mk (Kd.R_lower (Kd.R_new' (Kd.R_new' (Kd.R_new' (Kd.R_new' ho0 (Kd.R_lt (rU (Kd.R_mono (Kd.R_far (p := ⟨gb398, 1, none⟩) (Kd.R_far (p := ⟨gb398, 0, none⟩) (Kd.R_types HO_371001.out BK398.out (by decide)) (fun _ hk => hk.2) (.int .i64 t390)) (fun _ hk => hk.2) (.slice Ao72 t391.length co72)) (fun _ h_ => h_.1))))) (Kd.R_lt (rU (Kd.R_mono (Kd.R_far (p := ⟨gb398, 1, none⟩) (Kd.R_far (p := ⟨gb398, 0, none⟩) (Kd.R_types HO_380001.out BK398.out (by decide)) (fun _ hk => hk.2) (.int .i64 t390)) (fun _ hk => hk.2) (.slice Ao72 t391.length co72)) (fun _ h_ => h_.1))))) (Kd.R_lt (rU (Kd.R_mono (Kd.R_far (p := ⟨gb398, 1, none⟩) (Kd.R_far (p := ⟨gb398, 0, none⟩) (Kd.R_types HO_389001.out BK398.out (by decide)) (fun _ hk => hk.2) (.int .i64 t390)) (fun _ hk => hk.2) (.slice Ao72 t391.length co72)) (fun _ h_ => h_.1))))) (Kd.R_lt (rU (Kd.R_mono (Kd.R_far (p := ⟨gb398, 1, none⟩) (Kd.R_far (p := ⟨gb398, 0, none⟩) (Kd.R_types HO393.out BK398.out (by decide)) (fun _ hk => hk.2) (.int .i64 t390)) (fun _ hk => hk.2) (.slice Ao72 t391.length co72)) (fun _ h_ => h_.1))))) (below_size (lV4 GE370 GE379 GE388 GE398))); replace HO_371001 := Aside0.mk (Kd.R_elder' (rU (Kd.R_mono (Kd.R_far (p := ⟨gb398, 1, none⟩) (Kd.R_far (p := ⟨gb398, 0, none⟩) (Kd.R_types HO_371001.out BK398.out (by decide)) (fun _ hk => hk.2) (.int .i64 t390)) (fun _ hk => hk.2) (.slice Ao72 t391.length co72)) (fun _ h_ => h_.1))) (Kd.R_base ho0) hb); replace HO_380001 := Aside0.mk (Kd.R_elder' (rU (Kd.R_mono (Kd.R_far (p := ⟨gb398, 1, none⟩) (Kd.R_far (p := ⟨gb398, 0, none⟩) (Kd.R_types HO_380001.out BK398.out (by decide)) (fun _ hk => hk.2) (.int .i64 t390)) (fun _ hk => hk.2) (.slice Ao72 t391.length co72)) (fun _ h_ => h_.1))) (Kd.R_base ho0) hb); replace HO_389001 := Aside0.mk (Kd.R_elder' (rU (Kd.R_mono (Kd.R_far (p := ⟨gb398, 1, none⟩) (Kd.R_far (p := ⟨gb398, 0, none⟩) (Kd.R_types HO_389001.out BK398.out (by decide)) (fun _ hk => hk.2) (.int .i64 t390)) (fun _ hk => hk.2) (.slice Ao72 t391.length co72)) (fun _ h_ => h_.1))) (Kd.R_base ho0) hb); replace HO393 := Aside0.mk (Kd.R_elder' (rU (Kd.R_mono (Kd.R_far (p := ⟨gb398, 1, none⟩) (Kd.R_far (p := ⟨gb398, 0, none⟩) (Kd.R_types HO393.out BK398.out (by decide)) (fun _ hk => hk.2) (.int .i64 t390)) (fun _ hk => hk.2) (.slice Ao72 t391.length co72)) (fun _ h_ => h_.1))) (Kd.R_base ho0) hb); have HO405 := Aside0.mk (Kd.R_lower (Kd.R_new' (Kd.R_new' ho1 (Kd.R_lt (rU (Kd.R_mono (Kd.R_far (p := ⟨gb398, 1, none⟩) (Kd.R_far (p := ⟨gb398, 0, none⟩) (Kd.R_types HO_6.out BK398.out (by decide)) (fun _ hk => hk.2) (.int .i64 t390)) (fun _ hk => hk.2) (.slice Ao72 t391.length co72)) (fun _ h_ => h_.1))))) (Kd.R_lt (rU (Kd.R_mono (Kd.R_far (p := ⟨gb398, 1, none⟩) (Kd.R_far (p := ⟨gb398, 0, none⟩) (Kd.R_types HO396.out BK398.out (by decide)) (fun _ hk => hk.2) (.int .i64 t390)) (fun _ hk => hk.2) (.slice Ao72 t391.length co72)) (fun _ h_ => h_.1))))) (below_size (lV4 GE370 GE379 GE388 GE398))); replace HO_6 := Aside0.mk (Kd.R_elder' (rU (Kd.R_mono (Kd.R_far (p := ⟨gb398, 1, none⟩) (Kd.R_far (p := ⟨gb398, 0, none⟩) (Kd.R_types HO_6.out BK398.out (by decide)) (fun _ hk => hk.2) (.int .i64 t390)) (fun _ hk => hk.2) (.slice Ao72 t391.length co72)) (fun _ h_ => h_.1))) (Kd.R_base ho1) hb); replace HO396 := Aside0.mk (Kd.R_elder' (rU (Kd.R_mono (Kd.R_far (p := ⟨gb398, 1, none⟩) (Kd.R_far (p := ⟨gb398, 0, none⟩) (Kd.R_types HO396.out BK398.out (by decide)) (fun _ hk => hk.2) (.int .i64 t390)) (fun _ hk => hk.2) (.slice Ao72 t391.length co72)) (fun _ h_ => h_.1))) (Kd.R_base ho1) hb); replace BK370 := bB (bG NB370_398 BK370) hb; replace BK379 := bB (bG NB379_398 BK379) hb; replace BK388 := bB (bG NB388_398 BK388) hb; replace BK398 := Aside0.mk (blk_below (g := gb398) (o := .cells #[.int .i64 t390, .slice Ao72 t391.length co72] 25 (0, 0)) (by refine bU ?_; refine blk_put (cs := #[.int .i64 t390, .slice none 0 0]) ?_ 1 _ rfl; refine bU ?_; refine blk_put (cs := #[.int .i64 0, .slice none 0 0]) ?_ 0 _ rfl; refine bU ?_; exact BK398.out) hb); replace HB := bH (lV4 GE370 GE379 GE388 GE398) hb; (try clear hb); (try clear ho0); (try clear ho1)) | ((with_reducible refine gate_dst (N := 14) rfl ?_); (try (refine gate_guard (by rfl) ?_; dsimp only)); refine box_event rfl (N := 14) rfl (cs := #[.int .i64 0, .slice none 0 0]) (t := 25) sE ?_; intro gb407 hg w74 hbox hb; replace HO_6 := Aside0.mk (Kd.R_below (rU HO_6.out) hb); replace HO_371001 := Aside0.mk (Kd.R_below (rU HO_371001.out) hb); replace HO_380001 := Aside0.mk (Kd.R_below (rU HO_380001.out) hb); replace HO_389001 := Aside0.mk (Kd.R_below (rU HO_389001.out) hb); replace HO393 := Aside0.mk (Kd.R_below (rU HO393.out) hb); replace HO396 := Aside0.mk (Kd.R_below (rU HO396.out) hb); replace HO402 := Aside0.mk (Kd.R_below (rU HO402.out) hb); replace HO405 := Aside0.mk (Kd.R_below (rU HO405.out) hb); have BK407 := Aside0.mk hbox; have GW407 := gS w hg (lV4 GE370 GE379 GE388 GE398); have GE407 := gS w hg (lV4 GE370 GE379 GE388 GE398); replace HB := bH (lV4 GE370 GE379 GE388 GE398) hb; have NB370_407 := nL hg (bV BK370); have NB407_370 := nG hg (bV BK370); replace BK370 := bB (bV BK370) hb; have NB379_407 := nL hg (bV BK379); have NB407_379 := nG hg (bV BK379); replace BK379 := bB (bV BK379) hb; have NB388_407 := nL hg (bV BK388); have NB407_388 := nG hg (bV BK388); replace BK388 := bB (bV BK388) hb; have NB398_407 := nL hg (bV BK398); have NB407_398 := nG hg (bV BK398); replace BK398 := bB (bV BK398) hb; clear hb hbox hg; have hnb75 := NB407_370.out; have hnc75 := NB370_407.out; have hnb76 := NB407_379.out; have hnc76 := NB379_407.out; have hnb77 := NB407_388.out; have hnc77 := NB388_407.out; have hnb78 := NB407_398.out; have hnc78 := NB398_407.out; have hcz79_0 := cz BK407 0 (.int .i64 0); have hcz79_1 := cz BK407 1 (.slice none 0 0); have hfz79_0 := fz BK407 0; have hfz79_1 := fz BK407 1; obtain ⟨Ao80, co80, eo80⟩ := Kd.R_slice HO402.out; subst eo80; obtain ⟨Ao82, co82, eo82⟩ := Kd.R_slice HO405.out; subst eo82) | ((with_reducible refine gate_builtin (b := .append) (xs := #[.tmp 76, .tmp 77]) rfl ?_); (try (refine gate_guard (by rfl) ?_; dsimp only)); at_builtin; refine Kd.R_append_rows k50 (w0 := w) w.heap.size rfl (.tmp 76) (.tmp 77) 28 50 (.agg #[(.int .i64 0), (.int .i64 0)]) 16 rfl Try.underlying28 info50 rfl (by decide) (by omega) v395 t394 t403 _ _ _ (fun k_ => some k_ ≠ (v376 : Value).ownBlock ∧ some k_ ≠ (.slice Ao82 t403.length co82 : Value).ownBlock) (fun _ => False) rfl rfl ?aO ?aR (fun _ _ h => h) (fun _ h => h.elim) ?aF ?aB ?aS ?aL ?_; (case aR => refine (Kd.R_reads' (e := 50) (base := w.heap.size) (ok := fun k_ => ((True ∧ some k_ ≠ (v376 : Value).ownBlock) ∧ some k_ ≠ (v395 : Value).ownBlock)) (n := t403.length) (c := co82) ?_).2.2; exact (rU (Kd.R_mono (Kd.R_far (p := ⟨gb407, 1, none⟩) (Kd.R_far (p := ⟨gb407, 0, none⟩) (Kd.R_types HO405.out BK407.out (by decide)) (fun _ hk => hk.2) (.int .i64 t399)) (fun _ hk => hk.2) (.slice Ao80 t400.length co80)) (fun _ h_ => h_.1)))); (case aB => exact (lV5 GE370 GE379 GE388 GE398 GE407)); (case aF => exact (fun k_ hk => ⟨Kd.fresh' (Kd.R_lt (rU (Kd.R_mono (Kd.R_far (p := ⟨gb407, 1, none⟩) (Kd.R_far (p := ⟨gb407, 0, none⟩) (Kd.R_types HO_6.out BK407.out (by decide)) (fun _ hk => hk.2) (.int .i64 t399)) (fun _ hk => hk.2) (.slice Ao80 t400.length co80)) (fun _ h_ => h_.1)))) k_ hk, Kd.fresh' (Kd.R_lt (rU (Kd.R_mono (Kd.R_far (p := ⟨gb407, 1, none⟩) (Kd.R_far (p := ⟨gb407, 0, none⟩) (Kd.R_types HO405.out BK407.out (by decide)) (fun _ hk => hk.2) (.int .i64 t399)) (fun _ hk => hk.2) (.slice Ao80 t400.length co80)) (fun _ h_ => h_.1)))) k_ hk⟩)); (case aO => exact (by (with_reducible repeat (first | apply Kd.R_alloc | apply Kd.R_drewN | apply Kd.R_drew)); exact Kd.R_mono (Kd.R_far (p := ⟨gb407, 1, none⟩) (Kd.R_far (p := ⟨gb407, 0, none⟩) (Kd.R_types HO396.out BK407.out (by decide)) (fun _ hk => hk.2) (.int .i64 t399)) (fun _ hk => hk.2) (.slice Ao80 t400.length co80)) (fun _ hk => ⟨hk.1.1.2, hk.1.2⟩))); (case aS => exact (below_size (lV5 GE370 GE379 GE388 GE398 GE407))); (case aL => have := LMc33.out; omega); intro v409 w81 ho hb hg hat; rw [← Ny408.out] at ho; replace HO_6 := Aside0.mk (Kd.R_after (ok := (fun k_ => some k_ ≠ (.slice Ao82 t403.length co82 : Value).ownBlock)) (by (with_reducible repeat (first | apply Kd.R_alloc | apply Kd.R_drewN | apply Kd.R_drew)); exact Kd.R_mono (Kd.R_far (p := ⟨gb407, 1, none⟩) (Kd.R_far (p := ⟨gb407, 0, none⟩) (Kd.R_types HO_6.out BK407.out (by decide)) (fun _ hk => hk.2) (.int .i64 t399)) (fun _ hk => hk.2) (.slice Ao80 t400.length co80)) (fun _ hk => ⟨hk.1.2, hk.1.1.2⟩)) hg hat); replace HO_371001 := Aside0.mk (Kd.R_over' (rU (Kd.R_mono (Kd.R_far (p := ⟨gb407, 1, none⟩) (Kd.R_far (p := ⟨gb407, 0, none⟩) (Kd.R_types HO_371001.out BK407.out (by decide)) (fun _ hk => hk.2) (.int .i64 t399)) (fun _ hk => hk.2) (.slice Ao80 t400.length co80)) (fun _ h_ => h_.1))) (Kd.R_typed (rU (Kd.R_mono (Kd.R_far (p := ⟨gb407, 1, none⟩) (Kd.R_far (p := ⟨gb407, 0, none⟩) (Kd.R_types HO396.out BK407.out (by decide)) (fun _ hk => hk.2) (.int .i64 t399)) (fun _ hk => hk.2) (.slice Ao80 t400.length co80)) (fun _ h_ => h_.1)))) (by decide) hg); replace HO_380001 := Aside0.mk (Kd.R_over' (rU (Kd.R_mono (Kd.R_far (p := ⟨gb407, 1, none⟩) (Kd.R_far (p := ⟨gb407, 0, none⟩) (Kd.R_types HO_380001.out BK407.out (by decide)) (fun _ hk => hk.2) (.int .i64 t399)) (fun _ hk => hk.2) (.slice Ao80 t400.length co80)) (fun _ h_ => h_.1))) (Kd.R_typed (rU (Kd.R_mono (Kd.R_far (p := ⟨gb407, 1, none⟩) (Kd.R_far (p := ⟨gb407, 0, none⟩) (Kd.R_types HO396.out BK407.out (by decide)) (fun _ hk => hk.2) (.int .i64 t399)) (fun _ hk => hk.2) (.slice Ao80 t400.length co80)) (fun _ h_ => h_.1)))) (by decide) hg); replace HO_389001 := Aside0.mk (Kd.R_over' (rU (Kd.R_mono (Kd.R_far (p := ⟨gb407, 1, none⟩) (Kd.R_far (p := ⟨gb407, 0, none⟩) (Kd.R_types HO_389001.out BK407.out (by decide)) (fun _ hk => hk.2) (.int .i64 t399)) (fun _ hk => hk.2) (.slice Ao80 t400.length co80)) (fun _ h_ => h_.1))) (Kd.R_typed (rU (Kd.R_mono (Kd.R_far (p := ⟨gb407, 1, none⟩) (Kd.R_far (p := ⟨gb407, 0, none⟩) (Kd.R_types HO396.out BK407.out (by decide)) (fun _ hk => hk.2) (.int .i64 t399)) (fun _ hk => hk.2) (.slice Ao80 t400.length co80)) (fun _ h_ => h_.1)))) (by decide) hg); replace BK370 := Aside0.mk (blk_grown (g := gb370) (o := .cells #[.int .i64 t365, .slice Ao10 t366.length co10] 25 (0, 0)) (bG NB370_407 BK370) hg (Kd.R_ne HO396.out BK370.out (by decide))); replace BK379 := Aside0.mk (blk_grown (g := gb379) (o := .cells #[.int .i64 t371, .slice Ao15 t372.length co15] 25 (0, 0)) (bG NB379_407 BK379) hg (Kd.R_ne HO396.out BK379.out (by decide))); replace BK388 := Aside0.mk (blk_grown (g := gb388) (o := .cells #[.int .i64 t380, .slice Ao22 t381.length co22] 25 (0, 0)) (bG NB388_407 BK388) hg (Kd.R_ne HO396.out BK388.out (by decide))); replace HO393 := Aside0.mk (Kd.R_over' (rU (Kd.R_mono (Kd.R_far (p := ⟨gb407, 1, none⟩) (Kd.R_far (p := ⟨gb407, 0, none⟩) (Kd.R_types HO393.out BK407.out (by decide)) (fun _ hk => hk.2) (.int .i64 t399)) (fun _ hk => hk.2) (.slice Ao80 t400.length co80)) (fun _ h_ => h_.1))) (Kd.R_typed (rU (Kd.R_mono (Kd.R_far (p := ⟨gb407, 1, none⟩) (Kd.R_far (p := ⟨gb407, 0, none⟩) (Kd.R_types HO396.out BK407.out (by decide)) (fun _ hk => hk.2) (.int .i64 t399)) (fun _ hk => hk.2) (.slice Ao80 t400.length co80)) (fun _ h_ => h_.1)))) (by decide) hg); replace BK398 := Aside0.mk (blk_grown (g := gb398) (o := .cells #[.int .i64 t390, .slice Ao72 t391.length co72] 25 (0, 0)) (bG NB398_407 BK398) hg (Kd.R_ne HO396.out BK398.out (by decide))); replace HO402 := Aside0.mk (Kd.R_over' (rU (Kd.R_mono (Kd.R_far (p := ⟨gb407, 1, none⟩) (Kd.R_far (p := ⟨gb407, 0, none⟩) (Kd.R_types HO402.out BK407.out (by decide)) (fun _ hk => hk.2) (.int .i64 t399)) (fun _ hk => hk.2) (.slice Ao80 t400.length co80)) (fun _ h_ => h_.1))) (Kd.R_typed (rU (Kd.R_mono (Kd.R_far (p := ⟨gb407, 1, none⟩) (Kd.R_far (p := ⟨gb407, 0, none⟩) (Kd.R_types HO396.out BK407.out (by decide)) (fun _ hk => hk.2) (.int .i64 t399)) (fun _ hk => hk.2) (.slice Ao80 t400.length co80)) (fun _ h_ => h_.1)))) (by decide) hg); replace HO405 := Aside0.mk (Kd.R_after (ok := (fun k_ => some k_ ≠ (v376 : Value).ownBlock)) (by (with_reducible repeat (first | apply Kd.R_alloc | apply Kd.R_drewN | apply Kd.R_drew)); exact Kd.R_mono (Kd.R_far (p := ⟨gb407, 1, none⟩) (Kd.R_far (p := ⟨gb407, 0, none⟩) (Kd.R_types HO405.out BK407.out (by decide)) (fun _ hk => hk.2) (.int .i64 t399)) (fun _ hk => hk.2) (.slice Ao80 t400.length co80)) (fun _ hk => ⟨hk.1.1.2, hk.1.2⟩)) hg hat); replace BK407 := Aside0.mk (blk_grown (g := gb407) (o := .cells #[.int .i64 t399, .slice Ao80 t400.length co80] 25 (0, 0)) (by refine bU ?_; refine blk_put (cs := #[.int .i64 t399, .slice none 0 0]) ?_ 1 _ rfl; refine bU ?_; refine blk_put (cs := #[.int .i64 0, .slice none 0 0]) ?_ 0 _ rfl; refine bU ?_; exact BK407.out) hg (Kd.R_ne HO396.out BK407.out (by decide))); replace HB := Aside0.mk hb; have HO410 := Aside0.mk ho; clear HO396; clear ho hb hg hat; obtain ⟨Ao83, co83, eo83⟩ := Kd.R_slice HO410.out; subst eo83; obtain ⟨Ao84, co84, eo84⟩ := Kd.R_slice HO_6.out; subst eo84) | (go_at_call 7; (with_reducible refine (laws_sameFired.calls kj5 _ _ y408 _ _ t375 true _ ?side1 ?side2 ?side3 ?side4 A34.out).mono ?_); (case side1 => exact cU (Kd.R_reads' HO410.out).2.2); (case side2 => exact (Kd.R_reads' HO410.out).2.1); (case side3 => exact cU (Kd.R_reads' HO_6.out).2.2); (case side4 => exact (Kd.R_reads' HO_6.out).2.1); rintro e w' ⟨rfl, ⟨nd, rfl⟩⟩; have hcz85_0 := cz BK407 0 (.int .i64 t399); have hcz85_1 := cz BK407 1 (.slice Ao80 t400.length co80); have hfz85_0 := fz BK407 0; have hfz85_1 := fz BK407 1; have hnb86 := NB379_388.out; have hnc86 := NB388_379.out; have hcz87_0 := cz BK379 0 (.int .i64 t371); have hcz87_1 := cz BK379 1 (.slice Ao15 t372.length co15); have hfz87_0 := fz BK379 0; have hfz87_1 := fz BK379 1))
           go_ret
           exact ⟨eE, lV5 GE370 GE379 GE388 GE398 GE407⟩
         ·replace c35 := Bool.eq_false_iff.mpr c35
          subst c35
          have H1 : (some false) = some r := by rw [if_neg (show ¬ (false = true) by decide)] at H; exact H
          clear H
          have H := H1
          clear H1
          obtain rfl := Option.some.inj H
          have hnb88 := NB370_379.out
          have hnc88 := NB379_370.out
          have hnb89 := NB370_388.out
          have hnc89 := NB388_370.out
          have hcz90_0 := cz BK370 0 (.int .i64 t365)
          have hcz90_1 := cz BK370 1 (.slice Ao10 t366.length co10)
          have hfz90_0 := fz BK370 0
          have hfz90_1 := fz BK370 1
          go_wp2_with (first | ((with_reducible refine gate_callee (f := 5) rfl ?_); refine goesL_ (some 60) rfl rfl Try.func5 (by kernel_rfl) rfl #[.agg #[.int .i64 t365, .slice Ao10 t366.length co10], .int .i64 (wrap64 (t365 + (wrap64 (Int.tdiv (wrap64 (t369 - t365)) 2))))] rfl aE ?_; (with_reducible refine (impl_RunClock.calls kj5 t365 _ _ t366 (wrap64 (t365 + (wrap64 (Int.tdiv (wrap64 (t369 - t365)) 2)))) t390 t391 t394 true _ ?side1 ?side2 A29.out).mono ?_); (case side1 => exact cU (Kd.R_reads' HO_371001.out).2.2); (case side2 => exact (Kd.R_reads' HO_371001.out).2.1); rintro e w91 ⟨v392, v395, rfl, ho0, ho1, hb⟩; refine ⟨_, rfl, ?_⟩; have HO393 := Aside0.mk (Kd.R_lower (Kd.R_new' (Kd.R_new' (Kd.R_new' ho0 (Kd.R_lt (rU HO_371001.out))) (Kd.R_lt (rU HO_380001.out))) (Kd.R_lt (rU HO_389001.out))) (below_size (lV3 GE370 GE379 GE388))); replace HO_371001 := Aside0.mk (Kd.R_elder' (rU HO_371001.out) (Kd.R_base ho0) hb); replace HO_380001 := Aside0.mk (Kd.R_elder' (rU HO_380001.out) (Kd.R_base ho0) hb); replace HO_389001 := Aside0.mk (Kd.R_elder' (rU HO_389001.out) (Kd.R_base ho0) hb); have HO396 := Aside0.mk (Kd.R_lower (Kd.R_new' ho1 (Kd.R_lt (rU HO_6.out))) (below_size (lV3 GE370 GE379 GE388))); replace HO_6 := Aside0.mk (Kd.R_elder' (rU HO_6.out) (Kd.R_base ho1) hb); replace BK370 := bB (bV BK370) hb; replace BK379 := bB (bV BK379) hb; replace BK388 := bB (bV BK388) hb; replace HB := bH (lV3 GE370 GE379 GE388) hb; (try clear hb); (try clear ho0); (try clear ho1)) | ((with_reducible refine gate_dst (N := 11) rfl ?_); (try (refine gate_guard (by rfl) ?_; dsimp only)); refine box_event rfl (N := 11) rfl (cs := #[.int .i64 0, .slice none 0 0]) (t := 25) sE ?_; intro gb398 hg w92 hbox hb; replace HO_6 := Aside0.mk (Kd.R_below (rU HO_6.out) hb); replace HO_371001 := Aside0.mk (Kd.R_below (rU HO_371001.out) hb); replace HO_380001 := Aside0.mk (Kd.R_below (rU HO_380001.out) hb); replace HO_389001 := Aside0.mk (Kd.R_below (rU HO_389001.out) hb); replace HO393 := Aside0.mk (Kd.R_below (rU HO393.out) hb); replace HO396 := Aside0.mk (Kd.R_below (rU HO396.out) hb); have BK398 := Aside0.mk hbox; have GW398 := gS w hg (lV3 GE370 GE379 GE388); have GE398 := gS w hg (lV3 GE370 GE379 GE388); replace HB := bH (lV3 GE370 GE379 GE388) hb; have NB370_398 := nL hg (bV BK370); have NB398_370 := nG hg (bV BK370); replace BK370 := bB (bV BK370) hb; have NB379_398 := nL hg (bV BK379); have NB398_379 := nG hg (bV BK379); replace BK379 := bB (bV BK379) hb; have NB388_398 := nL hg (bV BK388); have NB398_388 := nG hg (bV BK388); replace BK388 := bB (bV BK388) hb; clear hb hbox hg; have hnb93 := NB398_370.out; have hnc93 := NB370_398.out; have hnb94 := NB398_379.out; have hnc94 := NB379_398.out; have hnb95 := NB398_388.out; have hnc95 := NB388_398.out; have hcz96_0 := cz BK398 0 (.int .i64 0); have hcz96_1 := cz BK398 1 (.slice none 0 0); have hfz96_0 := fz BK398 0; have hfz96_1 := fz BK398 1; obtain ⟨Ao97, co97, eo97⟩ := Kd.R_slice HO393.out; subst eo97) | ((with_reducible refine gate_callee (f := 5) rfl ?_); refine goesL_ (some 67) rfl rfl Try.func5 (by kernel_rfl) rfl #[.agg #[.int .i64 t390, .slice Ao97 t391.length co97], .int .i64 t369] rfl aE ?_; (with_reducible refine (impl_RunClock.calls kj5 t390 _ _ t391 t369 t399 t400 t403 true _ ?side1 ?side2 A30.out).mono ?_); (case side1 => refine (Kd.R_reads' (e := 47) (base := w.heap.size) (ok := fun k_ => (((True ∧ some k_ ≠ (.slice Ao10 t366.length co10 : Value).ownBlock) ∧ some k_ ≠ (.slice Ao15 t372.length co15 : Value).ownBlock) ∧ some k_ ≠ (.slice Ao22 t381.length co22 : Value).ownBlock)) (n := t391.length) (c := co97) ?_).2.2; exact (rU (Kd.R_mono (Kd.R_far (p := ⟨gb398, 1, none⟩) (Kd.R_far (p := ⟨gb398, 0, none⟩) (Kd.R_types HO393.out BK398.out (by decide)) (fun _ hk => hk.2) (.int .i64 t390)) (fun _ hk => hk.2) (.slice Ao97 t391.length co97)) (fun _ h_ => h_.1)))); (case side2 => exact (Kd.R_reads' HO393.out).2.1); rintro e w98 ⟨v401, v404, rfl, ho0, ho1, hb⟩; refine ⟨_, rfl, ?_⟩; have HO402 := Aside0.mk (Kd.R_lower (Kd.R_new' (Kd.R_new' (Kd.R_new' (Kd.R_new' ho0 (Kd.R_lt (rU (Kd.R_mono (Kd.R_far (p := ⟨gb398, 1, none⟩) (Kd.R_far (p := ⟨gb398, 0, none⟩) (Kd.R_types HO_371001.out BK398.out (by decide)) (fun _ hk => hk.2) (.int .i64 t390)) (fun _ hk => hk.2) (.slice Ao97 t391.length co97)) (fun _ h_ => h_.1))))) (Kd.R_lt (rU (Kd.R_mono (Kd.R_far (p := ⟨gb398, 1, none⟩) (Kd.R_far (p := ⟨gb398, 0, none⟩) (Kd.R_types HO_380001.out BK398.out (by decide)) (fun _ hk => hk.2) (.int .i64 t390)) (fun _ hk => hk.2) (.slice Ao97 t391.length co97)) (fun _ h_ => h_.1))))) (Kd.R_lt (rU (Kd.R_mono (Kd.R_far (p := ⟨gb398, 1, none⟩) (Kd.R_far (p := ⟨gb398, 0, none⟩) (Kd.R_types HO_389001.out BK398.out (by decide)) (fun _ hk => hk.2) (.int .i64 t390)) (fun _ hk => hk.2) (.slice Ao97 t391.length co97)) (fun _ h_ => h_.1))))) (Kd.R_lt (rU (Kd.R_mono (Kd.R_far (p := ⟨gb398, 1, none⟩) (Kd.R_far (p := ⟨gb398, 0, none⟩) (Kd.R_types HO393.out BK398.out (by decide)) (fun _ hk => hk.2) (.int .i64 t390)) (fun _ hk => hk.2) (.slice Ao97 t391.length co97)) (fun _ h_ => h_.1))))) (below_size (lV4 GE370 GE379 GE388 GE398))); replace HO_371001 := Aside0.mk (Kd.R_elder' (rU (Kd.R_mono (Kd.R_far (p := ⟨gb398, 1, none⟩) (Kd.R_far (p := ⟨gb398, 0, none⟩) (Kd.R_types HO_371001.out BK398.out (by decide)) (fun _ hk => hk.2) (.int .i64 t390)) (fun _ hk => hk.2) (.slice Ao97 t391.length co97)) (fun _ h_ => h_.1))) (Kd.R_base ho0) hb); replace HO_380001 := Aside0.mk (Kd.R_elder' (rU (Kd.R_mono (Kd.R_far (p := ⟨gb398, 1, none⟩) (Kd.R_far (p := ⟨gb398, 0, none⟩) (Kd.R_types HO_380001.out BK398.out (by decide)) (fun _ hk => hk.2) (.int .i64 t390)) (fun _ hk => hk.2) (.slice Ao97 t391.length co97)) (fun _ h_ => h_.1))) (Kd.R_base ho0) hb); replace HO_389001 := Aside0.mk (Kd.R_elder' (rU (Kd.R_mono (Kd.R_far (p := ⟨gb398, 1, none⟩) (Kd.R_far (p := ⟨gb398, 0, none⟩) (Kd.R_types HO_389001.out BK398.out (by decide)) (fun _ hk => hk.2) (.int .i64 t390)) (fun _ hk => hk.2) (.slice Ao97 t391.length co97)) (fun _ h_ => h_.1))) (Kd.R_base ho0) hb); replace HO393 := Aside0.mk (Kd.R_elder' (rU (Kd.R_mono (Kd.R_far (p := ⟨gb398, 1, none⟩) (Kd.R_far (p := ⟨gb398, 0, none⟩) (Kd.R_types HO393.out BK398.out (by decide)) (fun _ hk => hk.2) (.int .i64 t390)) (fun _ hk => hk.2) (.slice Ao97 t391.length co97)) (fun _ h_ => h_.1))) (Kd.R_base ho0) hb); have HO405 := Aside0.mk (Kd.R_lower (Kd.R_new' (Kd.R_new' ho1 (Kd.R_lt (rU (Kd.R_mono (Kd.R_far (p := ⟨gb398, 1, none⟩) (Kd.R_far (p := ⟨gb398, 0, none⟩) (Kd.R_types HO_6.out BK398.out (by decide)) (fun _ hk => hk.2) (.int .i64 t390)) (fun _ hk => hk.2) (.slice Ao97 t391.length co97)) (fun _ h_ => h_.1))))) (Kd.R_lt (rU (Kd.R_mono (Kd.R_far (p := ⟨gb398, 1, none⟩) (Kd.R_far (p := ⟨gb398, 0, none⟩) (Kd.R_types HO396.out BK398.out (by decide)) (fun _ hk => hk.2) (.int .i64 t390)) (fun _ hk => hk.2) (.slice Ao97 t391.length co97)) (fun _ h_ => h_.1))))) (below_size (lV4 GE370 GE379 GE388 GE398))); replace HO_6 := Aside0.mk (Kd.R_elder' (rU (Kd.R_mono (Kd.R_far (p := ⟨gb398, 1, none⟩) (Kd.R_far (p := ⟨gb398, 0, none⟩) (Kd.R_types HO_6.out BK398.out (by decide)) (fun _ hk => hk.2) (.int .i64 t390)) (fun _ hk => hk.2) (.slice Ao97 t391.length co97)) (fun _ h_ => h_.1))) (Kd.R_base ho1) hb); replace HO396 := Aside0.mk (Kd.R_elder' (rU (Kd.R_mono (Kd.R_far (p := ⟨gb398, 1, none⟩) (Kd.R_far (p := ⟨gb398, 0, none⟩) (Kd.R_types HO396.out BK398.out (by decide)) (fun _ hk => hk.2) (.int .i64 t390)) (fun _ hk => hk.2) (.slice Ao97 t391.length co97)) (fun _ h_ => h_.1))) (Kd.R_base ho1) hb); replace BK370 := bB (bG NB370_398 BK370) hb; replace BK379 := bB (bG NB379_398 BK379) hb; replace BK388 := bB (bG NB388_398 BK388) hb; replace BK398 := Aside0.mk (blk_below (g := gb398) (o := .cells #[.int .i64 t390, .slice Ao97 t391.length co97] 25 (0, 0)) (by refine bU ?_; refine blk_put (cs := #[.int .i64 t390, .slice none 0 0]) ?_ 1 _ rfl; refine bU ?_; refine blk_put (cs := #[.int .i64 0, .slice none 0 0]) ?_ 0 _ rfl; refine bU ?_; exact BK398.out) hb); replace HB := bH (lV4 GE370 GE379 GE388 GE398) hb; (try clear hb); (try clear ho0); (try clear ho1)) | ((with_reducible refine gate_dst (N := 14) rfl ?_); (try (refine gate_guard (by rfl) ?_; dsimp only)); refine box_event rfl (N := 14) rfl (cs := #[.int .i64 0, .slice none 0 0]) (t := 25) sE ?_; intro gb407 hg w99 hbox hb; replace HO_6 := Aside0.mk (Kd.R_below (rU HO_6.out) hb); replace HO_371001 := Aside0.mk (Kd.R_below (rU HO_371001.out) hb); replace HO_380001 := Aside0.mk (Kd.R_below (rU HO_380001.out) hb); replace HO_389001 := Aside0.mk (Kd.R_below (rU HO_389001.out) hb); replace HO393 := Aside0.mk (Kd.R_below (rU HO393.out) hb); replace HO396 := Aside0.mk (Kd.R_below (rU HO396.out) hb); replace HO402 := Aside0.mk (Kd.R_below (rU HO402.out) hb); replace HO405 := Aside0.mk (Kd.R_below (rU HO405.out) hb); have BK407 := Aside0.mk hbox; have GW407 := gS w hg (lV4 GE370 GE379 GE388 GE398); have GE407 := gS w hg (lV4 GE370 GE379 GE388 GE398); replace HB := bH (lV4 GE370 GE379 GE388 GE398) hb; have NB370_407 := nL hg (bV BK370); have NB407_370 := nG hg (bV BK370); replace BK370 := bB (bV BK370) hb; have NB379_407 := nL hg (bV BK379); have NB407_379 := nG hg (bV BK379); replace BK379 := bB (bV BK379) hb; have NB388_407 := nL hg (bV BK388); have NB407_388 := nG hg (bV BK388); replace BK388 := bB (bV BK388) hb; have NB398_407 := nL hg (bV BK398); have NB407_398 := nG hg (bV BK398); replace BK398 := bB (bV BK398) hb; clear hb hbox hg; have hnb100 := NB407_370.out; have hnc100 := NB370_407.out; have hnb101 := NB407_379.out; have hnc101 := NB379_407.out; have hnb102 := NB407_388.out; have hnc102 := NB388_407.out; have hnb103 := NB407_398.out; have hnc103 := NB398_407.out; have hcz104_0 := cz BK407 0 (.int .i64 0); have hcz104_1 := cz BK407 1 (.slice none 0 0); have hfz104_0 := fz BK407 0; have hfz104_1 := fz BK407 1; obtain ⟨Ao105, co105, eo105⟩ := Kd.R_slice HO402.out; subst eo105; obtain ⟨Ao107, co107, eo107⟩ := Kd.R_slice HO405.out; subst eo107) | ((with_reducible refine gate_builtin (b := .append) (xs := #[.tmp 76, .tmp 77]) rfl ?_); (try (refine gate_guard (by rfl) ?_; dsimp only)); at_builtin; refine Kd.R_append_rows k50 (w0 := w) w.heap.size rfl (.tmp 76) (.tmp 77) 28 50 (.agg #[(.int .i64 0), (.int .i64 0)]) 16 rfl Try.underlying28 info50 rfl (by decide) (by omega) v395 t394 t403 _ _ _ (fun k_ => some k_ ≠ (v376 : Value).ownBlock ∧ some k_ ≠ (.slice Ao107 t403.length co107 : Value).ownBlock) (fun _ => False) rfl rfl ?aO ?aR (fun _ _ h => h) (fun _ h => h.elim) ?aF ?aB ?aS ?aL ?_; (case aR => refine (Kd.R_reads' (e := 50) (base := w.heap.size) (ok := fun k_ => ((True ∧ some k_ ≠ (v376 : Value).ownBlock) ∧ some k_ ≠ (v395 : Value).ownBlock)) (n := t403.length) (c := co107) ?_).2.2; exact (rU (Kd.R_mono (Kd.R_far (p := ⟨gb407, 1, none⟩) (Kd.R_far (p := ⟨gb407, 0, none⟩) (Kd.R_types HO405.out BK407.out (by decide)) (fun _ hk => hk.2) (.int .i64 t399)) (fun _ hk => hk.2) (.slice Ao105 t400.length co105)) (fun _ h_ => h_.1)))); (case aB => exact (lV5 GE370 GE379 GE388 GE398 GE407)); (case aF => exact (fun k_ hk => ⟨Kd.fresh' (Kd.R_lt (rU (Kd.R_mono (Kd.R_far (p := ⟨gb407, 1, none⟩) (Kd.R_far (p := ⟨gb407, 0, none⟩) (Kd.R_types HO_6.out BK407.out (by decide)) (fun _ hk => hk.2) (.int .i64 t399)) (fun _ hk => hk.2) (.slice Ao105 t400.length co105)) (fun _ h_ => h_.1)))) k_ hk, Kd.fresh' (Kd.R_lt (rU (Kd.R_mono (Kd.R_far (p := ⟨gb407, 1, none⟩) (Kd.R_far (p := ⟨gb407, 0, none⟩) (Kd.R_types HO405.out BK407.out (by decide)) (fun _ hk => hk.2) (.int .i64 t399)) (fun _ hk => hk.2) (.slice Ao105 t400.length co105)) (fun _ h_ => h_.1)))) k_ hk⟩)); (case aO => exact (by (with_reducible repeat (first | apply Kd.R_alloc | apply Kd.R_drewN | apply Kd.R_drew)); exact Kd.R_mono (Kd.R_far (p := ⟨gb407, 1, none⟩) (Kd.R_far (p := ⟨gb407, 0, none⟩) (Kd.R_types HO396.out BK407.out (by decide)) (fun _ hk => hk.2) (.int .i64 t399)) (fun _ hk => hk.2) (.slice Ao105 t400.length co105)) (fun _ hk => ⟨hk.1.1.2, hk.1.2⟩))); (case aS => exact (below_size (lV5 GE370 GE379 GE388 GE398 GE407))); (case aL => have := LMc33.out; omega); intro v409 w106 ho hb hg hat; rw [← Ny408.out] at ho; replace HO_6 := Aside0.mk (Kd.R_after (ok := (fun k_ => some k_ ≠ (.slice Ao107 t403.length co107 : Value).ownBlock)) (by (with_reducible repeat (first | apply Kd.R_alloc | apply Kd.R_drewN | apply Kd.R_drew)); exact Kd.R_mono (Kd.R_far (p := ⟨gb407, 1, none⟩) (Kd.R_far (p := ⟨gb407, 0, none⟩) (Kd.R_types HO_6.out BK407.out (by decide)) (fun _ hk => hk.2) (.int .i64 t399)) (fun _ hk => hk.2) (.slice Ao105 t400.length co105)) (fun _ hk => ⟨hk.1.2, hk.1.1.2⟩)) hg hat); replace HO_371001 := Aside0.mk (Kd.R_over' (rU (Kd.R_mono (Kd.R_far (p := ⟨gb407, 1, none⟩) (Kd.R_far (p := ⟨gb407, 0, none⟩) (Kd.R_types HO_371001.out BK407.out (by decide)) (fun _ hk => hk.2) (.int .i64 t399)) (fun _ hk => hk.2) (.slice Ao105 t400.length co105)) (fun _ h_ => h_.1))) (Kd.R_typed (rU (Kd.R_mono (Kd.R_far (p := ⟨gb407, 1, none⟩) (Kd.R_far (p := ⟨gb407, 0, none⟩) (Kd.R_types HO396.out BK407.out (by decide)) (fun _ hk => hk.2) (.int .i64 t399)) (fun _ hk => hk.2) (.slice Ao105 t400.length co105)) (fun _ h_ => h_.1)))) (by decide) hg); replace HO_380001 := Aside0.mk (Kd.R_over' (rU (Kd.R_mono (Kd.R_far (p := ⟨gb407, 1, none⟩) (Kd.R_far (p := ⟨gb407, 0, none⟩) (Kd.R_types HO_380001.out BK407.out (by decide)) (fun _ hk => hk.2) (.int .i64 t399)) (fun _ hk => hk.2) (.slice Ao105 t400.length co105)) (fun _ h_ => h_.1))) (Kd.R_typed (rU (Kd.R_mono (Kd.R_far (p := ⟨gb407, 1, none⟩) (Kd.R_far (p := ⟨gb407, 0, none⟩) (Kd.R_types HO396.out BK407.out (by decide)) (fun _ hk => hk.2) (.int .i64 t399)) (fun _ hk => hk.2) (.slice Ao105 t400.length co105)) (fun _ h_ => h_.1)))) (by decide) hg); replace HO_389001 := Aside0.mk (Kd.R_over' (rU (Kd.R_mono (Kd.R_far (p := ⟨gb407, 1, none⟩) (Kd.R_far (p := ⟨gb407, 0, none⟩) (Kd.R_types HO_389001.out BK407.out (by decide)) (fun _ hk => hk.2) (.int .i64 t399)) (fun _ hk => hk.2) (.slice Ao105 t400.length co105)) (fun _ h_ => h_.1))) (Kd.R_typed (rU (Kd.R_mono (Kd.R_far (p := ⟨gb407, 1, none⟩) (Kd.R_far (p := ⟨gb407, 0, none⟩) (Kd.R_types HO396.out BK407.out (by decide)) (fun _ hk => hk.2) (.int .i64 t399)) (fun _ hk => hk.2) (.slice Ao105 t400.length co105)) (fun _ h_ => h_.1)))) (by decide) hg); replace BK370 := Aside0.mk (blk_grown (g := gb370) (o := .cells #[.int .i64 t365, .slice Ao10 t366.length co10] 25 (0, 0)) (bG NB370_407 BK370) hg (Kd.R_ne HO396.out BK370.out (by decide))); replace BK379 := Aside0.mk (blk_grown (g := gb379) (o := .cells #[.int .i64 t371, .slice Ao15 t372.length co15] 25 (0, 0)) (bG NB379_407 BK379) hg (Kd.R_ne HO396.out BK379.out (by decide))); replace BK388 := Aside0.mk (blk_grown (g := gb388) (o := .cells #[.int .i64 t380, .slice Ao22 t381.length co22] 25 (0, 0)) (bG NB388_407 BK388) hg (Kd.R_ne HO396.out BK388.out (by decide))); replace HO393 := Aside0.mk (Kd.R_over' (rU (Kd.R_mono (Kd.R_far (p := ⟨gb407, 1, none⟩) (Kd.R_far (p := ⟨gb407, 0, none⟩) (Kd.R_types HO393.out BK407.out (by decide)) (fun _ hk => hk.2) (.int .i64 t399)) (fun _ hk => hk.2) (.slice Ao105 t400.length co105)) (fun _ h_ => h_.1))) (Kd.R_typed (rU (Kd.R_mono (Kd.R_far (p := ⟨gb407, 1, none⟩) (Kd.R_far (p := ⟨gb407, 0, none⟩) (Kd.R_types HO396.out BK407.out (by decide)) (fun _ hk => hk.2) (.int .i64 t399)) (fun _ hk => hk.2) (.slice Ao105 t400.length co105)) (fun _ h_ => h_.1)))) (by decide) hg); replace BK398 := Aside0.mk (blk_grown (g := gb398) (o := .cells #[.int .i64 t390, .slice Ao97 t391.length co97] 25 (0, 0)) (bG NB398_407 BK398) hg (Kd.R_ne HO396.out BK398.out (by decide))); replace HO402 := Aside0.mk (Kd.R_over' (rU (Kd.R_mono (Kd.R_far (p := ⟨gb407, 1, none⟩) (Kd.R_far (p := ⟨gb407, 0, none⟩) (Kd.R_types HO402.out BK407.out (by decide)) (fun _ hk => hk.2) (.int .i64 t399)) (fun _ hk => hk.2) (.slice Ao105 t400.length co105)) (fun _ h_ => h_.1))) (Kd.R_typed (rU (Kd.R_mono (Kd.R_far (p := ⟨gb407, 1, none⟩) (Kd.R_far (p := ⟨gb407, 0, none⟩) (Kd.R_types HO396.out BK407.out (by decide)) (fun _ hk => hk.2) (.int .i64 t399)) (fun _ hk => hk.2) (.slice Ao105 t400.length co105)) (fun _ h_ => h_.1)))) (by decide) hg); replace HO405 := Aside0.mk (Kd.R_after (ok := (fun k_ => some k_ ≠ (v376 : Value).ownBlock)) (by (with_reducible repeat (first | apply Kd.R_alloc | apply Kd.R_drewN | apply Kd.R_drew)); exact Kd.R_mono (Kd.R_far (p := ⟨gb407, 1, none⟩) (Kd.R_far (p := ⟨gb407, 0, none⟩) (Kd.R_types HO405.out BK407.out (by decide)) (fun _ hk => hk.2) (.int .i64 t399)) (fun _ hk => hk.2) (.slice Ao105 t400.length co105)) (fun _ hk => ⟨hk.1.1.2, hk.1.2⟩)) hg hat); replace BK407 := Aside0.mk (blk_grown (g := gb407) (o := .cells #[.int .i64 t399, .slice Ao105 t400.length co105] 25 (0, 0)) (by refine bU ?_; refine blk_put (cs := #[.int .i64 t399, .slice none 0 0]) ?_ 1 _ rfl; refine bU ?_; refine blk_put (cs := #[.int .i64 0, .slice none 0 0]) ?_ 0 _ rfl; refine bU ?_; exact BK407.out) hg (Kd.R_ne HO396.out BK407.out (by decide))); replace HB := Aside0.mk hb; have HO410 := Aside0.mk ho; clear HO396; clear ho hb hg hat; obtain ⟨Ao108, co108, eo108⟩ := Kd.R_slice HO410.out; subst eo108; obtain ⟨Ao109, co109, eo109⟩ := Kd.R_slice HO_6.out; subst eo109) | (go_at_call 7; (with_reducible refine (laws_sameFired.calls kj5 _ _ y408 _ _ t375 false _ ?side1 ?side2 ?side3 ?side4 A34.out).mono ?_); (case side1 => exact cU (Kd.R_reads' HO410.out).2.2); (case side2 => exact (Kd.R_reads' HO410.out).2.1); (case side3 => exact cU (Kd.R_reads' HO_6.out).2.2); (case side4 => exact (Kd.R_reads' HO_6.out).2.1); rintro e w' ⟨rfl, ⟨nd, rfl⟩⟩))
          go_ret
          exact ⟨eE, lV5 GE370 GE379 GE388 GE398 GE407⟩
        ·rw [if_neg c33] at H
         exact absurd H (by simp)
       ·replace c32 := Bool.eq_false_iff.mpr c32
        subst c32
        have H1 : (some false) = some r := by rw [if_neg (show ¬ (false = true) by decide)] at H; exact H
        clear H
        have H := H1
        clear H1
        obtain rfl := Option.some.inj H
        have hnb110 := NB370_379.out
        have hnc110 := NB379_370.out
        have hnb111 := NB370_388.out
        have hnc111 := NB388_370.out
        have hcz112_0 := cz BK370 0 (.int .i64 t365)
        have hcz112_1 := cz BK370 1 (.slice Ao10 t366.length co10)
        have hfz112_0 := fz BK370 0
        have hfz112_1 := fz BK370 1
        go_wp2_with (first | ((with_reducible refine gate_callee (f := 5) rfl ?_); refine goesL_ (some 60) rfl rfl Try.func5 (by kernel_rfl) rfl #[.agg #[.int .i64 t365, .slice Ao10 t366.length co10], .int .i64 (wrap64 (t365 + (wrap64 (Int.tdiv (wrap64 (t369 - t365)) 2))))] rfl aE ?_; (with_reducible refine (impl_RunClock.calls kj5 t365 _ _ t366 (wrap64 (t365 + (wrap64 (Int.tdiv (wrap64 (t369 - t365)) 2)))) t390 t391 t394 true _ ?side1 ?side2 A29.out).mono ?_); (case side1 => exact cU (Kd.R_reads' HO_371001.out).2.2); (case side2 => exact (Kd.R_reads' HO_371001.out).2.1); rintro e w113 ⟨v392, v395, rfl, ho0, ho1, hb⟩; refine ⟨_, rfl, ?_⟩; have HO393 := Aside0.mk (Kd.R_lower (Kd.R_new' (Kd.R_new' (Kd.R_new' ho0 (Kd.R_lt (rU HO_371001.out))) (Kd.R_lt (rU HO_380001.out))) (Kd.R_lt (rU HO_389001.out))) (below_size (lV3 GE370 GE379 GE388))); replace HO_371001 := Aside0.mk (Kd.R_elder' (rU HO_371001.out) (Kd.R_base ho0) hb); replace HO_380001 := Aside0.mk (Kd.R_elder' (rU HO_380001.out) (Kd.R_base ho0) hb); replace HO_389001 := Aside0.mk (Kd.R_elder' (rU HO_389001.out) (Kd.R_base ho0) hb); have HO396 := Aside0.mk (Kd.R_lower (Kd.R_new' ho1 (Kd.R_lt (rU HO_6.out))) (below_size (lV3 GE370 GE379 GE388))); replace HO_6 := Aside0.mk (Kd.R_elder' (rU HO_6.out) (Kd.R_base ho1) hb); replace BK370 := bB (bV BK370) hb; replace BK379 := bB (bV BK379) hb; replace BK388 := bB (bV BK388) hb; replace HB := bH (lV3 GE370 GE379 GE388) hb; (try clear hb); (try clear ho0); (try clear ho1)) | ((with_reducible refine gate_dst (N := 11) rfl ?_); (try (refine gate_guard (by rfl) ?_; dsimp only)); refine box_event rfl (N := 11) rfl (cs := #[.int .i64 0, .slice none 0 0]) (t := 25) sE ?_; intro gb398 hg w114 hbox hb; replace HO_6 := Aside0.mk (Kd.R_below (rU HO_6.out) hb); replace HO_371001 := Aside0.mk (Kd.R_below (rU HO_371001.out) hb); replace HO_380001 := Aside0.mk (Kd.R_below (rU HO_380001.out) hb); replace HO_389001 := Aside0.mk (Kd.R_below (rU HO_389001.out) hb); replace HO393 := Aside0.mk (Kd.R_below (rU HO393.out) hb); replace HO396 := Aside0.mk (Kd.R_below (rU HO396.out) hb); have BK398 := Aside0.mk hbox; have GW398 := gS w hg (lV3 GE370 GE379 GE388); have GE398 := gS w hg (lV3 GE370 GE379 GE388); replace HB := bH (lV3 GE370 GE379 GE388) hb; have NB370_398 := nL hg (bV BK370); have NB398_370 := nG hg (bV BK370); replace BK370 := bB (bV BK370) hb; have NB379_398 := nL hg (bV BK379); have NB398_379 := nG hg (bV BK379); replace BK379 := bB (bV BK379) hb; have NB388_398 := nL hg (bV BK388); have NB398_388 := nG hg (bV BK388); replace BK388 := bB (bV BK388) hb; clear hb hbox hg; have hnb115 := NB398_370.out; have hnc115 := NB370_398.out; have hnb116 := NB398_379.out; have hnc116 := NB379_398.out; have hnb117 := NB398_388.out; have hnc117 := NB388_398.out; have hcz118_0 := cz BK398 0 (.int .i64 0); have hcz118_1 := cz BK398 1 (.slice none 0 0); have hfz118_0 := fz BK398 0; have hfz118_1 := fz BK398 1; obtain ⟨Ao119, co119, eo119⟩ := Kd.R_slice HO393.out; subst eo119) | ((with_reducible refine gate_callee (f := 5) rfl ?_); refine goesL_ (some 67) rfl rfl Try.func5 (by kernel_rfl) rfl #[.agg #[.int .i64 t390, .slice Ao119 t391.length co119], .int .i64 t369] rfl aE ?_; (with_reducible refine (impl_RunClock.calls kj5 t390 _ _ t391 t369 t399 t400 t403 false _ ?side1 ?side2 A30.out).mono ?_); (case side1 => refine (Kd.R_reads' (e := 47) (base := w.heap.size) (ok := fun k_ => (((True ∧ some k_ ≠ (.slice Ao10 t366.length co10 : Value).ownBlock) ∧ some k_ ≠ (.slice Ao15 t372.length co15 : Value).ownBlock) ∧ some k_ ≠ (.slice Ao22 t381.length co22 : Value).ownBlock)) (n := t391.length) (c := co119) ?_).2.2; exact (rU (Kd.R_mono (Kd.R_far (p := ⟨gb398, 1, none⟩) (Kd.R_far (p := ⟨gb398, 0, none⟩) (Kd.R_types HO393.out BK398.out (by decide)) (fun _ hk => hk.2) (.int .i64 t390)) (fun _ hk => hk.2) (.slice Ao119 t391.length co119)) (fun _ h_ => h_.1)))); (case side2 => exact (Kd.R_reads' HO393.out).2.1); rintro e w120 ⟨v401, v404, rfl, ho0, ho1, hb⟩; refine ⟨_, rfl, ?_⟩; have HO402 := Aside0.mk (Kd.R_lower (Kd.R_new' (Kd.R_new' (Kd.R_new' (Kd.R_new' ho0 (Kd.R_lt (rU (Kd.R_mono (Kd.R_far (p := ⟨gb398, 1, none⟩) (Kd.R_far (p := ⟨gb398, 0, none⟩) (Kd.R_types HO_371001.out BK398.out (by decide)) (fun _ hk => hk.2) (.int .i64 t390)) (fun _ hk => hk.2) (.slice Ao119 t391.length co119)) (fun _ h_ => h_.1))))) (Kd.R_lt (rU (Kd.R_mono (Kd.R_far (p := ⟨gb398, 1, none⟩) (Kd.R_far (p := ⟨gb398, 0, none⟩) (Kd.R_types HO_380001.out BK398.out (by decide)) (fun _ hk => hk.2) (.int .i64 t390)) (fun _ hk => hk.2) (.slice Ao119 t391.length co119)) (fun _ h_ => h_.1))))) (Kd.R_lt (rU (Kd.R_mono (Kd.R_far (p := ⟨gb398, 1, none⟩) (Kd.R_far (p := ⟨gb398, 0, none⟩) (Kd.R_types HO_389001.out BK398.out (by decide)) (fun _ hk => hk.2) (.int .i64 t390)) (fun _ hk => hk.2) (.slice Ao119 t391.length co119)) (fun _ h_ => h_.1))))) (Kd.R_lt (rU (Kd.R_mono (Kd.R_far (p := ⟨gb398, 1, none⟩) (Kd.R_far (p := ⟨gb398, 0, none⟩) (Kd.R_types HO393.out BK398.out (by decide)) (fun _ hk => hk.2) (.int .i64 t390)) (fun _ hk => hk.2) (.slice Ao119 t391.length co119)) (fun _ h_ => h_.1))))) (below_size (lV4 GE370 GE379 GE388 GE398))); replace HO_371001 := Aside0.mk (Kd.R_elder' (rU (Kd.R_mono (Kd.R_far (p := ⟨gb398, 1, none⟩) (Kd.R_far (p := ⟨gb398, 0, none⟩) (Kd.R_types HO_371001.out BK398.out (by decide)) (fun _ hk => hk.2) (.int .i64 t390)) (fun _ hk => hk.2) (.slice Ao119 t391.length co119)) (fun _ h_ => h_.1))) (Kd.R_base ho0) hb); replace HO_380001 := Aside0.mk (Kd.R_elder' (rU (Kd.R_mono (Kd.R_far (p := ⟨gb398, 1, none⟩) (Kd.R_far (p := ⟨gb398, 0, none⟩) (Kd.R_types HO_380001.out BK398.out (by decide)) (fun _ hk => hk.2) (.int .i64 t390)) (fun _ hk => hk.2) (.slice Ao119 t391.length co119)) (fun _ h_ => h_.1))) (Kd.R_base ho0) hb); replace HO_389001 := Aside0.mk (Kd.R_elder' (rU (Kd.R_mono (Kd.R_far (p := ⟨gb398, 1, none⟩) (Kd.R_far (p := ⟨gb398, 0, none⟩) (Kd.R_types HO_389001.out BK398.out (by decide)) (fun _ hk => hk.2) (.int .i64 t390)) (fun _ hk => hk.2) (.slice Ao119 t391.length co119)) (fun _ h_ => h_.1))) (Kd.R_base ho0) hb); replace HO393 := Aside0.mk (Kd.R_elder' (rU (Kd.R_mono (Kd.R_far (p := ⟨gb398, 1, none⟩) (Kd.R_far (p := ⟨gb398, 0, none⟩) (Kd.R_types HO393.out BK398.out (by decide)) (fun _ hk => hk.2) (.int .i64 t390)) (fun _ hk => hk.2) (.slice Ao119 t391.length co119)) (fun _ h_ => h_.1))) (Kd.R_base ho0) hb); have HO405 := Aside0.mk (Kd.R_lower (Kd.R_new' (Kd.R_new' ho1 (Kd.R_lt (rU (Kd.R_mono (Kd.R_far (p := ⟨gb398, 1, none⟩) (Kd.R_far (p := ⟨gb398, 0, none⟩) (Kd.R_types HO_6.out BK398.out (by decide)) (fun _ hk => hk.2) (.int .i64 t390)) (fun _ hk => hk.2) (.slice Ao119 t391.length co119)) (fun _ h_ => h_.1))))) (Kd.R_lt (rU (Kd.R_mono (Kd.R_far (p := ⟨gb398, 1, none⟩) (Kd.R_far (p := ⟨gb398, 0, none⟩) (Kd.R_types HO396.out BK398.out (by decide)) (fun _ hk => hk.2) (.int .i64 t390)) (fun _ hk => hk.2) (.slice Ao119 t391.length co119)) (fun _ h_ => h_.1))))) (below_size (lV4 GE370 GE379 GE388 GE398))); replace HO_6 := Aside0.mk (Kd.R_elder' (rU (Kd.R_mono (Kd.R_far (p := ⟨gb398, 1, none⟩) (Kd.R_far (p := ⟨gb398, 0, none⟩) (Kd.R_types HO_6.out BK398.out (by decide)) (fun _ hk => hk.2) (.int .i64 t390)) (fun _ hk => hk.2) (.slice Ao119 t391.length co119)) (fun _ h_ => h_.1))) (Kd.R_base ho1) hb); replace HO396 := Aside0.mk (Kd.R_elder' (rU (Kd.R_mono (Kd.R_far (p := ⟨gb398, 1, none⟩) (Kd.R_far (p := ⟨gb398, 0, none⟩) (Kd.R_types HO396.out BK398.out (by decide)) (fun _ hk => hk.2) (.int .i64 t390)) (fun _ hk => hk.2) (.slice Ao119 t391.length co119)) (fun _ h_ => h_.1))) (Kd.R_base ho1) hb); replace BK370 := bB (bG NB370_398 BK370) hb; replace BK379 := bB (bG NB379_398 BK379) hb; replace BK388 := bB (bG NB388_398 BK388) hb; replace BK398 := Aside0.mk (blk_below (g := gb398) (o := .cells #[.int .i64 t390, .slice Ao119 t391.length co119] 25 (0, 0)) (by refine bU ?_; refine blk_put (cs := #[.int .i64 t390, .slice none 0 0]) ?_ 1 _ rfl; refine bU ?_; refine blk_put (cs := #[.int .i64 0, .slice none 0 0]) ?_ 0 _ rfl; refine bU ?_; exact BK398.out) hb); replace HB := bH (lV4 GE370 GE379 GE388 GE398) hb; (try clear hb); (try clear ho0); (try clear ho1)) | ((with_reducible refine gate_dst (N := 14) rfl ?_); (try (refine gate_guard (by rfl) ?_; dsimp only)); refine box_event rfl (N := 14) rfl (cs := #[.int .i64 0, .slice none 0 0]) (t := 25) sE ?_; intro gb407 hg w121 hbox hb; replace HO_6 := Aside0.mk (Kd.R_below (rU HO_6.out) hb); replace HO_371001 := Aside0.mk (Kd.R_below (rU HO_371001.out) hb); replace HO_380001 := Aside0.mk (Kd.R_below (rU HO_380001.out) hb); replace HO_389001 := Aside0.mk (Kd.R_below (rU HO_389001.out) hb); replace HO393 := Aside0.mk (Kd.R_below (rU HO393.out) hb); replace HO396 := Aside0.mk (Kd.R_below (rU HO396.out) hb); replace HO402 := Aside0.mk (Kd.R_below (rU HO402.out) hb); replace HO405 := Aside0.mk (Kd.R_below (rU HO405.out) hb); have BK407 := Aside0.mk hbox; have GW407 := gS w hg (lV4 GE370 GE379 GE388 GE398); have GE407 := gS w hg (lV4 GE370 GE379 GE388 GE398); replace HB := bH (lV4 GE370 GE379 GE388 GE398) hb; have NB370_407 := nL hg (bV BK370); have NB407_370 := nG hg (bV BK370); replace BK370 := bB (bV BK370) hb; have NB379_407 := nL hg (bV BK379); have NB407_379 := nG hg (bV BK379); replace BK379 := bB (bV BK379) hb; have NB388_407 := nL hg (bV BK388); have NB407_388 := nG hg (bV BK388); replace BK388 := bB (bV BK388) hb; have NB398_407 := nL hg (bV BK398); have NB407_398 := nG hg (bV BK398); replace BK398 := bB (bV BK398) hb; clear hb hbox hg; have hnb122 := NB407_370.out; have hnc122 := NB370_407.out; have hnb123 := NB407_379.out; have hnc123 := NB379_407.out; have hnb124 := NB407_388.out; have hnc124 := NB388_407.out; have hnb125 := NB407_398.out; have hnc125 := NB398_407.out; have hcz126_0 := cz BK407 0 (.int .i64 0); have hcz126_1 := cz BK407 1 (.slice none 0 0); have hfz126_0 := fz BK407 0; have hfz126_1 := fz BK407 1; obtain ⟨Ao127, co127, eo127⟩ := Kd.R_slice HO402.out; subst eo127))
        go_ret
        exact ⟨eE, lV5 GE370 GE379 GE388 GE398 GE407⟩
      ·replace c31 := Bool.eq_false_iff.mpr c31
       subst c31
       have H1 : (some false) = some r := by rw [if_neg (show ¬ (false = true) by decide)] at H; exact H
       clear H
       have H := H1
       clear H1
       obtain rfl := Option.some.inj H
       have hnb128 := NB370_379.out
       have hnc128 := NB379_370.out
       have hnb129 := NB370_388.out
       have hnc129 := NB388_370.out
       have hcz130_0 := cz BK370 0 (.int .i64 t365)
       have hcz130_1 := cz BK370 1 (.slice Ao10 t366.length co10)
       have hfz130_0 := fz BK370 0
       have hfz130_1 := fz BK370 1
       go_wp2_with (first | ((with_reducible refine gate_callee (f := 5) rfl ?_); refine goesL_ (some 60) rfl rfl Try.func5 (by kernel_rfl) rfl #[.agg #[.int .i64 t365, .slice Ao10 t366.length co10], .int .i64 (wrap64 (t365 + (wrap64 (Int.tdiv (wrap64 (t369 - t365)) 2))))] rfl aE ?_; (with_reducible refine (impl_RunClock.calls kj5 t365 _ _ t366 (wrap64 (t365 + (wrap64 (Int.tdiv (wrap64 (t369 - t365)) 2)))) t390 t391 t394 false _ ?side1 ?side2 A29.out).mono ?_); (case side1 => exact cU (Kd.R_reads' HO_371001.out).2.2); (case side2 => exact (Kd.R_reads' HO_371001.out).2.1); rintro e w131 ⟨v392, v395, rfl, ho0, ho1, hb⟩; refine ⟨_, rfl, ?_⟩; have HO393 := Aside0.mk (Kd.R_lower (Kd.R_new' (Kd.R_new' (Kd.R_new' ho0 (Kd.R_lt (rU HO_371001.out))) (Kd.R_lt (rU HO_380001.out))) (Kd.R_lt (rU HO_389001.out))) (below_size (lV3 GE370 GE379 GE388))); replace HO_371001 := Aside0.mk (Kd.R_elder' (rU HO_371001.out) (Kd.R_base ho0) hb); replace HO_380001 := Aside0.mk (Kd.R_elder' (rU HO_380001.out) (Kd.R_base ho0) hb); replace HO_389001 := Aside0.mk (Kd.R_elder' (rU HO_389001.out) (Kd.R_base ho0) hb); have HO396 := Aside0.mk (Kd.R_lower (Kd.R_new' ho1 (Kd.R_lt (rU HO_6.out))) (below_size (lV3 GE370 GE379 GE388))); replace HO_6 := Aside0.mk (Kd.R_elder' (rU HO_6.out) (Kd.R_base ho1) hb); replace BK370 := bB (bV BK370) hb; replace BK379 := bB (bV BK379) hb; replace BK388 := bB (bV BK388) hb; replace HB := bH (lV3 GE370 GE379 GE388) hb; (try clear hb); (try clear ho0); (try clear ho1)) | ((with_reducible refine gate_dst (N := 11) rfl ?_); (try (refine gate_guard (by rfl) ?_; dsimp only)); refine box_event rfl (N := 11) rfl (cs := #[.int .i64 0, .slice none 0 0]) (t := 25) sE ?_; intro gb398 hg w132 hbox hb; replace HO_6 := Aside0.mk (Kd.R_below (rU HO_6.out) hb); replace HO_371001 := Aside0.mk (Kd.R_below (rU HO_371001.out) hb); replace HO_380001 := Aside0.mk (Kd.R_below (rU HO_380001.out) hb); replace HO_389001 := Aside0.mk (Kd.R_below (rU HO_389001.out) hb); replace HO393 := Aside0.mk (Kd.R_below (rU HO393.out) hb); replace HO396 := Aside0.mk (Kd.R_below (rU HO396.out) hb); have BK398 := Aside0.mk hbox; have GW398 := gS w hg (lV3 GE370 GE379 GE388); have GE398 := gS w hg (lV3 GE370 GE379 GE388); replace HB := bH (lV3 GE370 GE379 GE388) hb; have NB370_398 := nL hg (bV BK370); have NB398_370 := nG hg (bV BK370); replace BK370 := bB (bV BK370) hb; have NB379_398 := nL hg (bV BK379); have NB398_379 := nG hg (bV BK379); replace BK379 := bB (bV BK379) hb; have NB388_398 := nL hg (bV BK388); have NB398_388 := nG hg (bV BK388); replace BK388 := bB (bV BK388) hb; clear hb hbox hg; have hnb133 := NB398_370.out; have hnc133 := NB370_398.out; have hnb134 := NB398_379.out; have hnc134 := NB379_398.out; have hnb135 := NB398_388.out; have hnc135 := NB388_398.out; have hcz136_0 := cz BK398 0 (.int .i64 0); have hcz136_1 := cz BK398 1 (.slice none 0 0); have hfz136_0 := fz BK398 0; have hfz136_1 := fz BK398 1; obtain ⟨Ao137, co137, eo137⟩ := Kd.R_slice HO393.out; subst eo137) | ((with_reducible refine gate_callee (f := 5) rfl ?_); refine goesL_ (some 67) rfl rfl Try.func5 (by kernel_rfl) rfl #[.agg #[.int .i64 t390, .slice Ao137 t391.length co137], .int .i64 t369] rfl aE ?_; (with_reducible refine (impl_RunClock.calls kj5 t390 _ _ t391 t369 t399 t400 t403 t406 _ ?side1 ?side2 A30.out).mono ?_); (case side1 => refine (Kd.R_reads' (e := 47) (base := w.heap.size) (ok := fun k_ => (((True ∧ some k_ ≠ (.slice Ao10 t366.length co10 : Value).ownBlock) ∧ some k_ ≠ (.slice Ao15 t372.length co15 : Value).ownBlock) ∧ some k_ ≠ (.slice Ao22 t381.length co22 : Value).ownBlock)) (n := t391.length) (c := co137) ?_).2.2; exact (rU (Kd.R_mono (Kd.R_far (p := ⟨gb398, 1, none⟩) (Kd.R_far (p := ⟨gb398, 0, none⟩) (Kd.R_types HO393.out BK398.out (by decide)) (fun _ hk => hk.2) (.int .i64 t390)) (fun _ hk => hk.2) (.slice Ao137 t391.length co137)) (fun _ h_ => h_.1)))); (case side2 => exact (Kd.R_reads' HO393.out).2.1); rintro e w138 ⟨v401, v404, rfl, ho0, ho1, hb⟩; refine ⟨_, rfl, ?_⟩; have HO402 := Aside0.mk (Kd.R_lower (Kd.R_new' (Kd.R_new' (Kd.R_new' (Kd.R_new' ho0 (Kd.R_lt (rU (Kd.R_mono (Kd.R_far (p := ⟨gb398, 1, none⟩) (Kd.R_far (p := ⟨gb398, 0, none⟩) (Kd.R_types HO_371001.out BK398.out (by decide)) (fun _ hk => hk.2) (.int .i64 t390)) (fun _ hk => hk.2) (.slice Ao137 t391.length co137)) (fun _ h_ => h_.1))))) (Kd.R_lt (rU (Kd.R_mono (Kd.R_far (p := ⟨gb398, 1, none⟩) (Kd.R_far (p := ⟨gb398, 0, none⟩) (Kd.R_types HO_380001.out BK398.out (by decide)) (fun _ hk => hk.2) (.int .i64 t390)) (fun _ hk => hk.2) (.slice Ao137 t391.length co137)) (fun _ h_ => h_.1))))) (Kd.R_lt (rU (Kd.R_mono (Kd.R_far (p := ⟨gb398, 1, none⟩) (Kd.R_far (p := ⟨gb398, 0, none⟩) (Kd.R_types HO_389001.out BK398.out (by decide)) (fun _ hk => hk.2) (.int .i64 t390)) (fun _ hk => hk.2) (.slice Ao137 t391.length co137)) (fun _ h_ => h_.1))))) (Kd.R_lt (rU (Kd.R_mono (Kd.R_far (p := ⟨gb398, 1, none⟩) (Kd.R_far (p := ⟨gb398, 0, none⟩) (Kd.R_types HO393.out BK398.out (by decide)) (fun _ hk => hk.2) (.int .i64 t390)) (fun _ hk => hk.2) (.slice Ao137 t391.length co137)) (fun _ h_ => h_.1))))) (below_size (lV4 GE370 GE379 GE388 GE398))); replace HO_371001 := Aside0.mk (Kd.R_elder' (rU (Kd.R_mono (Kd.R_far (p := ⟨gb398, 1, none⟩) (Kd.R_far (p := ⟨gb398, 0, none⟩) (Kd.R_types HO_371001.out BK398.out (by decide)) (fun _ hk => hk.2) (.int .i64 t390)) (fun _ hk => hk.2) (.slice Ao137 t391.length co137)) (fun _ h_ => h_.1))) (Kd.R_base ho0) hb); replace HO_380001 := Aside0.mk (Kd.R_elder' (rU (Kd.R_mono (Kd.R_far (p := ⟨gb398, 1, none⟩) (Kd.R_far (p := ⟨gb398, 0, none⟩) (Kd.R_types HO_380001.out BK398.out (by decide)) (fun _ hk => hk.2) (.int .i64 t390)) (fun _ hk => hk.2) (.slice Ao137 t391.length co137)) (fun _ h_ => h_.1))) (Kd.R_base ho0) hb); replace HO_389001 := Aside0.mk (Kd.R_elder' (rU (Kd.R_mono (Kd.R_far (p := ⟨gb398, 1, none⟩) (Kd.R_far (p := ⟨gb398, 0, none⟩) (Kd.R_types HO_389001.out BK398.out (by decide)) (fun _ hk => hk.2) (.int .i64 t390)) (fun _ hk => hk.2) (.slice Ao137 t391.length co137)) (fun _ h_ => h_.1))) (Kd.R_base ho0) hb); replace HO393 := Aside0.mk (Kd.R_elder' (rU (Kd.R_mono (Kd.R_far (p := ⟨gb398, 1, none⟩) (Kd.R_far (p := ⟨gb398, 0, none⟩) (Kd.R_types HO393.out BK398.out (by decide)) (fun _ hk => hk.2) (.int .i64 t390)) (fun _ hk => hk.2) (.slice Ao137 t391.length co137)) (fun _ h_ => h_.1))) (Kd.R_base ho0) hb); have HO405 := Aside0.mk (Kd.R_lower (Kd.R_new' (Kd.R_new' ho1 (Kd.R_lt (rU (Kd.R_mono (Kd.R_far (p := ⟨gb398, 1, none⟩) (Kd.R_far (p := ⟨gb398, 0, none⟩) (Kd.R_types HO_6.out BK398.out (by decide)) (fun _ hk => hk.2) (.int .i64 t390)) (fun _ hk => hk.2) (.slice Ao137 t391.length co137)) (fun _ h_ => h_.1))))) (Kd.R_lt (rU (Kd.R_mono (Kd.R_far (p := ⟨gb398, 1, none⟩) (Kd.R_far (p := ⟨gb398, 0, none⟩) (Kd.R_types HO396.out BK398.out (by decide)) (fun _ hk => hk.2) (.int .i64 t390)) (fun _ hk => hk.2) (.slice Ao137 t391.length co137)) (fun _ h_ => h_.1))))) (below_size (lV4 GE370 GE379 GE388 GE398))); replace HO_6 := Aside0.mk (Kd.R_elder' (rU (Kd.R_mono (Kd.R_far (p := ⟨gb398, 1, none⟩) (Kd.R_far (p := ⟨gb398, 0, none⟩) (Kd.R_types HO_6.out BK398.out (by decide)) (fun _ hk => hk.2) (.int .i64 t390)) (fun _ hk => hk.2) (.slice Ao137 t391.length co137)) (fun _ h_ => h_.1))) (Kd.R_base ho1) hb); replace HO396 := Aside0.mk (Kd.R_elder' (rU (Kd.R_mono (Kd.R_far (p := ⟨gb398, 1, none⟩) (Kd.R_far (p := ⟨gb398, 0, none⟩) (Kd.R_types HO396.out BK398.out (by decide)) (fun _ hk => hk.2) (.int .i64 t390)) (fun _ hk => hk.2) (.slice Ao137 t391.length co137)) (fun _ h_ => h_.1))) (Kd.R_base ho1) hb); replace BK370 := bB (bG NB370_398 BK370) hb; replace BK379 := bB (bG NB379_398 BK379) hb; replace BK388 := bB (bG NB388_398 BK388) hb; replace BK398 := Aside0.mk (blk_below (g := gb398) (o := .cells #[.int .i64 t390, .slice Ao137 t391.length co137] 25 (0, 0)) (by refine bU ?_; refine blk_put (cs := #[.int .i64 t390, .slice none 0 0]) ?_ 1 _ rfl; refine bU ?_; refine blk_put (cs := #[.int .i64 0, .slice none 0 0]) ?_ 0 _ rfl; refine bU ?_; exact BK398.out) hb); replace HB := bH (lV4 GE370 GE379 GE388 GE398) hb; (try clear hb); (try clear ho0); (try clear ho1)) | ((with_reducible refine gate_dst (N := 14) rfl ?_); (try (refine gate_guard (by rfl) ?_; dsimp only)); refine box_event rfl (N := 14) rfl (cs := #[.int .i64 0, .slice none 0 0]) (t := 25) sE ?_; intro gb407 hg w139 hbox hb; replace HO_6 := Aside0.mk (Kd.R_below (rU HO_6.out) hb); replace HO_371001 := Aside0.mk (Kd.R_below (rU HO_371001.out) hb); replace HO_380001 := Aside0.mk (Kd.R_below (rU HO_380001.out) hb); replace HO_389001 := Aside0.mk (Kd.R_below (rU HO_389001.out) hb); replace HO393 := Aside0.mk (Kd.R_below (rU HO393.out) hb); replace HO396 := Aside0.mk (Kd.R_below (rU HO396.out) hb); replace HO402 := Aside0.mk (Kd.R_below (rU HO402.out) hb); replace HO405 := Aside0.mk (Kd.R_below (rU HO405.out) hb); have BK407 := Aside0.mk hbox; have GW407 := gS w hg (lV4 GE370 GE379 GE388 GE398); have GE407 := gS w hg (lV4 GE370 GE379 GE388 GE398); replace HB := bH (lV4 GE370 GE379 GE388 GE398) hb; have NB370_407 := nL hg (bV BK370); have NB407_370 := nG hg (bV BK370); replace BK370 := bB (bV BK370) hb; have NB379_407 := nL hg (bV BK379); have NB407_379 := nG hg (bV BK379); replace BK379 := bB (bV BK379) hb; have NB388_407 := nL hg (bV BK388); have NB407_388 := nG hg (bV BK388); replace BK388 := bB (bV BK388) hb; have NB398_407 := nL hg (bV BK398); have NB407_398 := nG hg (bV BK398); replace BK398 := bB (bV BK398) hb; clear hb hbox hg; have hnb140 := NB407_370.out; have hnc140 := NB370_407.out; have hnb141 := NB407_379.out; have hnc141 := NB379_407.out; have hnb142 := NB407_388.out; have hnc142 := NB388_407.out; have hnb143 := NB407_398.out; have hnc143 := NB398_407.out; have hcz144_0 := cz BK407 0 (.int .i64 0); have hcz144_1 := cz BK407 1 (.slice none 0 0); have hfz144_0 := fz BK407 0; have hfz144_1 := fz BK407 1; obtain ⟨Ao145, co145, eo145⟩ := Kd.R_slice HO402.out; subst eo145))
       go_ret
       exact ⟨eE, lV5 GE370 GE379 GE388 GE398 GE407⟩
     ·replace c28 := Bool.eq_false_iff.mpr c28
      subst c28
      have H1 : (some true) = some r := by rw [if_neg (show ¬ (false = true) by decide)] at H; exact H
      clear H
      have H := H1
      clear H1
      obtain rfl := Option.some.inj H
      go_wp2
      go_ret
      exact ⟨eE, lV3 GE370 GE379 GE388⟩
def laws_FnPieces.Pure : Prop := ∀ (l0 : List Int), l0.length ≤ maxLen → l0.length * 1 ≤ 140737488351232 → (∀ x ∈ l0, (Lit.int .u8 x).wf = true) → ∃ k, laws_FnPieces.f k l0 = some true
end Go.Proofs.Ythacmchmppnldaa.PFnPieces
