/- Texts of the row of the law FnExactAddTimer, laid together. -/
import Derived.Test.YtjmcahjcgfflgaaZFnExactAddTimer3
import Derived.Test.YtjmcahjcgfflgaaZFnExactAddTimer4
import Derived.Test.YtjmcahjcgfflgaaZFnExactAddTimer5
import Derived.Test.YtjmcahjcgfflgaaZFnExactAddTimer0
import Derived.SizedLaws
import Derived.ChangeArms
import Derived.OpenShut
import Derived.WideShapes
import Derived.WalkKit
import Derived.KernelRfl
import Derived.Laws.BitsLemmas
namespace Go.Proofs.Ytjmcahjcgfflgaa.PFnExactAddTimer
open Go.RowKit Go.Proofs.YtjmcahjcgfflgaaW.PrintWords Go.Proofs.YtjmcahjcgfflgaaW.PrintLast Go.Proofs.YtjmcahjcgfflgaaW.PrintMore
attribute [local go_sem] max2_int min2_int max_two min_two max_three min_three max_four min_four   -- for this text's walks alone
set_option linter.unusedVariables false
set_option linter.unusedSimpArgs false
mutual
def laws_FnExactAddTimer.j0 : Nat → Bool → Bool → Bool → Int → List (S26) → Int → Int → Int → Int → Int → List (S34) → Int → List (S34) → Int → List (S34) → Option (Bool)
 | 0, _, _, _, _, _, _, _, _, _, _, _, _, _, _, _ => none
 | k + 1, x7, x10, x46, x217000, x217001, x218000, x218001, x218002, x218003, x233000, x233001, x238000, x238001, x248000, x248001 => if x46 = true then (some false) else ((laws_toClock.f k x217000 x217001).bind fun bt249 => ((laws_eqClock.f k x238000 x238001 bt249.1 bt249.2).bind fun t253 => (if t253 = true then ((laws_markClock.f k x238000 x238001 1).bind fun bt254 => (if bt254.1 < 0 then (laws_FnExactAddTimer.j1 k x7 true x217000 x217001 x218000 x218001 x218002 x218003 x233000 x233001 x248000 x248001) else ((laws_eqClock.f k x248000 x248001 x233000 x233001).bind fun t256 => (if t256 = true then (laws_FnExactAddTimer.j1 k x7 (x10 != x7) x217000 x217001 x218000 x218001 x218002 x218003 x233000 x233001 x248000 x248001) else (laws_FnExactAddTimer.j1 k x7 true x217000 x217001 x218000 x218001 x218002 x218003 x233000 x233001 x248000 x248001))))) else (some false))))
def laws_FnExactAddTimer.j1 : Nat → Bool → Bool → Int → List (S26) → Int → Int → Int → Int → Int → List (S34) → Int → List (S34) → Option (Bool)
 | 0, _, _, _, _, _, _, _, _, _, _, _, _ => none
 | k + 1, x7, x67, x217000, x217001, x218000, x218001, x218002, x218003, x233000, x233001, x248000, x248001 => if x67 = true then (some false) else ((laws_markClock.f k x248000 x248001 1).bind fun bt257 => ((laws_heldClock.f k x248000 bt257.2 1).bind fun t259 => (if t259 < 0 then (some false) else (if t259 = bt257.1 then ((laws_toClock.f k x217000 x217001).bind fun bt260 => ((laws_toTimer.f x218000 x218001 x218002 x218003).bind fun bt264 => ((impl_AddTimer.f k bt260.1 bt260.2 bt264.1 bt264.2.1 bt264.2.2.1 bt264.2.2.2).bind fun bt268 => ((laws_eqClock.f k bt268.1 bt268.2.1 x233000 x233001).bind fun t274 => (if t274 = true then (laws_FnExactAddTimer.j2 k bt257.1 (bt268.2.2 != x7) x248000 bt257.2) else (laws_FnExactAddTimer.j2 k bt257.1 true x248000 bt257.2)))))) else (some false)))))
def laws_FnExactAddTimer.j2 : Nat → Int → Bool → Int → List (S34) → Option (Bool)
 | 0, _, _, _, _ => none
 | k + 1, x12, x95, x248000, x248001 => if x95 = true then (some false) else ((laws_heldClock.f k x248000 x248001 1).bind fun t275 => (if t275 < 0 then (some false) else (if t275 = x12 then (some true) else (some false))))
end
def laws_FnExactAddTimer.f (k : Nat) (a0_0 : Int) (l0_1 : List (S26)) (a1_0 : Int) (a1_1 : Int) (a1_2 : Int) (a1_3 : Int) : Option (Bool) := (laws_szClock.f a0_0 l0_1 1048576).bind fun t218 => (if t218 < 0 then (some true) else ((laws_toClock.f k a0_0 l0_1).bind fun bt219 => ((laws_toTimer.f a1_0 a1_1 a1_2 a1_3).bind fun bt223 => ((spec_AddTimer.f k bt219.1 bt219.2 bt223.1 bt223.2.1 bt223.2.2.1 bt223.2.2.2).bind fun bt227 => ((laws_toClock.f k a0_0 l0_1).bind fun bt233 => ((laws_toTimer.f a1_0 a1_1 a1_2 a1_3).bind fun bt238 => ((impl_AddTimer.f k bt233.1 bt233.2 bt238.1 bt238.2.1 bt238.2.2.1 bt238.2.2.2).bind fun bt242 => ((laws_eqClock.f k bt242.1 bt242.2.1 bt227.1 bt227.2.1).bind fun t248 => (if t248 = true then (laws_FnExactAddTimer.j0 k bt227.2.2 bt242.2.2 (bt242.2.2 != bt227.2.2) a0_0 l0_1 a1_0 a1_1 a1_2 a1_3 bt227.1 bt227.2.1 bt233.1 bt233.2 bt242.1 bt242.2.1) else (laws_FnExactAddTimer.j0 k bt227.2.2 bt242.2.2 true a0_0 l0_1 a1_0 a1_1 a1_2 a1_3 bt227.1 bt227.2.1 bt233.1 bt233.2 bt242.1 bt242.2.1))))))))))
theorem laws_FnExactAddTimer.mono_l : ∀ k, (∀ y0 y1 y2 y3 y4 y5 y6 y7 y8 y9 y10 y11 y12 y13 y14, LeO (laws_FnExactAddTimer.j0 k y0 y1 y2 y3 y4 y5 y6 y7 y8 y9 y10 y11 y12 y13 y14) (laws_FnExactAddTimer.j0 (k + 1) y0 y1 y2 y3 y4 y5 y6 y7 y8 y9 y10 y11 y12 y13 y14)) ∧ (∀ y0 y1 y2 y3 y4 y5 y6 y7 y8 y9 y10 y11, LeO (laws_FnExactAddTimer.j1 k y0 y1 y2 y3 y4 y5 y6 y7 y8 y9 y10 y11) (laws_FnExactAddTimer.j1 (k + 1) y0 y1 y2 y3 y4 y5 y6 y7 y8 y9 y10 y11)) ∧ (∀ y0 y1 y2 y3, LeO (laws_FnExactAddTimer.j2 k y0 y1 y2 y3) (laws_FnExactAddTimer.j2 (k + 1) y0 y1 y2 y3))
 | 0 => ⟨fun _ _ _ _ _ _ _ _ _ _ _ _ _ _ _ r h => by simp [laws_FnExactAddTimer.j0] at h, fun _ _ _ _ _ _ _ _ _ _ _ _ r h => by simp [laws_FnExactAddTimer.j1] at h, fun _ _ _ _ r h => by simp [laws_FnExactAddTimer.j2] at h⟩
 | k + 1 => by
  obtain ⟨ih0, ih1, ih2⟩ := laws_FnExactAddTimer.mono_l k
  refine ⟨?_, ?_, ?_⟩
  ·intro y0 y1 y2 y3 y4 y5 y6 y7 y8 y9 y10 y11 y12 y13 y14
   unfold laws_FnExactAddTimer.j0
   repeat' first
   | (with_reducible exact ih0 _ _ _ _ _ _ _ _ _ _ _ _ _ _ _)
   | (with_reducible exact ih1 _ _ _ _ _ _ _ _ _ _ _ _)
   | (with_reducible exact ih2 _ _ _ _)
   | (with_reducible exact impl_AddTimer.mono _ _ _ _ _ _ _)
   | (with_reducible exact laws_eqClock.mono _ _ _ _ _)
   | (with_reducible exact laws_heldClock.mono _ _ _ _)
   | (with_reducible exact laws_markClock.mono _ _ _ _)
   | (with_reducible exact laws_toClock.mono _ _ _)
   | (with_reducible exact spec_AddTimer.mono _ _ _ _ _ _ _)
   | (with_reducible exact LeO.refl _)
   | (with_reducible exact LeO.none _)
   | (with_reducible refine LeO.ite ?_ ?_)
   | (with_reducible refine LeO.bind ?_ (fun _ => ?_))
   | exact ih0 _ _ _ _ _ _ _ _ _ _ _ _ _ _ _
   | exact ih1 _ _ _ _ _ _ _ _ _ _ _ _
   | exact ih2 _ _ _ _
   | exact impl_AddTimer.mono _ _ _ _ _ _ _
   | exact laws_eqClock.mono _ _ _ _ _
   | exact laws_heldClock.mono _ _ _ _
   | exact laws_markClock.mono _ _ _ _
   | exact laws_toClock.mono _ _ _
   | exact spec_AddTimer.mono _ _ _ _ _ _ _
   | exact LeO.none _
   | refine LeO.ite ?_ ?_
   | refine LeO.bind ?_ (fun _ => ?_)
  ·intro y0 y1 y2 y3 y4 y5 y6 y7 y8 y9 y10 y11
   unfold laws_FnExactAddTimer.j1
   repeat' first
   | (with_reducible exact ih0 _ _ _ _ _ _ _ _ _ _ _ _ _ _ _)
   | (with_reducible exact ih1 _ _ _ _ _ _ _ _ _ _ _ _)
   | (with_reducible exact ih2 _ _ _ _)
   | (with_reducible exact impl_AddTimer.mono _ _ _ _ _ _ _)
   | (with_reducible exact laws_eqClock.mono _ _ _ _ _)
   | (with_reducible exact laws_heldClock.mono _ _ _ _)
   | (with_reducible exact laws_markClock.mono _ _ _ _)
   | (with_reducible exact laws_toClock.mono _ _ _)
   | (with_reducible exact spec_AddTimer.mono _ _ _ _ _ _ _)
   | (with_reducible exact LeO.refl _)
   | (with_reducible exact LeO.none _)
   | (with_reducible refine LeO.ite ?_ ?_)
   | (with_reducible refine LeO.bind ?_ (fun _ => ?_))
   | exact ih0 _ _ _ _ _ _ _ _ _ _ _ _ _ _ _
   | exact ih1 _ _ _ _ _ _ _ _ _ _ _ _
   | exact ih2 _ _ _ _
   | exact impl_AddTimer.mono _ _ _ _ _ _ _
   | exact laws_eqClock.mono _ _ _ _ _
   | exact laws_heldClock.mono _ _ _ _
   | exact laws_markClock.mono _ _ _ _
   | exact laws_toClock.mono _ _ _
   | exact spec_AddTimer.mono _ _ _ _ _ _ _
   | exact LeO.none _
   | refine LeO.ite ?_ ?_
   | refine LeO.bind ?_ (fun _ => ?_)
  ·intro y0 y1 y2 y3
   unfold laws_FnExactAddTimer.j2
   repeat' first
   | (with_reducible exact ih0 _ _ _ _ _ _ _ _ _ _ _ _ _ _ _)
   | (with_reducible exact ih1 _ _ _ _ _ _ _ _ _ _ _ _)
   | (with_reducible exact ih2 _ _ _ _)
   | (with_reducible exact impl_AddTimer.mono _ _ _ _ _ _ _)
   | (with_reducible exact laws_eqClock.mono _ _ _ _ _)
   | (with_reducible exact laws_heldClock.mono _ _ _ _)
   | (with_reducible exact laws_markClock.mono _ _ _ _)
   | (with_reducible exact laws_toClock.mono _ _ _)
   | (with_reducible exact spec_AddTimer.mono _ _ _ _ _ _ _)
   | (with_reducible exact LeO.refl _)
   | (with_reducible exact LeO.none _)
   | (with_reducible refine LeO.ite ?_ ?_)
   | (with_reducible refine LeO.bind ?_ (fun _ => ?_))
   | exact ih0 _ _ _ _ _ _ _ _ _ _ _ _ _ _ _
   | exact ih1 _ _ _ _ _ _ _ _ _ _ _ _
   | exact ih2 _ _ _ _
   | exact impl_AddTimer.mono _ _ _ _ _ _ _
   | exact laws_eqClock.mono _ _ _ _ _
   | exact laws_heldClock.mono _ _ _ _
   | exact laws_markClock.mono _ _ _ _
   | exact laws_toClock.mono _ _ _
   | exact spec_AddTimer.mono _ _ _ _ _ _ _
   | exact LeO.none _
   | refine LeO.ite ?_ ?_
   | refine LeO.bind ?_ (fun _ => ?_)
theorem laws_FnExactAddTimer.mono : ∀ a0 a1 a2 a3 a4 a5 k, LeO (laws_FnExactAddTimer.f k a0 a1 a2 a3 a4 a5) (laws_FnExactAddTimer.f (k + 1) a0 a1 a2 a3 a4 a5) := by
 intro a0 a1 a2 a3 a4 a5 k
 obtain ⟨ih0, ih1, ih2⟩ := laws_FnExactAddTimer.mono_l k
 unfold laws_FnExactAddTimer.f
 repeat' first
   | (with_reducible exact ih0 _ _ _ _ _ _ _ _ _ _ _ _ _ _ _)
   | (with_reducible exact ih1 _ _ _ _ _ _ _ _ _ _ _ _)
   | (with_reducible exact ih2 _ _ _ _)
   | (with_reducible exact impl_AddTimer.mono _ _ _ _ _ _ _)
   | (with_reducible exact laws_eqClock.mono _ _ _ _ _)
   | (with_reducible exact laws_heldClock.mono _ _ _ _)
   | (with_reducible exact laws_markClock.mono _ _ _ _)
   | (with_reducible exact laws_toClock.mono _ _ _)
   | (with_reducible exact spec_AddTimer.mono _ _ _ _ _ _ _)
   | (with_reducible exact LeO.refl _)
   | (with_reducible exact LeO.none _)
   | (with_reducible refine LeO.ite ?_ ?_)
   | (with_reducible refine LeO.bind ?_ (fun _ => ?_))
   | exact ih0 _ _ _ _ _ _ _ _ _ _ _ _ _ _ _
   | exact ih1 _ _ _ _ _ _ _ _ _ _ _ _
   | exact ih2 _ _ _ _
   | exact impl_AddTimer.mono _ _ _ _ _ _ _
   | exact laws_eqClock.mono _ _ _ _ _
   | exact laws_heldClock.mono _ _ _ _
   | exact laws_markClock.mono _ _ _ _
   | exact laws_toClock.mono _ _ _
   | exact spec_AddTimer.mono _ _ _ _ _ _ _
   | exact LeO.none _
   | refine LeO.ite ?_ ?_
   | refine LeO.bind ?_ (fun _ => ?_)
def laws_FnExactAddTimer.T5 : Bool × List (List Nat × List Nat) := (true, [([], []), ([0], [0]), ([], []), ([2, 1], [2]), ([1, 3, 3], [1, 3]), ([4], [4]), ([5], [5]), ([5], [5]), ([], []), ([8, 6, 4, 0, 1, 2, 3, 4, 5, 6, 8], [6, 8]), ([7, 9, 0, 1, 2, 3, 4, 5, 6, 7, 8, 9], [7])])
def laws_FnExactAddTimer.B5 : List Nat := [0, 1, 0, 7, 15, 31, 63, 63, 0, 383, 1023]
theorem laws_FnExactAddTimer.tab5 : rtab .any (opsOf Try.f3 5) = laws_FnExactAddTimer.T5 := by kernel_rfl
theorem laws_FnExactAddTimer.bits5 : waitsOk laws_FnExactAddTimer.T5.2 laws_FnExactAddTimer.B5 = true := by kernel_rfl
def laws_FnExactAddTimer.T7 : Bool × List (List Nat × List Nat) := (true, [([], []), ([], []), ([1], [1]), ([0, 2, 2], [0, 2]), ([3], [3]), ([4], [4]), ([4], [4]), ([], []), ([7, 5, 3, 0, 1, 2, 3, 4, 5, 7], [5, 7]), ([6, 8, 0, 1, 2, 3, 4, 5, 6, 7, 8], [6])])
def laws_FnExactAddTimer.B7 : List Nat := [0, 0, 2, 7, 15, 31, 31, 0, 191, 511]
theorem laws_FnExactAddTimer.tab7 : rtab .any (opsOf Try.f3 7) = laws_FnExactAddTimer.T7 := by kernel_rfl
theorem laws_FnExactAddTimer.bits7 : waitsOk laws_FnExactAddTimer.T7.2 laws_FnExactAddTimer.B7 = true := by kernel_rfl
def laws_FnExactAddTimer.T24 : Bool × List (List Nat × List Nat) := (true, [([], []), ([0], [0]), ([], []), ([2, 1], [2]), ([1, 3, 3], [1, 3]), ([4], [4]), ([5], [5]), ([5], [5]), ([], []), ([8, 6, 4, 0, 1, 2, 3, 4, 5, 6, 8], [6, 8]), ([7, 9, 0, 1, 2, 3, 4, 5, 6, 7, 8, 9], [7])])
def laws_FnExactAddTimer.B24 : List Nat := [0, 1, 0, 7, 15, 31, 63, 63, 0, 383, 1023]
theorem laws_FnExactAddTimer.tab24 : rtab .any (opsOf Try.f3 24) = laws_FnExactAddTimer.T24 := by kernel_rfl
theorem laws_FnExactAddTimer.bits24 : waitsOk laws_FnExactAddTimer.T24.2 laws_FnExactAddTimer.B24 = true := by kernel_rfl
set_option maxHeartbeats 8000000 in
set_option maxRecDepth 100000 in
theorem laws_FnExactAddTimer.calls (k : Nat) (a0_0 : Int) (A0_1 : Option Addr) (c0_1 : Nat) (l0_1 : List (S26)) (a1_0 : Int) (a1_1 : Int) (a1_2 : Int) (a1_3 : Int) (r : Bool) (w : World) (hr0_1 : Kd.C k26 w A0_1 l0_1.length l0_1) (hc0_1 : l0_1.length ≤ c0_1) (h : laws_FnExactAddTimer.f k a0_0 l0_1 a1_0 a1_1 a1_2 a1_3 = some r) :
  Calls Try.prog 3 #[.agg #[.int .i64 a0_0, .slice A0_1 l0_1.length c0_1], .agg #[.int .i64 a1_0, .int .i64 a1_1, .int .i64 a1_2, .int .i64 a1_3]] w fun e w' => e = .returned (.bool r) ∧ Below w.heap.size w w' := by
 have hu24 := Try.underlying24
 have hu26 := Try.underlying26
 have hu30 := Try.underlying30
 have HR0_1 := Aside0.mk hr0_1
 have HC0_1 := Aside0.mk hc0_1
 clear hr0_1 hc0_1
 have HB := Aside0.mk (Below.refl w.heap.size w)
 have H : ((laws_szClock.f a0_0 l0_1 1048576).bind fun t218 => (if t218 < 0 then (some true) else ((laws_toClock.f k a0_0 l0_1).bind fun bt219 => ((laws_toTimer.f a1_0 a1_1 a1_2 a1_3).bind fun bt223 => ((spec_AddTimer.f k bt219.1 bt219.2 bt223.1 bt223.2.1 bt223.2.2.1 bt223.2.2.2).bind fun bt227 => ((laws_toClock.f k a0_0 l0_1).bind fun bt233 => ((laws_toTimer.f a1_0 a1_1 a1_2 a1_3).bind fun bt238 => ((impl_AddTimer.f k bt233.1 bt233.2 bt238.1 bt238.2.1 bt238.2.2.1 bt238.2.2.2).bind fun bt242 => ((laws_eqClock.f k bt242.1 bt242.2.1 bt227.1 bt227.2.1).bind fun t248 => (if t248 = true then (laws_FnExactAddTimer.j0 k bt227.2.2 bt242.2.2 (bt242.2.2 != bt227.2.2) a0_0 l0_1 a1_0 a1_1 a1_2 a1_3 bt227.1 bt227.2.1 bt233.1 bt233.2 bt242.1 bt242.2.1) else (laws_FnExactAddTimer.j0 k bt227.2.2 bt242.2.2 true a0_0 l0_1 a1_0 a1_1 a1_2 a1_3 bt227.1 bt227.2.1 bt233.1 bt233.2 bt242.1 bt242.2.1))))))))))) = some r := h
 clear h
 replace H := Option.bind_eq_some_iff.mp H
 obtain ⟨t218, A30, H⟩ := H
 replace H : (if t218 < 0 then (some true) else ((laws_toClock.f k a0_0 l0_1).bind fun bt219 => ((laws_toTimer.f a1_0 a1_1 a1_2 a1_3).bind fun bt223 => ((spec_AddTimer.f k bt219.1 bt219.2 bt223.1 bt223.2.1 bt223.2.2.1 bt223.2.2.2).bind fun bt227 => ((laws_toClock.f k a0_0 l0_1).bind fun bt233 => ((laws_toTimer.f a1_0 a1_1 a1_2 a1_3).bind fun bt238 => ((impl_AddTimer.f k bt233.1 bt233.2 bt238.1 bt238.2.1 bt238.2.2.1 bt238.2.2.2).bind fun bt242 => ((laws_eqClock.f k bt242.1 bt242.2.1 bt227.1 bt227.2.1).bind fun t248 => (if t248 = true then (laws_FnExactAddTimer.j0 k bt227.2.2 bt242.2.2 (bt242.2.2 != bt227.2.2) a0_0 l0_1 a1_0 a1_1 a1_2 a1_3 bt227.1 bt227.2.1 bt233.1 bt233.2 bt242.1 bt242.2.1) else (laws_FnExactAddTimer.j0 k bt227.2.2 bt242.2.2 true a0_0 l0_1 a1_0 a1_1 a1_2 a1_3 bt227.1 bt227.2.1 bt233.1 bt233.2 bt242.1 bt242.2.1)))))))))) = some r := H
 have A3 := Aside0.mk A30
 clear A30
 by_cases c4 : t218 < 0
 ·rw [if_pos c4] at H
  have c4b0 : decide (t218 < 0) = true := decide_eq_true c4
  clear c4
  obtain rfl := Option.some.inj H
  go_enter Try.func3, Try.ntmps3
  go_wp2_with (first | ((with_reducible refine gate_dst (N := 2) rfl ?_); refine box_event rfl (N := 2) rfl (cs := #[.int .i64 a0_0, .slice A0_1 l0_1.length c0_1]) (t := 24) sE ?_; intro gb216 hg w5 hbox hb; have BK216 := Aside0.mk hbox; have GW216 := gS w hg (lU); have GE216 := gS w hg (lU); replace HB := bH (lU) hb; clear hb hbox hg) | ((with_reducible refine gate_dst (N := 3) rfl ?_); refine box_event rfl (N := 3) rfl (cs := #[.int .i64 a1_0, .int .i64 a1_1, .int .i64 a1_2, .int .i64 a1_3]) (t := 26) sE ?_; intro gb217 hg w6 hbox hb; have BK217 := Aside0.mk hbox; have GW217 := gS w hg (lV1 GE216); have GE217 := gS w hg (lV1 GE216); replace HB := bH (lV1 GE216) hb; have NB216_217 := nL hg (bV BK216); have NB217_216 := nG hg (bV BK216); replace BK216 := bB (bV BK216) hb; clear hb hbox hg; have hnb7 := NB216_217.out; have hnc7 := NB217_216.out; have hcz8_0 := cz BK216 0 (.int .i64 a0_0); have hcz8_1 := cz BK216 1 (.slice A0_1 l0_1.length c0_1); have hfz8_0 := fz BK216 0; have hfz8_1 := fz BK216 1) | ((with_reducible refine gate_callee (f := 6) rfl ?_); refine goesL_ (some 18) rfl rfl Try.func6 (by kernel_rfl) rfl #[.agg #[.int .i64 a0_0, .slice A0_1 l0_1.length c0_1], .int .i64 1048576] rfl aE ?_; (with_reducible refine (laws_szClock.calls a0_0 _ _ l0_1 1048576 t218 _ ?side1 ?side2 A3.out).mono ?_); (case side1 => exact cU (Kd.C_below HR0_1.out HB.out)); (case side2 => exact HC0_1.out); rintro e w9 ⟨rfl, hb⟩; refine ⟨_, rfl, ?_⟩; replace BK216 := bB (bV BK216) hb; replace BK217 := bB (bV BK217) hb; replace HB := bH (lV2 GE216 GE217) hb; (try clear hb)))
  go_ret
  exact ⟨eE, lV2 GE216 GE217⟩
 ·rw [if_neg c4] at H
  have c4b0 : decide (t218 < 0) = false := decide_eq_false c4
  clear c4
  replace H := Option.bind_eq_some_iff.mp H
  obtain ⟨⟨t219, t220⟩, A100, H⟩ := H
  replace H : ((laws_toTimer.f a1_0 a1_1 a1_2 a1_3).bind fun bt223 => ((spec_AddTimer.f k t219 t220 bt223.1 bt223.2.1 bt223.2.2.1 bt223.2.2.2).bind fun bt227 => ((laws_toClock.f k a0_0 l0_1).bind fun bt233 => ((laws_toTimer.f a1_0 a1_1 a1_2 a1_3).bind fun bt238 => ((impl_AddTimer.f k bt233.1 bt233.2 bt238.1 bt238.2.1 bt238.2.2.1 bt238.2.2.2).bind fun bt242 => ((laws_eqClock.f k bt242.1 bt242.2.1 bt227.1 bt227.2.1).bind fun t248 => (if t248 = true then (laws_FnExactAddTimer.j0 k bt227.2.2 bt242.2.2 (bt242.2.2 != bt227.2.2) a0_0 l0_1 a1_0 a1_1 a1_2 a1_3 bt227.1 bt227.2.1 bt233.1 bt233.2 bt242.1 bt242.2.1) else (laws_FnExactAddTimer.j0 k bt227.2.2 bt242.2.2 true a0_0 l0_1 a1_0 a1_1 a1_2 a1_3 bt227.1 bt227.2.1 bt233.1 bt233.2 bt242.1 bt242.2.1)))))))) = some r := H
  have A10 := Aside0.mk A100
  clear A100
  replace H := Option.bind_eq_some_iff.mp H
  obtain ⟨⟨t223, t224, t225, t226⟩, A110, H⟩ := H
  replace H : ((spec_AddTimer.f k t219 t220 t223 t224 t225 t226).bind fun bt227 => ((laws_toClock.f k a0_0 l0_1).bind fun bt233 => ((laws_toTimer.f a1_0 a1_1 a1_2 a1_3).bind fun bt238 => ((impl_AddTimer.f k bt233.1 bt233.2 bt238.1 bt238.2.1 bt238.2.2.1 bt238.2.2.2).bind fun bt242 => ((laws_eqClock.f k bt242.1 bt242.2.1 bt227.1 bt227.2.1).bind fun t248 => (if t248 = true then (laws_FnExactAddTimer.j0 k bt227.2.2 bt242.2.2 (bt242.2.2 != bt227.2.2) a0_0 l0_1 a1_0 a1_1 a1_2 a1_3 bt227.1 bt227.2.1 bt233.1 bt233.2 bt242.1 bt242.2.1) else (laws_FnExactAddTimer.j0 k bt227.2.2 bt242.2.2 true a0_0 l0_1 a1_0 a1_1 a1_2 a1_3 bt227.1 bt227.2.1 bt233.1 bt233.2 bt242.1 bt242.2.1))))))) = some r := H
  have A11 := Aside0.mk A110
  clear A110
  replace H := Option.bind_eq_some_iff.mp H
  obtain ⟨⟨t227, t228, t231⟩, A120, H⟩ := H
  replace H : ((laws_toClock.f k a0_0 l0_1).bind fun bt233 => ((laws_toTimer.f a1_0 a1_1 a1_2 a1_3).bind fun bt238 => ((impl_AddTimer.f k bt233.1 bt233.2 bt238.1 bt238.2.1 bt238.2.2.1 bt238.2.2.2).bind fun bt242 => ((laws_eqClock.f k bt242.1 bt242.2.1 t227 t228).bind fun t248 => (if t248 = true then (laws_FnExactAddTimer.j0 k t231 bt242.2.2 (bt242.2.2 != t231) a0_0 l0_1 a1_0 a1_1 a1_2 a1_3 t227 t228 bt233.1 bt233.2 bt242.1 bt242.2.1) else (laws_FnExactAddTimer.j0 k t231 bt242.2.2 true a0_0 l0_1 a1_0 a1_1 a1_2 a1_3 t227 t228 bt233.1 bt233.2 bt242.1 bt242.2.1)))))) = some r := H
  have A12 := Aside0.mk A120
  clear A120
  replace H := Option.bind_eq_some_iff.mp H
  obtain ⟨⟨t233, t234⟩, A130, H⟩ := H
  replace H : ((laws_toTimer.f a1_0 a1_1 a1_2 a1_3).bind fun bt238 => ((impl_AddTimer.f k t233 t234 bt238.1 bt238.2.1 bt238.2.2.1 bt238.2.2.2).bind fun bt242 => ((laws_eqClock.f k bt242.1 bt242.2.1 t227 t228).bind fun t248 => (if t248 = true then (laws_FnExactAddTimer.j0 k t231 bt242.2.2 (bt242.2.2 != t231) a0_0 l0_1 a1_0 a1_1 a1_2 a1_3 t227 t228 t233 t234 bt242.1 bt242.2.1) else (laws_FnExactAddTimer.j0 k t231 bt242.2.2 true a0_0 l0_1 a1_0 a1_1 a1_2 a1_3 t227 t228 t233 t234 bt242.1 bt242.2.1))))) = some r := H
  have A13 := Aside0.mk A130
  clear A130
  replace H := Option.bind_eq_some_iff.mp H
  obtain ⟨⟨t238, t239, t240, t241⟩, A140, H⟩ := H
  replace H : ((impl_AddTimer.f k t233 t234 t238 t239 t240 t241).bind fun bt242 => ((laws_eqClock.f k bt242.1 bt242.2.1 t227 t228).bind fun t248 => (if t248 = true then (laws_FnExactAddTimer.j0 k t231 bt242.2.2 (bt242.2.2 != t231) a0_0 l0_1 a1_0 a1_1 a1_2 a1_3 t227 t228 t233 t234 bt242.1 bt242.2.1) else (laws_FnExactAddTimer.j0 k t231 bt242.2.2 true a0_0 l0_1 a1_0 a1_1 a1_2 a1_3 t227 t228 t233 t234 bt242.1 bt242.2.1)))) = some r := H
  have A14 := Aside0.mk A140
  clear A140
  replace H := Option.bind_eq_some_iff.mp H
  obtain ⟨⟨t242, t243, t246⟩, A150, H⟩ := H
  replace H : ((laws_eqClock.f k t242 t243 t227 t228).bind fun t248 => (if t248 = true then (laws_FnExactAddTimer.j0 k t231 t246 (t246 != t231) a0_0 l0_1 a1_0 a1_1 a1_2 a1_3 t227 t228 t233 t234 t242 t243) else (laws_FnExactAddTimer.j0 k t231 t246 true a0_0 l0_1 a1_0 a1_1 a1_2 a1_3 t227 t228 t233 t234 t242 t243))) = some r := H
  have A15 := Aside0.mk A150
  clear A150
  have HC16 := Aside0.mk H
  clear H
  go_enter Try.func3, Try.ntmps3
  try go_wp2_with (first | ((with_reducible refine gate_dst (N := 2) rfl ?_); refine box_event rfl (N := 2) rfl (cs := #[.int .i64 a0_0, .slice A0_1 l0_1.length c0_1]) (t := 24) sE ?_; intro gb216 hg w17 hbox hb; have BK216 := Aside0.mk hbox; have GW216 := gS w hg (lU); have GE216 := gS w hg (lU); replace HB := bH (lU) hb; clear hb hbox hg) | ((with_reducible refine gate_dst (N := 3) rfl ?_); refine box_event rfl (N := 3) rfl (cs := #[.int .i64 a1_0, .int .i64 a1_1, .int .i64 a1_2, .int .i64 a1_3]) (t := 26) sE ?_; intro gb217 hg w18 hbox hb; have BK217 := Aside0.mk hbox; have GW217 := gS w hg (lV1 GE216); have GE217 := gS w hg (lV1 GE216); replace HB := bH (lV1 GE216) hb; have NB216_217 := nL hg (bV BK216); have NB217_216 := nG hg (bV BK216); replace BK216 := bB (bV BK216) hb; clear hb hbox hg; have hnb19 := NB216_217.out; have hnc19 := NB217_216.out; have hcz20_0 := cz BK216 0 (.int .i64 a0_0); have hcz20_1 := cz BK216 1 (.slice A0_1 l0_1.length c0_1); have hfz20_0 := fz BK216 0; have hfz20_1 := fz BK216 1) | ((with_reducible refine gate_callee (f := 6) rfl ?_); refine goesL_ (some 18) rfl rfl Try.func6 (by kernel_rfl) rfl #[.agg #[.int .i64 a0_0, .slice A0_1 l0_1.length c0_1], .int .i64 1048576] rfl aE ?_; (with_reducible refine (laws_szClock.calls a0_0 _ _ l0_1 1048576 t218 _ ?side1 ?side2 A3.out).mono ?_); (case side1 => exact cU (Kd.C_below HR0_1.out HB.out)); (case side2 => exact HC0_1.out); rintro e w21 ⟨rfl, hb⟩; refine ⟨_, rfl, ?_⟩; replace BK216 := bB (bV BK216) hb; replace BK217 := bB (bV BK217) hb; replace HB := bH (lV2 GE216 GE217) hb; (try clear hb)))
  replace BK216 := Aside0.mk (blk_drew BK216.out)
  replace BK217 := Aside0.mk (blk_drew BK217.out)
  replace HB := Aside0.mk (below_drew1 HB.out)
  refine start_ (n := 11) (S := fun w' => w'.cell? ⟨gb216, 0, none⟩ = some (.int .i64 a0_0) ∧ w'.cell? ⟨gb216, 1, none⟩ = some (.slice A0_1 l0_1.length c0_1) ∧ w'.cell? ⟨gb217, 0, none⟩ = some (.int .i64 a1_0) ∧ w'.cell? ⟨gb217, 1, none⟩ = some (.int .i64 a1_1) ∧ w'.cell? ⟨gb217, 2, none⟩ = some (.int .i64 a1_2) ∧ w'.cell? ⟨gb217, 3, none⟩ = some (.int .i64 a1_3)) (ds := []) #[false, false, false, false, false, false, false, false, false, false, false] (by kernel_rfl) rfl rfl ⟨cz BK216 0 _, cz BK216 1 _, cz BK217 0 _, cz BK217 1 _, cz BK217 2 _, cz BK217 3 _⟩ (fun hHeld => ?_); refine with_tabW laws_FnExactAddTimer.tab5 laws_FnExactAddTimer.bits5 (fun HT_ HW_ => ?_)
  generalize w21.drew = w22 at BK216 BK217 HB hHeld ⊢
  refine takeA 0 22 (bz 11 1) rfl rfl (take_ofW HT_.out HW_.out (by kernel_rfl)) hHeld (by rintro w' ⟨s0, s1, s2, s3, s4, s5⟩; go_simp; with_reducible rfl) ?_
  refine takeA 2 24 (bz 11 5) rfl rfl (take_ofW HT_.out HW_.out (by kernel_rfl)) hHeld (by rintro w' ⟨s0, s1, s2, s3, s4, s5⟩; go_simp; with_reducible rfl) ?_
  refine join_ (σ := Value × Value × Nat) 2 #[true, true, true, true, true, true, true, true, true, false, false] (fun s_ => [(23, .agg #[.int .i64 t219, s_.1]), (25, .agg #[.int .i64 t223, .int .i64 t224, .int .i64 t225, .int .i64 t226]), (26, .tuple #[.agg #[.int .i64 t227, s_.2.1], .bool t231]), (6, .pointer (some ⟨s_.2.2, 0, none⟩)), (21, .tuple #[.agg #[.int .i64 t227, s_.2.1], .bool t231]), (27, .agg #[.int .i64 t227, s_.2.1]), (28, .bool t231)]) (fun s_ w' => (w'.cell? ⟨gb216, 0, none⟩ = some (.int .i64 a0_0) ∧ w'.cell? ⟨gb216, 1, none⟩ = some (.slice A0_1 l0_1.length c0_1) ∧ w'.cell? ⟨gb217, 0, none⟩ = some (.int .i64 a1_0) ∧ w'.cell? ⟨gb217, 1, none⟩ = some (.int .i64 a1_1) ∧ w'.cell? ⟨gb217, 2, none⟩ = some (.int .i64 a1_2) ∧ w'.cell? ⟨gb217, 3, none⟩ = some (.int .i64 a1_3)) ∧ (Kd.R k34 34 w' w.heap.size (fun k_ => some k_ ≠ (s_.2.1 : Value).ownBlock) s_.1 t220) ∧ (Kd.R k34 34 w' w.heap.size (fun k_ => some k_ ≠ (s_.1 : Value).ownBlock) s_.2.1 t228) ∧ (w'.heap[gb216]? = some (.cells #[.int .i64 a0_0, .slice A0_1 l0_1.length c0_1] 24 (0, 0))) ∧ (w'.heap[gb217]? = some (.cells #[.int .i64 a1_0, .int .i64 a1_1, .int .i64 a1_2, .int .i64 a1_3] 26 (0, 0))) ∧ (w'.heap[s_.2.2]? = some (.cells #[.int .i64 0, .slice none 0 0] 30 (0, 0))) ∧ (w.heap.size ≤ s_.2.2) ∧ (w.heap.size ≤ s_.2.2) ∧ (gb216 ≠ s_.2.2) ∧ (s_.2.2 ≠ gb216) ∧ (gb217 ≠ s_.2.2) ∧ (s_.2.2 ≠ gb217) ∧ (Below w.heap.size w w')) ?_ ?_
  rotate_left
  ·intro hCont
   refine two_ (i := 1) (j := 8) (Ni := some 23) (Nj := some 6) #[true, true, true, false, false, false, false, false, false, false, false] #[true, false, true, false, false, false, false, false, true, false, false] rfl rfl rfl rfl (two_of HT_.out (by kernel_rfl)) (by decide) (by decide) (fun K hK => ?_) (fun K hK => ?_)
   ·skip
    refine goes_ Try.func8 (by kernel_rfl) rfl #[.agg #[.int .i64 a0_0, .slice A0_1 l0_1.length c0_1]] (by rfl) rfl rfl aE ?_
    with_reducible refine (laws_toClock.calls k a0_0 _ _ l0_1 t219 t220 _ ?side1 ?side2 A10.out).mono ?_
    (case side1 => exact cU (Kd.C_below HR0_1.out HB.out))
    (case side2 => exact HC0_1.out)
    rintro e w23 ⟨v221, rfl, ho0, hb⟩
    refine ⟨_, rfl, ?_⟩
    have HO222 := Aside0.mk (Kd.R_lower ho0 (below_size (lV2 GE216 GE217)))
    replace BK216 := bB (bV BK216) hb
    replace BK217 := bB (bV BK217) hb
    replace HB := bH (lV2 GE216 GE217) hb
    (try clear hb)
    (try clear hb2)
    (try clear hk)
    (try clear hi)
    (try clear ho0)
    refine hK.out _ _ ⟨cz BK216 0 _, cz BK216 1 _, cz BK217 0 _, cz BK217 1 _, cz BK217 2 _, cz BK217 3 _⟩ (fun hHeld => ?_)
    clear hK K
    refine norm_ (a' := ?_) ?_ ?_
    rotate_left
    ·show Act.put _ (some 23) _ = _
     simp only [Act.put, List.setIfInBounds_toArray, List.set_cons_zero, List.set_cons_succ, i64_w, i32_w]
     rfl
    refine two_ (i := 3) (j := 8) (Ni := some 25) (Nj := some 6) #[true, true, true, true, false, false, false, false, false, false, false] #[true, true, true, false, false, false, false, false, true, false, false] rfl rfl rfl rfl (two_of HT_.out (by kernel_rfl)) (by decide) (by decide) (fun K hK => ?_) (fun K hK => ?_)
    ·skip
     refine goes_ Try.func9 (by kernel_rfl) rfl #[.agg #[.int .i64 a1_0, .int .i64 a1_1, .int .i64 a1_2, .int .i64 a1_3]] (by rfl) rfl rfl aE ?_
     with_reducible refine (laws_toTimer.calls a1_0 a1_1 a1_2 a1_3 t223 t224 t225 t226 _ A11.out).mono ?_
     rintro e w24 ⟨rfl, hb⟩
     refine ⟨_, rfl, ?_⟩
     replace HO222 := Aside0.mk (Kd.R_below (rU HO222.out) hb)
     replace BK216 := bB (bV BK216) hb
     replace BK217 := bB (bV BK217) hb
     replace HB := bH (lV2 GE216 GE217) hb
     (try clear hb)
     (try clear hb2)
     (try clear hk)
     (try clear hi)
     obtain ⟨Ao25, co25, eo25⟩ := Kd.R_slice HO222.out
     (first | subst eo25 | (injection eo25 with f1_ f2_ f3_; have f4_ := f1_.symm; have f5_ := f3_.symm; clear f1_ f2_ f3_; subst f4_; subst f5_))
     refine hK.out _ _ ⟨cz BK216 0 _, cz BK216 1 _, cz BK217 0 _, cz BK217 1 _, cz BK217 2 _, cz BK217 3 _⟩ (fun hHeld => ?_)
     clear hK K
     refine norm_ (a' := ?_) ?_ ?_
     rotate_left
     ·show Act.put _ (some 25) _ = _
      simp only [Act.put, List.setIfInBounds_toArray, List.set_cons_zero, List.set_cons_succ, i64_w, i32_w]
      rfl
     refine two_ (i := 4) (j := 8) (Ni := some 26) (Nj := some 6) #[true, true, true, true, true, false, false, false, false, false, false] #[true, true, true, true, false, false, false, false, true, false, false] rfl rfl rfl rfl (two_of HT_.out (by kernel_rfl)) (by decide) (by decide) (fun K hK => ?_) (fun K hK => ?_)
     ·skip
      refine goes_ Try.func7 (by kernel_rfl) rfl #[.agg #[.int .i64 t219, .slice Ao25 t220.length co25], .agg #[.int .i64 t223, .int .i64 t224, .int .i64 t225, .int .i64 t226]] (by rfl) rfl rfl aE ?_
      with_reducible refine (spec_AddTimer.calls k t219 _ _ t220 t223 t224 t225 t226 t227 t228 t231 _ ?side1 ?side2 A12.out).mono ?_
      (case side1 => exact cU (Kd.R_reads' HO222.out).2.2)
      (case side2 => exact (Kd.R_reads' HO222.out).2.1)
      rintro e w26 ⟨v229, rfl, ho0, hb⟩
      refine ⟨_, rfl, ?_⟩
      have HO230 := Aside0.mk (Kd.R_lower (Kd.R_new' ho0 (Kd.R_lt (rU HO222.out))) (below_size (lV2 GE216 GE217)))
      replace HO222 := Aside0.mk (Kd.R_elder' (rU HO222.out) (Kd.R_base ho0) hb)
      replace BK216 := bB (bV BK216) hb
      replace BK217 := bB (bV BK217) hb
      replace HB := bH (lV2 GE216 GE217) hb
      (try clear hb)
      (try clear hb2)
      (try clear hk)
      (try clear hi)
      (try clear ho0)
      refine hK.out _ _ ⟨cz BK216 0 _, cz BK216 1 _, cz BK217 0 _, cz BK217 1 _, cz BK217 2 _, cz BK217 3 _⟩ (fun hHeld => ?_)
      clear hK K
      refine norm_ (a' := ?_) ?_ ?_
      rotate_left
      ·show Act.put _ (some 26) _ = _
       simp only [Act.put, List.setIfInBounds_toArray, List.set_cons_zero, List.set_cons_succ, i64_w, i32_w]
       rfl
      refine pureA 5 21 (bz 11 63) rfl rfl (any_of HT_.out (by kernel_rfl)) ?_
      refine pureA 6 27 (bz 11 127) rfl rfl (any_of HT_.out (by kernel_rfl)) ?_
      refine pureA 7 28 (bz 11 255) rfl rfl (any_of HT_.out (by kernel_rfl)) ?_
      refine one_ (i := 8) (N := some 6) (bz 11 511) rfl rfl (one_of HT_.out (by kernel_rfl)) (by decide) (fun K hK => ?_)
      refine box_step ?hg (N := 6) ?hd (cs := #[.int .i64 0, .slice none 0 0]) (t := 30) ?hr ?_; (case hd => rfl); (case hg => rfl); (case hr => exact sE)
      intro gb232 hg w27 hbox hb
      replace HO222 := Aside0.mk (Kd.R_below (rU HO222.out) hb)
      replace HO230 := Aside0.mk (Kd.R_below (rU HO230.out) hb)
      have BK232 := Aside0.mk hbox
      have GW232 := gS w hg (lV2 GE216 GE217)
      have GE232 := gS w hg (lV2 GE216 GE217)
      replace HB := bH (lV2 GE216 GE217) hb
      have NB216_232 := nL hg (bV BK216)
      have NB232_216 := nG hg (bV BK216)
      replace BK216 := bB (bV BK216) hb
      have NB217_232 := nL hg (bV BK217)
      have NB232_217 := nG hg (bV BK217)
      replace BK217 := bB (bV BK217) hb
      clear hb hbox hg
      refine hK.out _ _ ⟨cz BK216 0 _, cz BK216 1 _, cz BK217 0 _, cz BK217 1 _, cz BK217 2 _, cz BK217 3 _⟩ (fun hHeld => ?_)
      clear hK K
      refine norm_ (a' := ?_) ?_ ?_
      rotate_left
      ·show Act.put _ (some 6) _ = _
       simp only [Act.put, List.setIfInBounds_toArray, List.set_cons_zero, List.set_cons_succ, i64_w, i32_w]
       rfl
      exact norm_ (by simp only [putAll, Act.put, List.setIfInBounds_toArray, List.set_cons_zero, List.set_cons_succ]) (hCont (.slice Ao25 t220.length co25, v229, gb232) _ ⟨hHeld, (by (with_reducible repeat (first | apply Kd.R_alloc | apply Kd.R_drewN | apply Kd.R_drew)); exact Kd.R_mono HO222.out (fun _ hk => hk.2)), (by (with_reducible repeat (first | apply Kd.R_alloc | apply Kd.R_drewN | apply Kd.R_drew)); exact Kd.R_mono HO230.out (fun _ hk => hk.2)), (bV BK216), (bV BK217), (bV BK232), GW232.out, GE232.out, NB216_232.out, NB232_216.out, NB217_232.out, NB232_217.out, (lV3 GE216 GE217 GE232)⟩)
     ·skip
      refine box_step ?hg (N := 6) ?hd (cs := #[.int .i64 0, .slice none 0 0]) (t := 30) ?hr ?_; (case hd => rfl); (case hg => rfl); (case hr => exact sE)
      intro gb232 hg w25 hbox hb
      replace HO222 := Aside0.mk (Kd.R_below (rU HO222.out) hb)
      have BK232 := Aside0.mk hbox
      have GW232 := gS w hg (lV2 GE216 GE217)
      have GE232 := gS w hg (lV2 GE216 GE217)
      replace HB := bH (lV2 GE216 GE217) hb
      have NB216_232 := nL hg (bV BK216)
      have NB232_216 := nG hg (bV BK216)
      replace BK216 := bB (bV BK216) hb
      have NB217_232 := nL hg (bV BK217)
      have NB232_217 := nG hg (bV BK217)
      replace BK217 := bB (bV BK217) hb
      clear hb hbox hg
      obtain ⟨Ao26, co26, eo26⟩ := Kd.R_slice HO222.out
      (first | subst eo26 | (injection eo26 with f1_ f2_ f3_; have f4_ := f1_.symm; have f5_ := f3_.symm; clear f1_ f2_ f3_; subst f4_; subst f5_))
      refine hK.out _ _ ⟨cz BK216 0 _, cz BK216 1 _, cz BK217 0 _, cz BK217 1 _, cz BK217 2 _, cz BK217 3 _⟩ (fun hHeld => ?_)
      clear hK K
      refine norm_ (a' := ?_) ?_ ?_
      rotate_left
      ·show Act.put _ (some 6) _ = _
       simp only [Act.put, List.setIfInBounds_toArray, List.set_cons_zero, List.set_cons_succ, i64_w, i32_w]
       rfl
      refine one_ (i := 4) (N := some 26) (bz 11 287) rfl rfl (one_of HT_.out (by kernel_rfl)) (by decide) (fun K hK => ?_)
      refine goes_ Try.func7 (by kernel_rfl) rfl #[.agg #[.int .i64 t219, .slice Ao26 t220.length co26], .agg #[.int .i64 t223, .int .i64 t224, .int .i64 t225, .int .i64 t226]] (by rfl) rfl rfl aE ?_
      with_reducible refine (spec_AddTimer.calls k t219 _ _ t220 t223 t224 t225 t226 t227 t228 t231 _ ?side1 ?side2 A12.out).mono ?_
      (case side1 => exact cU (Kd.R_reads' HO222.out).2.2)
      (case side2 => exact (Kd.R_reads' HO222.out).2.1)
      rintro e w27 ⟨v229, rfl, ho0, hb⟩
      refine ⟨_, rfl, ?_⟩
      have HO230 := Aside0.mk (Kd.R_lower (Kd.R_new' ho0 (Kd.R_lt (rU HO222.out))) (below_size (lV3 GE216 GE217 GE232)))
      replace HO222 := Aside0.mk (Kd.R_elder' (rU HO222.out) (Kd.R_base ho0) hb)
      replace BK216 := bB (bV BK216) hb
      replace BK217 := bB (bV BK217) hb
      replace BK232 := bB (bV BK232) hb
      replace HB := bH (lV3 GE216 GE217 GE232) hb
      (try clear hb)
      (try clear hb2)
      (try clear hk)
      (try clear hi)
      (try clear ho0)
      refine hK.out _ _ ⟨cz BK216 0 _, cz BK216 1 _, cz BK217 0 _, cz BK217 1 _, cz BK217 2 _, cz BK217 3 _⟩ (fun hHeld => ?_)
      clear hK K
      refine norm_ (a' := ?_) ?_ ?_
      rotate_left
      ·show Act.put _ (some 26) _ = _
       simp only [Act.put, List.setIfInBounds_toArray, List.set_cons_zero, List.set_cons_succ, i64_w, i32_w]
       rfl
      refine pureA 5 21 (bz 11 319) rfl rfl (any_of HT_.out (by kernel_rfl)) ?_
      refine pureA 6 27 (bz 11 383) rfl rfl (any_of HT_.out (by kernel_rfl)) ?_
      refine pureA 7 28 (bz 11 511) rfl rfl (any_of HT_.out (by kernel_rfl)) ?_
      exact norm_ (by simp only [putAll, Act.put, List.setIfInBounds_toArray, List.set_cons_zero, List.set_cons_succ]) (hCont (.slice Ao26 t220.length co26, v229, gb232) _ ⟨hHeld, (by (with_reducible repeat (first | apply Kd.R_alloc | apply Kd.R_drewN | apply Kd.R_drew)); exact Kd.R_mono HO222.out (fun _ hk => hk.2)), (by (with_reducible repeat (first | apply Kd.R_alloc | apply Kd.R_drewN | apply Kd.R_drew)); exact Kd.R_mono HO230.out (fun _ hk => hk.2)), (bV BK216), (bV BK217), (bV BK232), GW232.out, GE232.out, NB216_232.out, NB232_216.out, NB217_232.out, NB232_217.out, (lV3 GE216 GE217 GE232)⟩)
    ·skip
     refine box_step ?hg (N := 6) ?hd (cs := #[.int .i64 0, .slice none 0 0]) (t := 30) ?hr ?_; (case hd => rfl); (case hg => rfl); (case hr => exact sE)
     intro gb232 hg w24 hbox hb
     replace HO222 := Aside0.mk (Kd.R_below (rU HO222.out) hb)
     have BK232 := Aside0.mk hbox
     have GW232 := gS w hg (lV2 GE216 GE217)
     have GE232 := gS w hg (lV2 GE216 GE217)
     replace HB := bH (lV2 GE216 GE217) hb
     have NB216_232 := nL hg (bV BK216)
     have NB232_216 := nG hg (bV BK216)
     replace BK216 := bB (bV BK216) hb
     have NB217_232 := nL hg (bV BK217)
     have NB232_217 := nG hg (bV BK217)
     replace BK217 := bB (bV BK217) hb
     clear hb hbox hg
     refine hK.out _ _ ⟨cz BK216 0 _, cz BK216 1 _, cz BK217 0 _, cz BK217 1 _, cz BK217 2 _, cz BK217 3 _⟩ (fun hHeld => ?_)
     clear hK K
     refine norm_ (a' := ?_) ?_ ?_
     rotate_left
     ·show Act.put _ (some 6) _ = _
      simp only [Act.put, List.setIfInBounds_toArray, List.set_cons_zero, List.set_cons_succ, i64_w, i32_w]
      rfl
     refine one_ (i := 3) (N := some 25) (bz 11 271) rfl rfl (one_of HT_.out (by kernel_rfl)) (by decide) (fun K hK => ?_)
     refine goes_ Try.func9 (by kernel_rfl) rfl #[.agg #[.int .i64 a1_0, .int .i64 a1_1, .int .i64 a1_2, .int .i64 a1_3]] (by rfl) rfl rfl aE ?_
     with_reducible refine (laws_toTimer.calls a1_0 a1_1 a1_2 a1_3 t223 t224 t225 t226 _ A11.out).mono ?_
     rintro e w25 ⟨rfl, hb⟩
     refine ⟨_, rfl, ?_⟩
     replace HO222 := Aside0.mk (Kd.R_below (rU HO222.out) hb)
     replace BK216 := bB (bV BK216) hb
     replace BK217 := bB (bV BK217) hb
     replace BK232 := bB (bV BK232) hb
     replace HB := bH (lV3 GE216 GE217 GE232) hb
     (try clear hb)
     (try clear hb2)
     (try clear hk)
     (try clear hi)
     obtain ⟨Ao26, co26, eo26⟩ := Kd.R_slice HO222.out
     (first | subst eo26 | (injection eo26 with f1_ f2_ f3_; have f4_ := f1_.symm; have f5_ := f3_.symm; clear f1_ f2_ f3_; subst f4_; subst f5_))
     refine hK.out _ _ ⟨cz BK216 0 _, cz BK216 1 _, cz BK217 0 _, cz BK217 1 _, cz BK217 2 _, cz BK217 3 _⟩ (fun hHeld => ?_)
     clear hK K
     refine norm_ (a' := ?_) ?_ ?_
     rotate_left
     ·show Act.put _ (some 25) _ = _
      simp only [Act.put, List.setIfInBounds_toArray, List.set_cons_zero, List.set_cons_succ, i64_w, i32_w]
      rfl
     refine one_ (i := 4) (N := some 26) (bz 11 287) rfl rfl (one_of HT_.out (by kernel_rfl)) (by decide) (fun K hK => ?_)
     refine goes_ Try.func7 (by kernel_rfl) rfl #[.agg #[.int .i64 t219, .slice Ao26 t220.length co26], .agg #[.int .i64 t223, .int .i64 t224, .int .i64 t225, .int .i64 t226]] (by rfl) rfl rfl aE ?_
     with_reducible refine (spec_AddTimer.calls k t219 _ _ t220 t223 t224 t225 t226 t227 t228 t231 _ ?side1 ?side2 A12.out).mono ?_
     (case side1 => exact cU (Kd.R_reads' HO222.out).2.2)
     (case side2 => exact (Kd.R_reads' HO222.out).2.1)
     rintro e w27 ⟨v229, rfl, ho0, hb⟩
     refine ⟨_, rfl, ?_⟩
     have HO230 := Aside0.mk (Kd.R_lower (Kd.R_new' ho0 (Kd.R_lt (rU HO222.out))) (below_size (lV3 GE216 GE217 GE232)))
     replace HO222 := Aside0.mk (Kd.R_elder' (rU HO222.out) (Kd.R_base ho0) hb)
     replace BK216 := bB (bV BK216) hb
     replace BK217 := bB (bV BK217) hb
     replace BK232 := bB (bV BK232) hb
     replace HB := bH (lV3 GE216 GE217 GE232) hb
     (try clear hb)
     (try clear hb2)
     (try clear hk)
     (try clear hi)
     (try clear ho0)
     refine hK.out _ _ ⟨cz BK216 0 _, cz BK216 1 _, cz BK217 0 _, cz BK217 1 _, cz BK217 2 _, cz BK217 3 _⟩ (fun hHeld => ?_)
     clear hK K
     refine norm_ (a' := ?_) ?_ ?_
     rotate_left
     ·show Act.put _ (some 26) _ = _
      simp only [Act.put, List.setIfInBounds_toArray, List.set_cons_zero, List.set_cons_succ, i64_w, i32_w]
      rfl
     refine pureA 5 21 (bz 11 319) rfl rfl (any_of HT_.out (by kernel_rfl)) ?_
     refine pureA 6 27 (bz 11 383) rfl rfl (any_of HT_.out (by kernel_rfl)) ?_
     refine pureA 7 28 (bz 11 511) rfl rfl (any_of HT_.out (by kernel_rfl)) ?_
     exact norm_ (by simp only [putAll, Act.put, List.setIfInBounds_toArray, List.set_cons_zero, List.set_cons_succ]) (hCont (.slice Ao26 t220.length co26, v229, gb232) _ ⟨hHeld, (by (with_reducible repeat (first | apply Kd.R_alloc | apply Kd.R_drewN | apply Kd.R_drew)); exact Kd.R_mono HO222.out (fun _ hk => hk.2)), (by (with_reducible repeat (first | apply Kd.R_alloc | apply Kd.R_drewN | apply Kd.R_drew)); exact Kd.R_mono HO230.out (fun _ hk => hk.2)), (bV BK216), (bV BK217), (bV BK232), GW232.out, GE232.out, NB216_232.out, NB232_216.out, NB217_232.out, NB232_217.out, (lV3 GE216 GE217 GE232)⟩)
   ·skip
    refine box_step ?hg (N := 6) ?hd (cs := #[.int .i64 0, .slice none 0 0]) (t := 30) ?hr ?_; (case hd => rfl); (case hg => rfl); (case hr => exact sE)
    intro gb232 hg w23 hbox hb
    have BK232 := Aside0.mk hbox
    have GW232 := gS w hg (lV2 GE216 GE217)
    have GE232 := gS w hg (lV2 GE216 GE217)
    replace HB := bH (lV2 GE216 GE217) hb
    have NB216_232 := nL hg (bV BK216)
    have NB232_216 := nG hg (bV BK216)
    replace BK216 := bB (bV BK216) hb
    have NB217_232 := nL hg (bV BK217)
    have NB232_217 := nG hg (bV BK217)
    replace BK217 := bB (bV BK217) hb
    clear hb hbox hg
    refine hK.out _ _ ⟨cz BK216 0 _, cz BK216 1 _, cz BK217 0 _, cz BK217 1 _, cz BK217 2 _, cz BK217 3 _⟩ (fun hHeld => ?_)
    clear hK K
    refine norm_ (a' := ?_) ?_ ?_
    rotate_left
    ·show Act.put _ (some 6) _ = _
     simp only [Act.put, List.setIfInBounds_toArray, List.set_cons_zero, List.set_cons_succ, i64_w, i32_w]
     rfl
    refine one_ (i := 1) (N := some 23) (bz 11 263) rfl rfl (one_of HT_.out (by kernel_rfl)) (by decide) (fun K hK => ?_)
    refine goes_ Try.func8 (by kernel_rfl) rfl #[.agg #[.int .i64 a0_0, .slice A0_1 l0_1.length c0_1]] (by rfl) rfl rfl aE ?_
    with_reducible refine (laws_toClock.calls k a0_0 _ _ l0_1 t219 t220 _ ?side1 ?side2 A10.out).mono ?_
    (case side1 => exact cU (Kd.C_below HR0_1.out HB.out))
    (case side2 => exact HC0_1.out)
    rintro e w24 ⟨v221, rfl, ho0, hb⟩
    refine ⟨_, rfl, ?_⟩
    have HO222 := Aside0.mk (Kd.R_lower ho0 (below_size (lV3 GE216 GE217 GE232)))
    replace BK216 := bB (bV BK216) hb
    replace BK217 := bB (bV BK217) hb
    replace BK232 := bB (bV BK232) hb
    replace HB := bH (lV3 GE216 GE217 GE232) hb
    (try clear hb)
    (try clear hb2)
    (try clear hk)
    (try clear hi)
    (try clear ho0)
    refine hK.out _ _ ⟨cz BK216 0 _, cz BK216 1 _, cz BK217 0 _, cz BK217 1 _, cz BK217 2 _, cz BK217 3 _⟩ (fun hHeld => ?_)
    clear hK K
    refine norm_ (a' := ?_) ?_ ?_
    rotate_left
    ·show Act.put _ (some 23) _ = _
     simp only [Act.put, List.setIfInBounds_toArray, List.set_cons_zero, List.set_cons_succ, i64_w, i32_w]
     rfl
    refine one_ (i := 3) (N := some 25) (bz 11 271) rfl rfl (one_of HT_.out (by kernel_rfl)) (by decide) (fun K hK => ?_)
    refine goes_ Try.func9 (by kernel_rfl) rfl #[.agg #[.int .i64 a1_0, .int .i64 a1_1, .int .i64 a1_2, .int .i64 a1_3]] (by rfl) rfl rfl aE ?_
    with_reducible refine (laws_toTimer.calls a1_0 a1_1 a1_2 a1_3 t223 t224 t225 t226 _ A11.out).mono ?_
    rintro e w25 ⟨rfl, hb⟩
    refine ⟨_, rfl, ?_⟩
    replace HO222 := Aside0.mk (Kd.R_below (rU HO222.out) hb)
    replace BK216 := bB (bV BK216) hb
    replace BK217 := bB (bV BK217) hb
    replace BK232 := bB (bV BK232) hb
    replace HB := bH (lV3 GE216 GE217 GE232) hb
    (try clear hb)
    (try clear hb2)
    (try clear hk)
    (try clear hi)
    obtain ⟨Ao26, co26, eo26⟩ := Kd.R_slice HO222.out
    (first | subst eo26 | (injection eo26 with f1_ f2_ f3_; have f4_ := f1_.symm; have f5_ := f3_.symm; clear f1_ f2_ f3_; subst f4_; subst f5_))
    refine hK.out _ _ ⟨cz BK216 0 _, cz BK216 1 _, cz BK217 0 _, cz BK217 1 _, cz BK217 2 _, cz BK217 3 _⟩ (fun hHeld => ?_)
    clear hK K
    refine norm_ (a' := ?_) ?_ ?_
    rotate_left
    ·show Act.put _ (some 25) _ = _
     simp only [Act.put, List.setIfInBounds_toArray, List.set_cons_zero, List.set_cons_succ, i64_w, i32_w]
     rfl
    refine one_ (i := 4) (N := some 26) (bz 11 287) rfl rfl (one_of HT_.out (by kernel_rfl)) (by decide) (fun K hK => ?_)
    refine goes_ Try.func7 (by kernel_rfl) rfl #[.agg #[.int .i64 t219, .slice Ao26 t220.length co26], .agg #[.int .i64 t223, .int .i64 t224, .int .i64 t225, .int .i64 t226]] (by rfl) rfl rfl aE ?_
    with_reducible refine (spec_AddTimer.calls k t219 _ _ t220 t223 t224 t225 t226 t227 t228 t231 _ ?side1 ?side2 A12.out).mono ?_
    (case side1 => exact cU (Kd.R_reads' HO222.out).2.2)
    (case side2 => exact (Kd.R_reads' HO222.out).2.1)
    rintro e w27 ⟨v229, rfl, ho0, hb⟩
    refine ⟨_, rfl, ?_⟩
    have HO230 := Aside0.mk (Kd.R_lower (Kd.R_new' ho0 (Kd.R_lt (rU HO222.out))) (below_size (lV3 GE216 GE217 GE232)))
    replace HO222 := Aside0.mk (Kd.R_elder' (rU HO222.out) (Kd.R_base ho0) hb)
    replace BK216 := bB (bV BK216) hb
    replace BK217 := bB (bV BK217) hb
    replace BK232 := bB (bV BK232) hb
    replace HB := bH (lV3 GE216 GE217 GE232) hb
    (try clear hb)
    (try clear hb2)
    (try clear hk)
    (try clear hi)
    (try clear ho0)
    refine hK.out _ _ ⟨cz BK216 0 _, cz BK216 1 _, cz BK217 0 _, cz BK217 1 _, cz BK217 2 _, cz BK217 3 _⟩ (fun hHeld => ?_)
    clear hK K
    refine norm_ (a' := ?_) ?_ ?_
    rotate_left
    ·show Act.put _ (some 26) _ = _
     simp only [Act.put, List.setIfInBounds_toArray, List.set_cons_zero, List.set_cons_succ, i64_w, i32_w]
     rfl
    refine pureA 5 21 (bz 11 319) rfl rfl (any_of HT_.out (by kernel_rfl)) ?_
    refine pureA 6 27 (bz 11 383) rfl rfl (any_of HT_.out (by kernel_rfl)) ?_
    refine pureA 7 28 (bz 11 511) rfl rfl (any_of HT_.out (by kernel_rfl)) ?_
    exact norm_ (by simp only [putAll, Act.put, List.setIfInBounds_toArray, List.set_cons_zero, List.set_cons_succ]) (hCont (.slice Ao26 t220.length co26, v229, gb232) _ ⟨hHeld, (by (with_reducible repeat (first | apply Kd.R_alloc | apply Kd.R_drewN | apply Kd.R_drew)); exact Kd.R_mono HO222.out (fun _ hk => hk.2)), (by (with_reducible repeat (first | apply Kd.R_alloc | apply Kd.R_drewN | apply Kd.R_drew)); exact Kd.R_mono HO230.out (fun _ hk => hk.2)), (bV BK216), (bV BK217), (bV BK232), GW232.out, GE232.out, NB216_232.out, NB232_216.out, NB217_232.out, NB232_217.out, (lV3 GE216 GE217 GE232)⟩)
  rintro ⟨v221, v229, gb232⟩ w28 ⟨hS_, h0_, h1_, h2_, h3_, h4_, h5_, h6_, h7_, h8_, h9_, h10_, h11_⟩
  have HO222 : Aside0 (Kd.R k34 34 w28 w.heap.size (fun k_ => some k_ ≠ (v229 : Value).ownBlock) v221 t220) := ⟨h0_⟩
  have HO230 : Aside0 (Kd.R k34 34 w28 w.heap.size (fun k_ => some k_ ≠ (v221 : Value).ownBlock) v229 t228) := ⟨h1_⟩
  replace BK216 : Aside0 (w28.heap[gb216]? = some (.cells #[.int .i64 a0_0, .slice A0_1 l0_1.length c0_1] 24 (0, 0))) := ⟨h2_⟩
  replace BK217 : Aside0 (w28.heap[gb217]? = some (.cells #[.int .i64 a1_0, .int .i64 a1_1, .int .i64 a1_2, .int .i64 a1_3] 26 (0, 0))) := ⟨h3_⟩
  have BK232 : Aside0 (w28.heap[gb232]? = some (.cells #[.int .i64 0, .slice none 0 0] 30 (0, 0))) := ⟨h4_⟩
  have GW232 : Aside0 (w.heap.size ≤ gb232) := ⟨h5_⟩
  have GE232 : Aside0 (w.heap.size ≤ gb232) := ⟨h6_⟩
  have NB216_232 : Aside0 (gb216 ≠ gb232) := ⟨h7_⟩
  have NB232_216 : Aside0 (gb232 ≠ gb216) := ⟨h8_⟩
  have NB217_232 : Aside0 (gb217 ≠ gb232) := ⟨h9_⟩
  have NB232_217 : Aside0 (gb232 ≠ gb217) := ⟨h10_⟩
  replace HB : Aside0 (Below w.heap.size w w28) := ⟨h11_⟩
  clear h0_ h1_ h2_ h3_ h4_ h5_ h6_ h7_ h8_ h9_ h10_ h11_
  have hHeld : w28.cell? ⟨gb216, 0, none⟩ = some (.int .i64 a0_0) ∧ w28.cell? ⟨gb216, 1, none⟩ = some (.slice A0_1 l0_1.length c0_1) ∧ w28.cell? ⟨gb217, 0, none⟩ = some (.int .i64 a1_0) ∧ w28.cell? ⟨gb217, 1, none⟩ = some (.int .i64 a1_1) ∧ w28.cell? ⟨gb217, 2, none⟩ = some (.int .i64 a1_2) ∧ w28.cell? ⟨gb217, 3, none⟩ = some (.int .i64 a1_3) := hS_
  obtain ⟨Ao30, co30, eo30⟩ := Kd.R_slice HO230.out
  (first | subst eo30 | (injection eo30 with f1_ f2_ f3_; have f4_ := f1_.symm; have f5_ := f3_.symm; clear f1_ f2_ f3_; subst f4_; subst f5_))
  refine norm_ (a' := ?_) ?_ ?_
  rotate_left
  ·simp only [putAll, Act.put, List.setIfInBounds_toArray, List.set_cons_zero, List.set_cons_succ]
   rfl
  refine one_ (i := 9) (N := none) (bz 11 1023) rfl rfl (one_of HT_.out (by kernel_rfl)) (by decide) (fun K hK => ?_)
  have hs29 : w28.cell? ⟨gb232, 0, none⟩ = some (.int .i64 0) := (blk_cell BK232.out 0).trans rfl
  have hfs29 := blk_frozen BK232.out 0
  have hns29_0 := NB216_232.out
  have hns29_1 := NB217_232.out
  have hms29_0 := NB232_216.out
  have hms29_1 := NB232_217.out
  have hs31 : w28.cell? ⟨gb232, 1, none⟩ = some (.slice none 0 0) := (blk_cell BK232.out 1).trans rfl
  have hfs31 := blk_frozen BK232.out 1
  have hns31_0 := NB216_232.out
  have hns31_1 := NB217_232.out
  have hms31_0 := NB232_216.out
  have hms31_1 := NB232_217.out
  refine skip_ (w1 := ?_) (by rfl) rfl ?_ ?_
  rotate_left
  ·go_simp
   rfl
  refine hK.out _ _ ⟨((cell_far (p := ⟨gb232, _, none⟩) NB216_232.out _).trans (((cell_far (p := ⟨gb232, _, none⟩) NB216_232.out _).trans (hHeld.1)))), ((cell_far (p := ⟨gb232, _, none⟩) NB216_232.out _).trans (((cell_far (p := ⟨gb232, _, none⟩) NB216_232.out _).trans (hHeld.2.1)))), ((cell_far (p := ⟨gb232, _, none⟩) NB217_232.out _).trans (((cell_far (p := ⟨gb232, _, none⟩) NB217_232.out _).trans (hHeld.2.2.1)))), ((cell_far (p := ⟨gb232, _, none⟩) NB217_232.out _).trans (((cell_far (p := ⟨gb232, _, none⟩) NB217_232.out _).trans (hHeld.2.2.2.1)))), ((cell_far (p := ⟨gb232, _, none⟩) NB217_232.out _).trans (((cell_far (p := ⟨gb232, _, none⟩) NB217_232.out _).trans (hHeld.2.2.2.2.1)))), ((cell_far (p := ⟨gb232, _, none⟩) NB217_232.out _).trans (((cell_far (p := ⟨gb232, _, none⟩) NB217_232.out _).trans (hHeld.2.2.2.2.2))))⟩ (fun hHeld => ?_)
  clear hK K
  refine pureA 10 7 (bz 11 2047) rfl rfl (any_of HT_.out (by kernel_rfl)) ?_
  refine done_ (done_of HT_.out (by kernel_rfl)) ?_
  have hnb32 := NB216_232.out
  have hnc32 := NB232_216.out
  have hcz33_0 := cz BK216 0 (.int .i64 a0_0)
  have hcz33_1 := cz BK216 1 (.slice A0_1 l0_1.length c0_1)
  have hfz33_0 := fz BK216 0
  have hfz33_1 := fz BK216 1
  try go_wp2_with (first | ((with_reducible refine gate_callee (f := 8) rfl ?_); refine goesL_ (some 30) rfl rfl Try.func8 (by kernel_rfl) rfl #[.agg #[.int .i64 a0_0, .slice A0_1 l0_1.length c0_1]] rfl aE ?_; (with_reducible refine (laws_toClock.calls k a0_0 _ _ l0_1 t233 t234 _ ?side1 ?side2 A13.out).mono ?_); (case side1 => exact Kd.C_below HR0_1.out (lV3 GE216 GE217 GE232)); (case side2 => exact HC0_1.out); rintro e w34 ⟨v235, rfl, ho0, hb⟩; refine ⟨_, rfl, ?_⟩; have HO236 := Aside0.mk (Kd.R_lower (Kd.R_new' (Kd.R_new' ho0 (Kd.R_lt (rU (Kd.R_mono (Kd.R_far (p := ⟨gb232, 1, none⟩) (Kd.R_far (p := ⟨gb232, 0, none⟩) (Kd.R_types HO222.out BK232.out (by decide)) (fun _ hk => hk.2) (.int .i64 t227)) (fun _ hk => hk.2) (.slice Ao30 t228.length co30)) (fun _ h_ => h_.1))))) (Kd.R_lt (rU (Kd.R_mono (Kd.R_far (p := ⟨gb232, 1, none⟩) (Kd.R_far (p := ⟨gb232, 0, none⟩) (Kd.R_types HO230.out BK232.out (by decide)) (fun _ hk => hk.2) (.int .i64 t227)) (fun _ hk => hk.2) (.slice Ao30 t228.length co30)) (fun _ h_ => h_.1))))) (below_size (lV3 GE216 GE217 GE232))); replace HO222 := Aside0.mk (Kd.R_elder' (rU (Kd.R_mono (Kd.R_far (p := ⟨gb232, 1, none⟩) (Kd.R_far (p := ⟨gb232, 0, none⟩) (Kd.R_types HO222.out BK232.out (by decide)) (fun _ hk => hk.2) (.int .i64 t227)) (fun _ hk => hk.2) (.slice Ao30 t228.length co30)) (fun _ h_ => h_.1))) (Kd.R_base ho0) hb); replace HO230 := Aside0.mk (Kd.R_elder' (rU (Kd.R_mono (Kd.R_far (p := ⟨gb232, 1, none⟩) (Kd.R_far (p := ⟨gb232, 0, none⟩) (Kd.R_types HO230.out BK232.out (by decide)) (fun _ hk => hk.2) (.int .i64 t227)) (fun _ hk => hk.2) (.slice Ao30 t228.length co30)) (fun _ h_ => h_.1))) (Kd.R_base ho0) hb); replace BK216 := bB (bG NB216_232 BK216) hb; replace BK217 := bB (bG NB217_232 BK217) hb; replace BK232 := Aside0.mk (blk_below (g := gb232) (o := .cells #[.int .i64 t227, .slice Ao30 t228.length co30] 30 (0, 0)) (by refine bU ?_; refine blk_put (cs := #[.int .i64 t227, .slice none 0 0]) ?_ 1 _ rfl; refine bU ?_; refine blk_put (cs := #[.int .i64 0, .slice none 0 0]) ?_ 0 _ rfl; refine bU ?_; exact BK232.out) hb); replace HB := bH (lV3 GE216 GE217 GE232) hb; (try clear hb); (try clear ho0)) | ((with_reducible refine gate_dst (N := 8) rfl ?_); refine box_event rfl (N := 8) rfl (cs := #[.int .i64 0, .slice none 0 0]) (t := 30) sE ?_; intro gb237 hg w35 hbox hb; replace HO222 := Aside0.mk (Kd.R_below (rU HO222.out) hb); replace HO230 := Aside0.mk (Kd.R_below (rU HO230.out) hb); replace HO236 := Aside0.mk (Kd.R_below (rU HO236.out) hb); have BK237 := Aside0.mk hbox; have GW237 := gS w hg (lV3 GE216 GE217 GE232); have GE237 := gS w hg (lV3 GE216 GE217 GE232); replace HB := bH (lV3 GE216 GE217 GE232) hb; have NB216_237 := nL hg (bV BK216); have NB237_216 := nG hg (bV BK216); replace BK216 := bB (bV BK216) hb; have NB217_237 := nL hg (bV BK217); have NB237_217 := nG hg (bV BK217); replace BK217 := bB (bV BK217) hb; have NB232_237 := nL hg (bV BK232); have NB237_232 := nG hg (bV BK232); replace BK232 := bB (bV BK232) hb; clear hb hbox hg; have hnb36 := NB237_216.out; have hnc36 := NB216_237.out; have hnb37 := NB237_217.out; have hnc37 := NB217_237.out; have hnb38 := NB237_232.out; have hnc38 := NB232_237.out; have hcz39_0 := cz BK237 0 (.int .i64 0); have hcz39_1 := cz BK237 1 (.slice none 0 0); have hfz39_0 := fz BK237 0; have hfz39_1 := fz BK237 1; obtain ⟨Ao40, co40, eo40⟩ := Kd.R_slice HO236.out; subst eo40) | ((with_reducible refine gate_store (t := 30) (p := 8) rfl ?_); refine store_event (t := 30) (p := 8) (v := ?vo_w41) (w1 := ((w35.setCell ⟨gb237, 0, none⟩ (.int .i64 t233)).setCell ⟨gb237, 1, none⟩ (.slice Ao40 t234.length co40))) ?hg ?ho ?hn ?hr ?_; (case ho => rfl); (case hg => rfl); (case hn => rfl); (case hr => first | (go_simp; done) | (go_simp; rfl) | (have hq0_ := (blk_cell BK237.out 0).trans (show _ = some _ from rfl); have hf0_ := blk_frozen BK237.out 0; have hq1_ := (blk_cell BK237.out 1).trans (show _ = some _ from rfl); have hf1_ := blk_frozen BK237.out 1; first | (go_simp; done) | (go_simp; rfl))); intro w41 hw; replace HO222 : Aside0 (Kd.R k34 34 w41 w.heap.size (fun k_ => some k_ ≠ (.slice Ao30 t228.length co30 : Value).ownBlock ∧ some k_ ≠ (.slice Ao40 t234.length co40 : Value).ownBlock) v221 t220) := ⟨(by rw [hw]; exact (by (with_reducible repeat (first | apply Kd.R_alloc | apply Kd.R_drewN | apply Kd.R_drew)); exact Kd.R_mono (Kd.R_far (p := ⟨gb237, 1, none⟩) (Kd.R_far (p := ⟨gb237, 0, none⟩) (Kd.R_types HO222.out BK237.out (by decide)) (fun _ hk => hk.2) (.int .i64 t233)) (fun _ hk => hk.2) (.slice Ao40 t234.length co40)) (fun _ hk => ⟨hk.1.1, hk.1.2⟩)))⟩; replace HO230 : Aside0 (Kd.R k34 34 w41 w.heap.size (fun k_ => some k_ ≠ (v221 : Value).ownBlock ∧ some k_ ≠ (.slice Ao40 t234.length co40 : Value).ownBlock) (.slice Ao30 t228.length co30) t228) := ⟨(by rw [hw]; exact (by (with_reducible repeat (first | apply Kd.R_alloc | apply Kd.R_drewN | apply Kd.R_drew)); exact Kd.R_mono (Kd.R_far (p := ⟨gb237, 1, none⟩) (Kd.R_far (p := ⟨gb237, 0, none⟩) (Kd.R_types HO230.out BK237.out (by decide)) (fun _ hk => hk.2) (.int .i64 t233)) (fun _ hk => hk.2) (.slice Ao40 t234.length co40)) (fun _ hk => ⟨hk.1.1, hk.1.2⟩)))⟩; replace HO236 : Aside0 (Kd.R k34 34 w41 w.heap.size (fun k_ => some k_ ≠ (v221 : Value).ownBlock ∧ some k_ ≠ (.slice Ao30 t228.length co30 : Value).ownBlock) (.slice Ao40 t234.length co40) t234) := ⟨(by rw [hw]; exact (by (with_reducible repeat (first | apply Kd.R_alloc | apply Kd.R_drewN | apply Kd.R_drew)); exact Kd.R_mono (Kd.R_far (p := ⟨gb237, 1, none⟩) (Kd.R_far (p := ⟨gb237, 0, none⟩) (Kd.R_types HO236.out BK237.out (by decide)) (fun _ hk => hk.2) (.int .i64 t233)) (fun _ hk => hk.2) (.slice Ao40 t234.length co40)) (fun _ hk => ⟨hk.1.1.2, hk.1.2⟩)))⟩; replace BK216 : Aside0 (w41.heap[gb216]? = some (.cells #[.int .i64 a0_0, .slice A0_1 l0_1.length c0_1] 24 (0, 0))) := ⟨(by rw [hw]; exact (bG NB216_237 BK216))⟩; replace BK217 : Aside0 (w41.heap[gb217]? = some (.cells #[.int .i64 a1_0, .int .i64 a1_1, .int .i64 a1_2, .int .i64 a1_3] 26 (0, 0))) := ⟨(by rw [hw]; exact (bG NB217_237 BK217))⟩; replace BK232 : Aside0 (w41.heap[gb232]? = some (.cells #[.int .i64 t227, .slice Ao30 t228.length co30] 30 (0, 0))) := ⟨(by rw [hw]; exact (bG NB232_237 BK232))⟩; replace BK237 : Aside0 (w41.heap[gb237]? = some (.cells #[.int .i64 t233, .slice Ao40 t234.length co40] 30 (0, 0))) := ⟨(by rw [hw]; exact (by refine bU ?_; refine blk_put (cs := #[.int .i64 t233, .slice none 0 0]) ?_ 1 _ rfl; refine bU ?_; refine blk_put (cs := #[.int .i64 0, .slice none 0 0]) ?_ 0 _ rfl; refine bU ?_; exact BK237.out))⟩; replace HB : Aside0 (Below w.heap.size w w41) := ⟨(by rw [hw]; exact (lV4 GE216 GE217 GE232 GE237))⟩; clear hw))
  replace HO222 := Aside0.mk (Kd.R_drew HO222.out)
  replace HO230 := Aside0.mk (Kd.R_drew HO230.out)
  replace HO236 := Aside0.mk (Kd.R_drew HO236.out)
  replace BK216 := Aside0.mk (blk_drew BK216.out)
  replace BK217 := Aside0.mk (blk_drew BK217.out)
  replace BK232 := Aside0.mk (blk_drew BK232.out)
  replace BK237 := Aside0.mk (blk_drew BK237.out)
  replace HB := Aside0.mk (below_drew1 HB.out)
  refine start_ (n := 10) (S := fun w' => w'.cell? ⟨gb237, 0, none⟩ = some (.int .i64 t233) ∧ w'.cell? ⟨gb237, 1, none⟩ = some (.slice Ao40 t234.length co40) ∧ w'.cell? ⟨gb217, 0, none⟩ = some (.int .i64 a1_0) ∧ w'.cell? ⟨gb217, 1, none⟩ = some (.int .i64 a1_1) ∧ w'.cell? ⟨gb217, 2, none⟩ = some (.int .i64 a1_2) ∧ w'.cell? ⟨gb217, 3, none⟩ = some (.int .i64 a1_3)) (ds := []) #[false, false, false, false, false, false, false, false, false, false] (by kernel_rfl) rfl rfl ⟨cz BK237 0 _, cz BK237 1 _, cz BK217 0 _, cz BK217 1 _, cz BK217 2 _, cz BK217 3 _⟩ (fun hHeld => ?_); refine with_tabW laws_FnExactAddTimer.tab7 laws_FnExactAddTimer.bits7 (fun HT_ HW_ => ?_)
  generalize w41.drew = w42 at HO222 HO230 HO236 BK216 BK217 BK232 BK237 HB hHeld ⊢
  refine takeA 0 32 (bz 10 1) rfl rfl (take_ofW HT_.out HW_.out (by kernel_rfl)) hHeld (by rintro w' ⟨s0, s1, s2, s3, s4, s5⟩; go_simp; with_reducible rfl) ?_
  refine takeA 1 33 (bz 10 3) rfl rfl (take_ofW HT_.out HW_.out (by kernel_rfl)) hHeld (by rintro w' ⟨s0, s1, s2, s3, s4, s5⟩; go_simp; with_reducible rfl) ?_
  refine join_ (σ := Value × Nat) 2 #[true, true, true, true, true, true, true, true, false, false] (fun s_ => [(34, .agg #[.int .i64 t238, .int .i64 t239, .int .i64 t240, .int .i64 t241]), (35, .tuple #[.agg #[.int .i64 t242, s_.1], .bool t246]), (9, .pointer (some ⟨s_.2, 0, none⟩)), (31, .tuple #[.agg #[.int .i64 t242, s_.1], .bool t246]), (36, .agg #[.int .i64 t242, s_.1]), (37, .bool t246)]) (fun s_ w' => (w'.cell? ⟨gb237, 0, none⟩ = some (.int .i64 t233) ∧ w'.cell? ⟨gb237, 1, none⟩ = some (.slice Ao40 t234.length co40) ∧ w'.cell? ⟨gb217, 0, none⟩ = some (.int .i64 a1_0) ∧ w'.cell? ⟨gb217, 1, none⟩ = some (.int .i64 a1_1) ∧ w'.cell? ⟨gb217, 2, none⟩ = some (.int .i64 a1_2) ∧ w'.cell? ⟨gb217, 3, none⟩ = some (.int .i64 a1_3)) ∧ (Kd.R k34 34 w' w.heap.size (fun k_ => some k_ ≠ (.slice Ao30 t228.length co30 : Value).ownBlock ∧ some k_ ≠ (.slice Ao40 t234.length co40 : Value).ownBlock ∧ some k_ ≠ (s_.1 : Value).ownBlock) v221 t220) ∧ (Kd.R k34 34 w' w.heap.size (fun k_ => some k_ ≠ (v221 : Value).ownBlock ∧ some k_ ≠ (.slice Ao40 t234.length co40 : Value).ownBlock ∧ some k_ ≠ (s_.1 : Value).ownBlock) (.slice Ao30 t228.length co30) t228) ∧ (Kd.R k34 34 w' w.heap.size (fun k_ => some k_ ≠ (v221 : Value).ownBlock ∧ some k_ ≠ (.slice Ao30 t228.length co30 : Value).ownBlock ∧ some k_ ≠ (s_.1 : Value).ownBlock) (.slice Ao40 t234.length co40) t234) ∧ (Kd.R k34 34 w' w.heap.size (fun k_ => some k_ ≠ (v221 : Value).ownBlock ∧ some k_ ≠ (.slice Ao30 t228.length co30 : Value).ownBlock ∧ some k_ ≠ (.slice Ao40 t234.length co40 : Value).ownBlock) s_.1 t243) ∧ (w'.heap[gb216]? = some (.cells #[.int .i64 a0_0, .slice A0_1 l0_1.length c0_1] 24 (0, 0))) ∧ (w'.heap[gb217]? = some (.cells #[.int .i64 a1_0, .int .i64 a1_1, .int .i64 a1_2, .int .i64 a1_3] 26 (0, 0))) ∧ (w'.heap[gb232]? = some (.cells #[.int .i64 t227, .slice Ao30 t228.length co30] 30 (0, 0))) ∧ (w'.heap[gb237]? = some (.cells #[.int .i64 t233, .slice Ao40 t234.length co40] 30 (0, 0))) ∧ (w'.heap[s_.2]? = some (.cells #[.int .i64 0, .slice none 0 0] 30 (0, 0))) ∧ (w.heap.size ≤ s_.2) ∧ (w.heap.size ≤ s_.2) ∧ (gb216 ≠ s_.2) ∧ (s_.2 ≠ gb216) ∧ (gb217 ≠ s_.2) ∧ (s_.2 ≠ gb217) ∧ (gb232 ≠ s_.2) ∧ (s_.2 ≠ gb232) ∧ (gb237 ≠ s_.2) ∧ (s_.2 ≠ gb237) ∧ (Below w.heap.size w w')) ?_ ?_
  rotate_left
  ·intro hCont
   refine two_ (i := 2) (j := 7) (Ni := some 34) (Nj := some 9) #[true, true, true, false, false, false, false, false, false, false] #[true, true, false, false, false, false, false, true, false, false] rfl rfl rfl rfl (two_of HT_.out (by kernel_rfl)) (by decide) (by decide) (fun K hK => ?_) (fun K hK => ?_)
   ·skip
    refine goes_ Try.func9 (by kernel_rfl) rfl #[.agg #[.int .i64 a1_0, .int .i64 a1_1, .int .i64 a1_2, .int .i64 a1_3]] (by rfl) rfl rfl aE ?_
    with_reducible refine (laws_toTimer.calls a1_0 a1_1 a1_2 a1_3 t238 t239 t240 t241 _ A14.out).mono ?_
    rintro e w43 ⟨rfl, hb⟩
    refine ⟨_, rfl, ?_⟩
    replace HO222 := Aside0.mk (Kd.R_below (rU HO222.out) hb)
    replace HO230 := Aside0.mk (Kd.R_below (rU HO230.out) hb)
    replace HO236 := Aside0.mk (Kd.R_below (rU HO236.out) hb)
    replace BK216 := bB (bV BK216) hb
    replace BK217 := bB (bV BK217) hb
    replace BK232 := bB (bV BK232) hb
    replace BK237 := bB (bV BK237) hb
    replace HB := bH (lV4 GE216 GE217 GE232 GE237) hb
    (try clear hb)
    (try clear hb2)
    (try clear hk)
    (try clear hi)
    refine hK.out _ _ ⟨cz BK237 0 _, cz BK237 1 _, cz BK217 0 _, cz BK217 1 _, cz BK217 2 _, cz BK217 3 _⟩ (fun hHeld => ?_)
    clear hK K
    refine norm_ (a' := ?_) ?_ ?_
    rotate_left
    ·show Act.put _ (some 34) _ = _
     simp only [Act.put, List.setIfInBounds_toArray, List.set_cons_zero, List.set_cons_succ, i64_w, i32_w]
     rfl
    refine two_ (i := 3) (j := 7) (Ni := some 35) (Nj := some 9) #[true, true, true, true, false, false, false, false, false, false] #[true, true, true, false, false, false, false, true, false, false] rfl rfl rfl rfl (two_of HT_.out (by kernel_rfl)) (by decide) (by decide) (fun K hK => ?_) (fun K hK => ?_)
    ·skip
     refine goes_ Try.func10 (by kernel_rfl) rfl #[.agg #[.int .i64 t233, .slice Ao40 t234.length co40], .agg #[.int .i64 t238, .int .i64 t239, .int .i64 t240, .int .i64 t241]] (by rfl) rfl rfl aE ?_
     with_reducible refine (impl_AddTimer.calls k t233 _ _ t234 t238 t239 t240 t241 t242 t243 t246 _ ?side1 ?side2 A15.out).mono ?_
     (case side1 => exact cU (Kd.R_reads' HO236.out).2.2)
     (case side2 => exact (Kd.R_reads' HO236.out).2.1)
     rintro e w44 ⟨v244, rfl, ho0, hb⟩
     refine ⟨_, rfl, ?_⟩
     have HO245 := Aside0.mk (Kd.R_lower (Kd.R_new' (Kd.R_new' (Kd.R_new' ho0 (Kd.R_lt (rU HO222.out))) (Kd.R_lt (rU HO230.out))) (Kd.R_lt (rU HO236.out))) (below_size (lV4 GE216 GE217 GE232 GE237)))
     replace HO222 := Aside0.mk (Kd.R_elder' (rU HO222.out) (Kd.R_base ho0) hb)
     replace HO230 := Aside0.mk (Kd.R_elder' (rU HO230.out) (Kd.R_base ho0) hb)
     replace HO236 := Aside0.mk (Kd.R_elder' (rU HO236.out) (Kd.R_base ho0) hb)
     replace BK216 := bB (bV BK216) hb
     replace BK217 := bB (bV BK217) hb
     replace BK232 := bB (bV BK232) hb
     replace BK237 := bB (bV BK237) hb
     replace HB := bH (lV4 GE216 GE217 GE232 GE237) hb
     (try clear hb)
     (try clear hb2)
     (try clear hk)
     (try clear hi)
     (try clear ho0)
     refine hK.out _ _ ⟨cz BK237 0 _, cz BK237 1 _, cz BK217 0 _, cz BK217 1 _, cz BK217 2 _, cz BK217 3 _⟩ (fun hHeld => ?_)
     clear hK K
     refine norm_ (a' := ?_) ?_ ?_
     rotate_left
     ·show Act.put _ (some 35) _ = _
      simp only [Act.put, List.setIfInBounds_toArray, List.set_cons_zero, List.set_cons_succ, i64_w, i32_w]
      rfl
     refine pureA 4 31 (bz 10 31) rfl rfl (any_of HT_.out (by kernel_rfl)) ?_
     refine pureA 5 36 (bz 10 63) rfl rfl (any_of HT_.out (by kernel_rfl)) ?_
     refine pureA 6 37 (bz 10 127) rfl rfl (any_of HT_.out (by kernel_rfl)) ?_
     refine one_ (i := 7) (N := some 9) (bz 10 255) rfl rfl (one_of HT_.out (by kernel_rfl)) (by decide) (fun K hK => ?_)
     refine box_step ?hg (N := 9) ?hd (cs := #[.int .i64 0, .slice none 0 0]) (t := 30) ?hr ?_; (case hd => rfl); (case hg => rfl); (case hr => exact sE)
     intro gb247 hg w45 hbox hb
     replace HO222 := Aside0.mk (Kd.R_below (rU HO222.out) hb)
     replace HO230 := Aside0.mk (Kd.R_below (rU HO230.out) hb)
     replace HO236 := Aside0.mk (Kd.R_below (rU HO236.out) hb)
     replace HO245 := Aside0.mk (Kd.R_below (rU HO245.out) hb)
     have BK247 := Aside0.mk hbox
     have GW247 := gS w hg (lV4 GE216 GE217 GE232 GE237)
     have GE247 := gS w hg (lV4 GE216 GE217 GE232 GE237)
     replace HB := bH (lV4 GE216 GE217 GE232 GE237) hb
     have NB216_247 := nL hg (bV BK216)
     have NB247_216 := nG hg (bV BK216)
     replace BK216 := bB (bV BK216) hb
     have NB217_247 := nL hg (bV BK217)
     have NB247_217 := nG hg (bV BK217)
     replace BK217 := bB (bV BK217) hb
     have NB232_247 := nL hg (bV BK232)
     have NB247_232 := nG hg (bV BK232)
     replace BK232 := bB (bV BK232) hb
     have NB237_247 := nL hg (bV BK237)
     have NB247_237 := nG hg (bV BK237)
     replace BK237 := bB (bV BK237) hb
     clear hb hbox hg
     refine hK.out _ _ ⟨cz BK237 0 _, cz BK237 1 _, cz BK217 0 _, cz BK217 1 _, cz BK217 2 _, cz BK217 3 _⟩ (fun hHeld => ?_)
     clear hK K
     refine norm_ (a' := ?_) ?_ ?_
     rotate_left
     ·show Act.put _ (some 9) _ = _
      simp only [Act.put, List.setIfInBounds_toArray, List.set_cons_zero, List.set_cons_succ, i64_w, i32_w]
      rfl
     exact norm_ (by simp only [putAll, Act.put, List.setIfInBounds_toArray, List.set_cons_zero, List.set_cons_succ]) (hCont (v244, gb247) _ ⟨hHeld, (by (with_reducible repeat (first | apply Kd.R_alloc | apply Kd.R_drewN | apply Kd.R_drew)); exact Kd.R_mono HO222.out (fun _ hk => ⟨hk.1.1, ⟨hk.1.2, hk.2⟩⟩)), (by (with_reducible repeat (first | apply Kd.R_alloc | apply Kd.R_drewN | apply Kd.R_drew)); exact Kd.R_mono HO230.out (fun _ hk => ⟨hk.1.1, ⟨hk.1.2, hk.2⟩⟩)), (by (with_reducible repeat (first | apply Kd.R_alloc | apply Kd.R_drewN | apply Kd.R_drew)); exact Kd.R_mono HO236.out (fun _ hk => ⟨hk.1.1, ⟨hk.1.2, hk.2⟩⟩)), (by (with_reducible repeat (first | apply Kd.R_alloc | apply Kd.R_drewN | apply Kd.R_drew)); exact Kd.R_mono HO245.out (fun _ hk => ⟨hk.1.1.2, ⟨hk.1.2, hk.2⟩⟩)), (bV BK216), (bV BK217), (bV BK232), (bV BK237), (bV BK247), GW247.out, GE247.out, NB216_247.out, NB247_216.out, NB217_247.out, NB247_217.out, NB232_247.out, NB247_232.out, NB237_247.out, NB247_237.out, (lV5 GE216 GE217 GE232 GE237 GE247)⟩)
    ·skip
     refine box_step ?hg (N := 9) ?hd (cs := #[.int .i64 0, .slice none 0 0]) (t := 30) ?hr ?_; (case hd => rfl); (case hg => rfl); (case hr => exact sE)
     intro gb247 hg w44 hbox hb
     replace HO222 := Aside0.mk (Kd.R_below (rU HO222.out) hb)
     replace HO230 := Aside0.mk (Kd.R_below (rU HO230.out) hb)
     replace HO236 := Aside0.mk (Kd.R_below (rU HO236.out) hb)
     have BK247 := Aside0.mk hbox
     have GW247 := gS w hg (lV4 GE216 GE217 GE232 GE237)
     have GE247 := gS w hg (lV4 GE216 GE217 GE232 GE237)
     replace HB := bH (lV4 GE216 GE217 GE232 GE237) hb
     have NB216_247 := nL hg (bV BK216)
     have NB247_216 := nG hg (bV BK216)
     replace BK216 := bB (bV BK216) hb
     have NB217_247 := nL hg (bV BK217)
     have NB247_217 := nG hg (bV BK217)
     replace BK217 := bB (bV BK217) hb
     have NB232_247 := nL hg (bV BK232)
     have NB247_232 := nG hg (bV BK232)
     replace BK232 := bB (bV BK232) hb
     have NB237_247 := nL hg (bV BK237)
     have NB247_237 := nG hg (bV BK237)
     replace BK237 := bB (bV BK237) hb
     clear hb hbox hg
     refine hK.out _ _ ⟨cz BK237 0 _, cz BK237 1 _, cz BK217 0 _, cz BK217 1 _, cz BK217 2 _, cz BK217 3 _⟩ (fun hHeld => ?_)
     clear hK K
     refine norm_ (a' := ?_) ?_ ?_
     rotate_left
     ·show Act.put _ (some 9) _ = _
      simp only [Act.put, List.setIfInBounds_toArray, List.set_cons_zero, List.set_cons_succ, i64_w, i32_w]
      rfl
     refine one_ (i := 3) (N := some 35) (bz 10 143) rfl rfl (one_of HT_.out (by kernel_rfl)) (by decide) (fun K hK => ?_)
     refine goes_ Try.func10 (by kernel_rfl) rfl #[.agg #[.int .i64 t233, .slice Ao40 t234.length co40], .agg #[.int .i64 t238, .int .i64 t239, .int .i64 t240, .int .i64 t241]] (by rfl) rfl rfl aE ?_
     with_reducible refine (impl_AddTimer.calls k t233 _ _ t234 t238 t239 t240 t241 t242 t243 t246 _ ?side1 ?side2 A15.out).mono ?_
     (case side1 => exact cU (Kd.R_reads' HO236.out).2.2)
     (case side2 => exact (Kd.R_reads' HO236.out).2.1)
     rintro e w45 ⟨v244, rfl, ho0, hb⟩
     refine ⟨_, rfl, ?_⟩
     have HO245 := Aside0.mk (Kd.R_lower (Kd.R_new' (Kd.R_new' (Kd.R_new' ho0 (Kd.R_lt (rU HO222.out))) (Kd.R_lt (rU HO230.out))) (Kd.R_lt (rU HO236.out))) (below_size (lV5 GE216 GE217 GE232 GE237 GE247)))
     replace HO222 := Aside0.mk (Kd.R_elder' (rU HO222.out) (Kd.R_base ho0) hb)
     replace HO230 := Aside0.mk (Kd.R_elder' (rU HO230.out) (Kd.R_base ho0) hb)
     replace HO236 := Aside0.mk (Kd.R_elder' (rU HO236.out) (Kd.R_base ho0) hb)
     replace BK216 := bB (bV BK216) hb
     replace BK217 := bB (bV BK217) hb
     replace BK232 := bB (bV BK232) hb
     replace BK237 := bB (bV BK237) hb
     replace BK247 := bB (bV BK247) hb
     replace HB := bH (lV5 GE216 GE217 GE232 GE237 GE247) hb
     (try clear hb)
     (try clear hb2)
     (try clear hk)
     (try clear hi)
     (try clear ho0)
     refine hK.out _ _ ⟨cz BK237 0 _, cz BK237 1 _, cz BK217 0 _, cz BK217 1 _, cz BK217 2 _, cz BK217 3 _⟩ (fun hHeld => ?_)
     clear hK K
     refine norm_ (a' := ?_) ?_ ?_
     rotate_left
     ·show Act.put _ (some 35) _ = _
      simp only [Act.put, List.setIfInBounds_toArray, List.set_cons_zero, List.set_cons_succ, i64_w, i32_w]
      rfl
     refine pureA 4 31 (bz 10 159) rfl rfl (any_of HT_.out (by kernel_rfl)) ?_
     refine pureA 5 36 (bz 10 191) rfl rfl (any_of HT_.out (by kernel_rfl)) ?_
     refine pureA 6 37 (bz 10 255) rfl rfl (any_of HT_.out (by kernel_rfl)) ?_
     exact norm_ (by simp only [putAll, Act.put, List.setIfInBounds_toArray, List.set_cons_zero, List.set_cons_succ]) (hCont (v244, gb247) _ ⟨hHeld, (by (with_reducible repeat (first | apply Kd.R_alloc | apply Kd.R_drewN | apply Kd.R_drew)); exact Kd.R_mono HO222.out (fun _ hk => ⟨hk.1.1, ⟨hk.1.2, hk.2⟩⟩)), (by (with_reducible repeat (first | apply Kd.R_alloc | apply Kd.R_drewN | apply Kd.R_drew)); exact Kd.R_mono HO230.out (fun _ hk => ⟨hk.1.1, ⟨hk.1.2, hk.2⟩⟩)), (by (with_reducible repeat (first | apply Kd.R_alloc | apply Kd.R_drewN | apply Kd.R_drew)); exact Kd.R_mono HO236.out (fun _ hk => ⟨hk.1.1, ⟨hk.1.2, hk.2⟩⟩)), (by (with_reducible repeat (first | apply Kd.R_alloc | apply Kd.R_drewN | apply Kd.R_drew)); exact Kd.R_mono HO245.out (fun _ hk => ⟨hk.1.1.2, ⟨hk.1.2, hk.2⟩⟩)), (bV BK216), (bV BK217), (bV BK232), (bV BK237), (bV BK247), GW247.out, GE247.out, NB216_247.out, NB247_216.out, NB217_247.out, NB247_217.out, NB232_247.out, NB247_232.out, NB237_247.out, NB247_237.out, (lV5 GE216 GE217 GE232 GE237 GE247)⟩)
   ·skip
    refine box_step ?hg (N := 9) ?hd (cs := #[.int .i64 0, .slice none 0 0]) (t := 30) ?hr ?_; (case hd => rfl); (case hg => rfl); (case hr => exact sE)
    intro gb247 hg w43 hbox hb
    replace HO222 := Aside0.mk (Kd.R_below (rU HO222.out) hb)
    replace HO230 := Aside0.mk (Kd.R_below (rU HO230.out) hb)
    replace HO236 := Aside0.mk (Kd.R_below (rU HO236.out) hb)
    have BK247 := Aside0.mk hbox
    have GW247 := gS w hg (lV4 GE216 GE217 GE232 GE237)
    have GE247 := gS w hg (lV4 GE216 GE217 GE232 GE237)
    replace HB := bH (lV4 GE216 GE217 GE232 GE237) hb
    have NB216_247 := nL hg (bV BK216)
    have NB247_216 := nG hg (bV BK216)
    replace BK216 := bB (bV BK216) hb
    have NB217_247 := nL hg (bV BK217)
    have NB247_217 := nG hg (bV BK217)
    replace BK217 := bB (bV BK217) hb
    have NB232_247 := nL hg (bV BK232)
    have NB247_232 := nG hg (bV BK232)
    replace BK232 := bB (bV BK232) hb
    have NB237_247 := nL hg (bV BK237)
    have NB247_237 := nG hg (bV BK237)
    replace BK237 := bB (bV BK237) hb
    clear hb hbox hg
    refine hK.out _ _ ⟨cz BK237 0 _, cz BK237 1 _, cz BK217 0 _, cz BK217 1 _, cz BK217 2 _, cz BK217 3 _⟩ (fun hHeld => ?_)
    clear hK K
    refine norm_ (a' := ?_) ?_ ?_
    rotate_left
    ·show Act.put _ (some 9) _ = _
     simp only [Act.put, List.setIfInBounds_toArray, List.set_cons_zero, List.set_cons_succ, i64_w, i32_w]
     rfl
    refine one_ (i := 2) (N := some 34) (bz 10 135) rfl rfl (one_of HT_.out (by kernel_rfl)) (by decide) (fun K hK => ?_)
    refine goes_ Try.func9 (by kernel_rfl) rfl #[.agg #[.int .i64 a1_0, .int .i64 a1_1, .int .i64 a1_2, .int .i64 a1_3]] (by rfl) rfl rfl aE ?_
    with_reducible refine (laws_toTimer.calls a1_0 a1_1 a1_2 a1_3 t238 t239 t240 t241 _ A14.out).mono ?_
    rintro e w44 ⟨rfl, hb⟩
    refine ⟨_, rfl, ?_⟩
    replace HO222 := Aside0.mk (Kd.R_below (rU HO222.out) hb)
    replace HO230 := Aside0.mk (Kd.R_below (rU HO230.out) hb)
    replace HO236 := Aside0.mk (Kd.R_below (rU HO236.out) hb)
    replace BK216 := bB (bV BK216) hb
    replace BK217 := bB (bV BK217) hb
    replace BK232 := bB (bV BK232) hb
    replace BK237 := bB (bV BK237) hb
    replace BK247 := bB (bV BK247) hb
    replace HB := bH (lV5 GE216 GE217 GE232 GE237 GE247) hb
    (try clear hb)
    (try clear hb2)
    (try clear hk)
    (try clear hi)
    refine hK.out _ _ ⟨cz BK237 0 _, cz BK237 1 _, cz BK217 0 _, cz BK217 1 _, cz BK217 2 _, cz BK217 3 _⟩ (fun hHeld => ?_)
    clear hK K
    refine norm_ (a' := ?_) ?_ ?_
    rotate_left
    ·show Act.put _ (some 34) _ = _
     simp only [Act.put, List.setIfInBounds_toArray, List.set_cons_zero, List.set_cons_succ, i64_w, i32_w]
     rfl
    refine one_ (i := 3) (N := some 35) (bz 10 143) rfl rfl (one_of HT_.out (by kernel_rfl)) (by decide) (fun K hK => ?_)
    refine goes_ Try.func10 (by kernel_rfl) rfl #[.agg #[.int .i64 t233, .slice Ao40 t234.length co40], .agg #[.int .i64 t238, .int .i64 t239, .int .i64 t240, .int .i64 t241]] (by rfl) rfl rfl aE ?_
    with_reducible refine (impl_AddTimer.calls k t233 _ _ t234 t238 t239 t240 t241 t242 t243 t246 _ ?side1 ?side2 A15.out).mono ?_
    (case side1 => exact cU (Kd.R_reads' HO236.out).2.2)
    (case side2 => exact (Kd.R_reads' HO236.out).2.1)
    rintro e w45 ⟨v244, rfl, ho0, hb⟩
    refine ⟨_, rfl, ?_⟩
    have HO245 := Aside0.mk (Kd.R_lower (Kd.R_new' (Kd.R_new' (Kd.R_new' ho0 (Kd.R_lt (rU HO222.out))) (Kd.R_lt (rU HO230.out))) (Kd.R_lt (rU HO236.out))) (below_size (lV5 GE216 GE217 GE232 GE237 GE247)))
    replace HO222 := Aside0.mk (Kd.R_elder' (rU HO222.out) (Kd.R_base ho0) hb)
    replace HO230 := Aside0.mk (Kd.R_elder' (rU HO230.out) (Kd.R_base ho0) hb)
    replace HO236 := Aside0.mk (Kd.R_elder' (rU HO236.out) (Kd.R_base ho0) hb)
    replace BK216 := bB (bV BK216) hb
    replace BK217 := bB (bV BK217) hb
    replace BK232 := bB (bV BK232) hb
    replace BK237 := bB (bV BK237) hb
    replace BK247 := bB (bV BK247) hb
    replace HB := bH (lV5 GE216 GE217 GE232 GE237 GE247) hb
    (try clear hb)
    (try clear hb2)
    (try clear hk)
    (try clear hi)
    (try clear ho0)
    refine hK.out _ _ ⟨cz BK237 0 _, cz BK237 1 _, cz BK217 0 _, cz BK217 1 _, cz BK217 2 _, cz BK217 3 _⟩ (fun hHeld => ?_)
    clear hK K
    refine norm_ (a' := ?_) ?_ ?_
    rotate_left
    ·show Act.put _ (some 35) _ = _
     simp only [Act.put, List.setIfInBounds_toArray, List.set_cons_zero, List.set_cons_succ, i64_w, i32_w]
     rfl
    refine pureA 4 31 (bz 10 159) rfl rfl (any_of HT_.out (by kernel_rfl)) ?_
    refine pureA 5 36 (bz 10 191) rfl rfl (any_of HT_.out (by kernel_rfl)) ?_
    refine pureA 6 37 (bz 10 255) rfl rfl (any_of HT_.out (by kernel_rfl)) ?_
    exact norm_ (by simp only [putAll, Act.put, List.setIfInBounds_toArray, List.set_cons_zero, List.set_cons_succ]) (hCont (v244, gb247) _ ⟨hHeld, (by (with_reducible repeat (first | apply Kd.R_alloc | apply Kd.R_drewN | apply Kd.R_drew)); exact Kd.R_mono HO222.out (fun _ hk => ⟨hk.1.1, ⟨hk.1.2, hk.2⟩⟩)), (by (with_reducible repeat (first | apply Kd.R_alloc | apply Kd.R_drewN | apply Kd.R_drew)); exact Kd.R_mono HO230.out (fun _ hk => ⟨hk.1.1, ⟨hk.1.2, hk.2⟩⟩)), (by (with_reducible repeat (first | apply Kd.R_alloc | apply Kd.R_drewN | apply Kd.R_drew)); exact Kd.R_mono HO236.out (fun _ hk => ⟨hk.1.1, ⟨hk.1.2, hk.2⟩⟩)), (by (with_reducible repeat (first | apply Kd.R_alloc | apply Kd.R_drewN | apply Kd.R_drew)); exact Kd.R_mono HO245.out (fun _ hk => ⟨hk.1.1.2, ⟨hk.1.2, hk.2⟩⟩)), (bV BK216), (bV BK217), (bV BK232), (bV BK237), (bV BK247), GW247.out, GE247.out, NB216_247.out, NB247_216.out, NB217_247.out, NB247_217.out, NB232_247.out, NB247_232.out, NB237_247.out, NB247_237.out, (lV5 GE216 GE217 GE232 GE237 GE247)⟩)
  rintro ⟨v244, gb247⟩ w46 ⟨hS_, h0_, h1_, h2_, h3_, h4_, h5_, h6_, h7_, h8_, h9_, h10_, h11_, h12_, h13_, h14_, h15_, h16_, h17_, h18_, h19_⟩
  replace HO222 : Aside0 (Kd.R k34 34 w46 w.heap.size (fun k_ => some k_ ≠ (.slice Ao30 t228.length co30 : Value).ownBlock ∧ some k_ ≠ (.slice Ao40 t234.length co40 : Value).ownBlock ∧ some k_ ≠ (v244 : Value).ownBlock) v221 t220) := ⟨h0_⟩
  replace HO230 : Aside0 (Kd.R k34 34 w46 w.heap.size (fun k_ => some k_ ≠ (v221 : Value).ownBlock ∧ some k_ ≠ (.slice Ao40 t234.length co40 : Value).ownBlock ∧ some k_ ≠ (v244 : Value).ownBlock) (.slice Ao30 t228.length co30) t228) := ⟨h1_⟩
  replace HO236 : Aside0 (Kd.R k34 34 w46 w.heap.size (fun k_ => some k_ ≠ (v221 : Value).ownBlock ∧ some k_ ≠ (.slice Ao30 t228.length co30 : Value).ownBlock ∧ some k_ ≠ (v244 : Value).ownBlock) (.slice Ao40 t234.length co40) t234) := ⟨h2_⟩
  have HO245 : Aside0 (Kd.R k34 34 w46 w.heap.size (fun k_ => some k_ ≠ (v221 : Value).ownBlock ∧ some k_ ≠ (.slice Ao30 t228.length co30 : Value).ownBlock ∧ some k_ ≠ (.slice Ao40 t234.length co40 : Value).ownBlock) v244 t243) := ⟨h3_⟩
  replace BK216 : Aside0 (w46.heap[gb216]? = some (.cells #[.int .i64 a0_0, .slice A0_1 l0_1.length c0_1] 24 (0, 0))) := ⟨h4_⟩
  replace BK217 : Aside0 (w46.heap[gb217]? = some (.cells #[.int .i64 a1_0, .int .i64 a1_1, .int .i64 a1_2, .int .i64 a1_3] 26 (0, 0))) := ⟨h5_⟩
  replace BK232 : Aside0 (w46.heap[gb232]? = some (.cells #[.int .i64 t227, .slice Ao30 t228.length co30] 30 (0, 0))) := ⟨h6_⟩
  replace BK237 : Aside0 (w46.heap[gb237]? = some (.cells #[.int .i64 t233, .slice Ao40 t234.length co40] 30 (0, 0))) := ⟨h7_⟩
  have BK247 : Aside0 (w46.heap[gb247]? = some (.cells #[.int .i64 0, .slice none 0 0] 30 (0, 0))) := ⟨h8_⟩
  have GW247 : Aside0 (w.heap.size ≤ gb247) := ⟨h9_⟩
  have GE247 : Aside0 (w.heap.size ≤ gb247) := ⟨h10_⟩
  have NB216_247 : Aside0 (gb216 ≠ gb247) := ⟨h11_⟩
  have NB247_216 : Aside0 (gb247 ≠ gb216) := ⟨h12_⟩
  have NB217_247 : Aside0 (gb217 ≠ gb247) := ⟨h13_⟩
  have NB247_217 : Aside0 (gb247 ≠ gb217) := ⟨h14_⟩
  have NB232_247 : Aside0 (gb232 ≠ gb247) := ⟨h15_⟩
  have NB247_232 : Aside0 (gb247 ≠ gb232) := ⟨h16_⟩
  have NB237_247 : Aside0 (gb237 ≠ gb247) := ⟨h17_⟩
  have NB247_237 : Aside0 (gb247 ≠ gb237) := ⟨h18_⟩
  replace HB : Aside0 (Below w.heap.size w w46) := ⟨h19_⟩
  clear h0_ h1_ h2_ h3_ h4_ h5_ h6_ h7_ h8_ h9_ h10_ h11_ h12_ h13_ h14_ h15_ h16_ h17_ h18_ h19_
  have hHeld : w46.cell? ⟨gb237, 0, none⟩ = some (.int .i64 t233) ∧ w46.cell? ⟨gb237, 1, none⟩ = some (.slice Ao40 t234.length co40) ∧ w46.cell? ⟨gb217, 0, none⟩ = some (.int .i64 a1_0) ∧ w46.cell? ⟨gb217, 1, none⟩ = some (.int .i64 a1_1) ∧ w46.cell? ⟨gb217, 2, none⟩ = some (.int .i64 a1_2) ∧ w46.cell? ⟨gb217, 3, none⟩ = some (.int .i64 a1_3) := hS_
  obtain ⟨Ao48, co48, eo48⟩ := Kd.R_slice HO245.out
  (first | subst eo48 | (injection eo48 with f1_ f2_ f3_; have f4_ := f1_.symm; have f5_ := f3_.symm; clear f1_ f2_ f3_; subst f4_; subst f5_))
  refine norm_ (a' := ?_) ?_ ?_
  rotate_left
  ·simp only [putAll, Act.put, List.setIfInBounds_toArray, List.set_cons_zero, List.set_cons_succ]
   rfl
  refine one_ (i := 8) (N := none) (bz 10 511) rfl rfl (one_of HT_.out (by kernel_rfl)) (by decide) (fun K hK => ?_)
  have hs47 : w46.cell? ⟨gb247, 0, none⟩ = some (.int .i64 0) := (blk_cell BK247.out 0).trans rfl
  have hfs47 := blk_frozen BK247.out 0
  have hns47_0 := NB216_247.out
  have hns47_1 := NB217_247.out
  have hns47_2 := NB232_247.out
  have hns47_3 := NB237_247.out
  have hms47_0 := NB247_216.out
  have hms47_1 := NB247_217.out
  have hms47_2 := NB247_232.out
  have hms47_3 := NB247_237.out
  have hs49 : w46.cell? ⟨gb247, 1, none⟩ = some (.slice none 0 0) := (blk_cell BK247.out 1).trans rfl
  have hfs49 := blk_frozen BK247.out 1
  have hns49_0 := NB216_247.out
  have hns49_1 := NB217_247.out
  have hns49_2 := NB232_247.out
  have hns49_3 := NB237_247.out
  have hms49_0 := NB247_216.out
  have hms49_1 := NB247_217.out
  have hms49_2 := NB247_232.out
  have hms49_3 := NB247_237.out
  refine skip_ (w1 := ?_) (by rfl) rfl ?_ ?_
  rotate_left
  ·go_simp
   rfl
  refine hK.out _ _ ⟨((cell_far (p := ⟨gb247, _, none⟩) NB237_247.out _).trans (((cell_far (p := ⟨gb247, _, none⟩) NB237_247.out _).trans (hHeld.1)))), ((cell_far (p := ⟨gb247, _, none⟩) NB237_247.out _).trans (((cell_far (p := ⟨gb247, _, none⟩) NB237_247.out _).trans (hHeld.2.1)))), ((cell_far (p := ⟨gb247, _, none⟩) NB217_247.out _).trans (((cell_far (p := ⟨gb247, _, none⟩) NB217_247.out _).trans (hHeld.2.2.1)))), ((cell_far (p := ⟨gb247, _, none⟩) NB217_247.out _).trans (((cell_far (p := ⟨gb247, _, none⟩) NB217_247.out _).trans (hHeld.2.2.2.1)))), ((cell_far (p := ⟨gb247, _, none⟩) NB217_247.out _).trans (((cell_far (p := ⟨gb247, _, none⟩) NB217_247.out _).trans (hHeld.2.2.2.2.1)))), ((cell_far (p := ⟨gb247, _, none⟩) NB217_247.out _).trans (((cell_far (p := ⟨gb247, _, none⟩) NB217_247.out _).trans (hHeld.2.2.2.2.2))))⟩ (fun hHeld => ?_)
  clear hK K
  refine pureA 9 10 (bz 10 1023) rfl rfl (any_of HT_.out (by kernel_rfl)) ?_
  refine done_ (done_of HT_.out (by kernel_rfl)) ?_
  go_upto_region 8 with (fail)
  go_cut [46] (fun v46 wc => ∃ (kq : Nat) (x46_15 : Bool), v46 = .bool x46_15 ∧ Aside0 (laws_FnExactAddTimer.j0 kq t231 t246 x46_15 a0_0 l0_1 a1_0 a1_1 a1_2 a1_3 t227 t228 t233 t234 t242 t243 = some r) ∧ Aside0 (kq ≤ k) ∧ Aside0 (Kd.R k34 34 wc w.heap.size (fun k_ => some k_ ≠ ((.slice Ao40 t234.length co40) : Value).ownBlock ∧ some k_ ≠ ((.slice Ao48 t243.length co48) : Value).ownBlock) (.slice Ao30 t228.length co30) t228) ∧ Aside0 (Kd.R k34 34 wc w.heap.size (fun k_ => some k_ ≠ ((.slice Ao30 t228.length co30) : Value).ownBlock ∧ some k_ ≠ ((.slice Ao48 t243.length co48) : Value).ownBlock) (.slice Ao40 t234.length co40) t234) ∧ Aside0 (Kd.R k34 34 wc w.heap.size (fun k_ => some k_ ≠ ((.slice Ao30 t228.length co30) : Value).ownBlock ∧ some k_ ≠ ((.slice Ao40 t234.length co40) : Value).ownBlock) (.slice Ao48 t243.length co48) t243) ∧ Aside0 (wc.heap[gb216]? = some (.cells #[.int .i64 a0_0, (.slice A0_1 l0_1.length c0_1)] 24 (0, 0))) ∧ Aside0 (wc.heap[gb217]? = some (.cells #[.int .i64 a1_0, .int .i64 a1_1, .int .i64 a1_2, .int .i64 a1_3] 26 (0, 0))) ∧ Aside0 (wc.heap[gb232]? = some (.cells #[.int .i64 t227, (.slice Ao30 t228.length co30)] 30 (0, 0))) ∧ Aside0 (wc.heap[gb237]? = some (.cells #[.int .i64 t233, (.slice Ao40 t234.length co40)] 30 (0, 0))) ∧ Aside0 (wc.heap[gb247]? = some (.cells #[.int .i64 t242, (.slice Ao48 t243.length co48)] 30 (0, 0))) ∧ Aside0 (Below w.heap.size w wc))
  case first =>
   have H := HC16.out
   clear HC16
   replace H := Option.bind_eq_some_iff.mp H
   obtain ⟨t248, A500, H⟩ := H
   replace H : (if t248 = true then (laws_FnExactAddTimer.j0 k t231 t246 (t246 != t231) a0_0 l0_1 a1_0 a1_1 a1_2 a1_3 t227 t228 t233 t234 t242 t243) else (laws_FnExactAddTimer.j0 k t231 t246 true a0_0 l0_1 a1_0 a1_1 a1_2 a1_3 t227 t228 t233 t234 t242 t243)) = some r := H
   have A50 := Aside0.mk A500
   clear A500
   by_cases c51 : t248 = true
   ·subst c51
    have H1 : (laws_FnExactAddTimer.j0 k t231 t246 (t246 != t231) a0_0 l0_1 a1_0 a1_1 a1_2 a1_3 t227 t228 t233 t234 t242 t243) = some r := by rw [if_pos rfl] at H; exact H
    clear H
    have H := H1
    clear H1
    have H' := Aside0.mk H
    clear H
    have hnb52 := NB247_216.out
    have hnc52 := NB216_247.out
    have hnb53 := NB247_217.out
    have hnc53 := NB217_247.out
    have hnb54 := NB247_232.out
    have hnc54 := NB232_247.out
    have hnb55 := NB247_237.out
    have hnc55 := NB237_247.out
    have hcz56_0 := cz BK247 0 (.int .i64 0)
    have hcz56_1 := cz BK247 1 (.slice none 0 0)
    have hfz56_0 := fz BK247 0
    have hfz56_1 := fz BK247 1
    have hnb57 := NB232_216.out
    have hnc57 := NB216_232.out
    have hnb58 := NB232_217.out
    have hnc58 := NB217_232.out
    have hnb59 := NB232_237.out
    have hnc59 := NB237_232.out
    have hcz60_0 := cz BK232 0 (.int .i64 t227)
    have hcz60_1 := cz BK232 1 (.slice Ao30 t228.length co30)
    have hfz60_0 := fz BK232 0
    have hfz60_1 := fz BK232 1
    go_wp2_with (first | ((with_reducible refine gate_callee (f := 11) rfl ?_); refine goesL_ (some 40) rfl rfl Try.func11 (by kernel_rfl) rfl #[.agg #[.int .i64 t242, .slice Ao48 t243.length co48], .agg #[.int .i64 t227, .slice Ao30 t228.length co30]] rfl aE ?_; (with_reducible refine (laws_eqClock.calls k t242 _ _ t243 t227 _ _ t228 true _ ?side1 ?side2 ?side3 ?side4 A50.out).mono ?_); (case side1 => refine (Kd.R_reads' (e := 34) (base := w.heap.size) (ok := fun k_ => (some k_ ≠ (v221 : Value).ownBlock ∧ (some k_ ≠ (.slice Ao30 t228.length co30 : Value).ownBlock ∧ some k_ ≠ (.slice Ao40 t234.length co40 : Value).ownBlock))) (n := t243.length) (c := co48) ?_).2.2; exact (rU (Kd.R_mono (Kd.R_far (p := ⟨gb247, 1, none⟩) (Kd.R_far (p := ⟨gb247, 0, none⟩) (Kd.R_types HO245.out BK247.out (by decide)) (fun _ hk => hk.2) (.int .i64 t242)) (fun _ hk => hk.2) (.slice Ao48 t243.length co48)) (fun _ h_ => h_.1)))); (case side2 => exact (Kd.R_reads' HO245.out).2.1); (case side3 => refine (Kd.R_reads' (e := 34) (base := w.heap.size) (ok := fun k_ => (some k_ ≠ (v221 : Value).ownBlock ∧ (some k_ ≠ (.slice Ao40 t234.length co40 : Value).ownBlock ∧ some k_ ≠ (.slice Ao48 t243.length co48 : Value).ownBlock))) (n := t228.length) (c := co30) ?_).2.2; exact (rU (Kd.R_mono (Kd.R_far (p := ⟨gb247, 1, none⟩) (Kd.R_far (p := ⟨gb247, 0, none⟩) (Kd.R_types HO230.out BK247.out (by decide)) (fun _ hk => hk.2) (.int .i64 t242)) (fun _ hk => hk.2) (.slice Ao48 t243.length co48)) (fun _ h_ => h_.1)))); (case side4 => exact (Kd.R_reads' HO230.out).2.1); rintro e w61 ⟨rfl, hb⟩; refine ⟨_, rfl, ?_⟩; replace HO222 := Aside0.mk (Kd.R_below (rU (Kd.R_mono (Kd.R_far (p := ⟨gb247, 1, none⟩) (Kd.R_far (p := ⟨gb247, 0, none⟩) (Kd.R_types HO222.out BK247.out (by decide)) (fun _ hk => hk.2) (.int .i64 t242)) (fun _ hk => hk.2) (.slice Ao48 t243.length co48)) (fun _ h_ => h_.1))) hb); replace HO230 := Aside0.mk (Kd.R_below (rU (Kd.R_mono (Kd.R_far (p := ⟨gb247, 1, none⟩) (Kd.R_far (p := ⟨gb247, 0, none⟩) (Kd.R_types HO230.out BK247.out (by decide)) (fun _ hk => hk.2) (.int .i64 t242)) (fun _ hk => hk.2) (.slice Ao48 t243.length co48)) (fun _ h_ => h_.1))) hb); replace HO236 := Aside0.mk (Kd.R_below (rU (Kd.R_mono (Kd.R_far (p := ⟨gb247, 1, none⟩) (Kd.R_far (p := ⟨gb247, 0, none⟩) (Kd.R_types HO236.out BK247.out (by decide)) (fun _ hk => hk.2) (.int .i64 t242)) (fun _ hk => hk.2) (.slice Ao48 t243.length co48)) (fun _ h_ => h_.1))) hb); replace HO245 := Aside0.mk (Kd.R_below (rU (Kd.R_mono (Kd.R_far (p := ⟨gb247, 1, none⟩) (Kd.R_far (p := ⟨gb247, 0, none⟩) (Kd.R_types HO245.out BK247.out (by decide)) (fun _ hk => hk.2) (.int .i64 t242)) (fun _ hk => hk.2) (.slice Ao48 t243.length co48)) (fun _ h_ => h_.1))) hb); replace BK216 := bB (bG NB216_247 BK216) hb; replace BK217 := bB (bG NB217_247 BK217) hb; replace BK232 := bB (bG NB232_247 BK232) hb; replace BK237 := bB (bG NB237_247 BK237) hb; replace BK247 := Aside0.mk (blk_below (g := gb247) (o := .cells #[.int .i64 t242, .slice Ao48 t243.length co48] 30 (0, 0)) (by refine bU ?_; refine blk_put (cs := #[.int .i64 t242, .slice none 0 0]) ?_ 1 _ rfl; refine bU ?_; refine blk_put (cs := #[.int .i64 0, .slice none 0 0]) ?_ 0 _ rfl; refine bU ?_; exact BK247.out) hb); replace HB := bH (lV5 GE216 GE217 GE232 GE237 GE247) hb; (try clear hb)))
    go_meet
    case rel => exact ⟨_, ((t246 != t231)), tE, H', ⟨by first | omega | exact Nat.le_refl _⟩, ⟨by (with_reducible repeat (first | apply Kd.R_alloc | apply Kd.R_drewN | apply Kd.R_drew)); exact Kd.R_mono HO230.out (fun _ hk => ⟨hk.2.1, hk.2.2⟩)⟩, ⟨by (with_reducible repeat (first | apply Kd.R_alloc | apply Kd.R_drewN | apply Kd.R_drew)); exact Kd.R_mono HO236.out (fun _ hk => ⟨hk.2.1, hk.2.2⟩)⟩, ⟨by (with_reducible repeat (first | apply Kd.R_alloc | apply Kd.R_drewN | apply Kd.R_drew)); exact Kd.R_mono HO245.out (fun _ hk => ⟨hk.2.1, hk.2.2⟩)⟩, ⟨by refine bU ?_; exact BK216.out⟩, ⟨by refine bU ?_; exact BK217.out⟩, ⟨by refine bU ?_; exact BK232.out⟩, ⟨by refine bU ?_; exact BK237.out⟩, ⟨by refine bU ?_; exact BK247.out⟩, ⟨by repeat (first | (with_reducible first | exact HB.out | apply below_alloc | apply pw_below_drewN | apply below_drew1 | refine below_set ?_ GE216.out | refine below_set ?_ GE217.out | refine below_set ?_ GE232.out | refine below_set ?_ GE237.out | refine below_set ?_ GE247.out) | exact HB.out)⟩⟩
   ·replace c51 := Bool.eq_false_iff.mpr c51
    subst c51
    have H1 : (laws_FnExactAddTimer.j0 k t231 t246 true a0_0 l0_1 a1_0 a1_1 a1_2 a1_3 t227 t228 t233 t234 t242 t243) = some r := by rw [if_neg (show ¬ (false = true) by decide)] at H; exact H
    clear H
    have H := H1
    clear H1
    have H' := Aside0.mk H
    clear H
    have hnb62 := NB247_216.out
    have hnc62 := NB216_247.out
    have hnb63 := NB247_217.out
    have hnc63 := NB217_247.out
    have hnb64 := NB247_232.out
    have hnc64 := NB232_247.out
    have hnb65 := NB247_237.out
    have hnc65 := NB237_247.out
    have hcz66_0 := cz BK247 0 (.int .i64 0)
    have hcz66_1 := cz BK247 1 (.slice none 0 0)
    have hfz66_0 := fz BK247 0
    have hfz66_1 := fz BK247 1
    have hnb67 := NB232_216.out
    have hnc67 := NB216_232.out
    have hnb68 := NB232_217.out
    have hnc68 := NB217_232.out
    have hnb69 := NB232_237.out
    have hnc69 := NB237_232.out
    have hcz70_0 := cz BK232 0 (.int .i64 t227)
    have hcz70_1 := cz BK232 1 (.slice Ao30 t228.length co30)
    have hfz70_0 := fz BK232 0
    have hfz70_1 := fz BK232 1
    go_wp2_with (first | ((with_reducible refine gate_callee (f := 11) rfl ?_); refine goesL_ (some 40) rfl rfl Try.func11 (by kernel_rfl) rfl #[.agg #[.int .i64 t242, .slice Ao48 t243.length co48], .agg #[.int .i64 t227, .slice Ao30 t228.length co30]] rfl aE ?_; (with_reducible refine (laws_eqClock.calls k t242 _ _ t243 t227 _ _ t228 false _ ?side1 ?side2 ?side3 ?side4 A50.out).mono ?_); (case side1 => refine (Kd.R_reads' (e := 34) (base := w.heap.size) (ok := fun k_ => (some k_ ≠ (v221 : Value).ownBlock ∧ (some k_ ≠ (.slice Ao30 t228.length co30 : Value).ownBlock ∧ some k_ ≠ (.slice Ao40 t234.length co40 : Value).ownBlock))) (n := t243.length) (c := co48) ?_).2.2; exact (rU (Kd.R_mono (Kd.R_far (p := ⟨gb247, 1, none⟩) (Kd.R_far (p := ⟨gb247, 0, none⟩) (Kd.R_types HO245.out BK247.out (by decide)) (fun _ hk => hk.2) (.int .i64 t242)) (fun _ hk => hk.2) (.slice Ao48 t243.length co48)) (fun _ h_ => h_.1)))); (case side2 => exact (Kd.R_reads' HO245.out).2.1); (case side3 => refine (Kd.R_reads' (e := 34) (base := w.heap.size) (ok := fun k_ => (some k_ ≠ (v221 : Value).ownBlock ∧ (some k_ ≠ (.slice Ao40 t234.length co40 : Value).ownBlock ∧ some k_ ≠ (.slice Ao48 t243.length co48 : Value).ownBlock))) (n := t228.length) (c := co30) ?_).2.2; exact (rU (Kd.R_mono (Kd.R_far (p := ⟨gb247, 1, none⟩) (Kd.R_far (p := ⟨gb247, 0, none⟩) (Kd.R_types HO230.out BK247.out (by decide)) (fun _ hk => hk.2) (.int .i64 t242)) (fun _ hk => hk.2) (.slice Ao48 t243.length co48)) (fun _ h_ => h_.1)))); (case side4 => exact (Kd.R_reads' HO230.out).2.1); rintro e w71 ⟨rfl, hb⟩; refine ⟨_, rfl, ?_⟩; replace HO222 := Aside0.mk (Kd.R_below (rU (Kd.R_mono (Kd.R_far (p := ⟨gb247, 1, none⟩) (Kd.R_far (p := ⟨gb247, 0, none⟩) (Kd.R_types HO222.out BK247.out (by decide)) (fun _ hk => hk.2) (.int .i64 t242)) (fun _ hk => hk.2) (.slice Ao48 t243.length co48)) (fun _ h_ => h_.1))) hb); replace HO230 := Aside0.mk (Kd.R_below (rU (Kd.R_mono (Kd.R_far (p := ⟨gb247, 1, none⟩) (Kd.R_far (p := ⟨gb247, 0, none⟩) (Kd.R_types HO230.out BK247.out (by decide)) (fun _ hk => hk.2) (.int .i64 t242)) (fun _ hk => hk.2) (.slice Ao48 t243.length co48)) (fun _ h_ => h_.1))) hb); replace HO236 := Aside0.mk (Kd.R_below (rU (Kd.R_mono (Kd.R_far (p := ⟨gb247, 1, none⟩) (Kd.R_far (p := ⟨gb247, 0, none⟩) (Kd.R_types HO236.out BK247.out (by decide)) (fun _ hk => hk.2) (.int .i64 t242)) (fun _ hk => hk.2) (.slice Ao48 t243.length co48)) (fun _ h_ => h_.1))) hb); replace HO245 := Aside0.mk (Kd.R_below (rU (Kd.R_mono (Kd.R_far (p := ⟨gb247, 1, none⟩) (Kd.R_far (p := ⟨gb247, 0, none⟩) (Kd.R_types HO245.out BK247.out (by decide)) (fun _ hk => hk.2) (.int .i64 t242)) (fun _ hk => hk.2) (.slice Ao48 t243.length co48)) (fun _ h_ => h_.1))) hb); replace BK216 := bB (bG NB216_247 BK216) hb; replace BK217 := bB (bG NB217_247 BK217) hb; replace BK232 := bB (bG NB232_247 BK232) hb; replace BK237 := bB (bG NB237_247 BK237) hb; replace BK247 := Aside0.mk (blk_below (g := gb247) (o := .cells #[.int .i64 t242, .slice Ao48 t243.length co48] 30 (0, 0)) (by refine bU ?_; refine blk_put (cs := #[.int .i64 t242, .slice none 0 0]) ?_ 1 _ rfl; refine bU ?_; refine blk_put (cs := #[.int .i64 0, .slice none 0 0]) ?_ 0 _ rfl; refine bU ?_; exact BK247.out) hb); replace HB := bH (lV5 GE216 GE217 GE232 GE237 GE247) hb; (try clear hb)))
    go_meet
    case rel => exact ⟨_, (true), tE, H', ⟨by first | omega | exact Nat.le_refl _⟩, ⟨by (with_reducible repeat (first | apply Kd.R_alloc | apply Kd.R_drewN | apply Kd.R_drew)); exact Kd.R_mono HO230.out (fun _ hk => ⟨hk.2.1, hk.2.2⟩)⟩, ⟨by (with_reducible repeat (first | apply Kd.R_alloc | apply Kd.R_drewN | apply Kd.R_drew)); exact Kd.R_mono HO236.out (fun _ hk => ⟨hk.2.1, hk.2.2⟩)⟩, ⟨by (with_reducible repeat (first | apply Kd.R_alloc | apply Kd.R_drewN | apply Kd.R_drew)); exact Kd.R_mono HO245.out (fun _ hk => ⟨hk.2.1, hk.2.2⟩)⟩, ⟨by refine bU ?_; exact BK216.out⟩, ⟨by refine bU ?_; exact BK217.out⟩, ⟨by refine bU ?_; exact BK232.out⟩, ⟨by refine bU ?_; exact BK237.out⟩, ⟨by refine bU ?_; exact BK247.out⟩, ⟨by repeat (first | (with_reducible first | exact HB.out | apply below_alloc | apply pw_below_drewN | apply below_drew1 | refine below_set ?_ GE216.out | refine below_set ?_ GE217.out | refine below_set ?_ GE232.out | refine below_set ?_ GE237.out | refine below_set ?_ GE247.out) | exact HB.out)⟩⟩
  case rest =>
   clear HC16
   try clear c1
   try clear p2
   try clear c5
   try clear c6
   try clear c9
   try clear c10
   try clear c11
   try clear c51
   try clear c52
   try clear c53
   try clear c54
   try clear c55
   try clear c57
   try clear c58
   try clear c59
   try clear c62
   try clear c63
   try clear c64
   try clear c65
   try clear c67
   try clear c68
   try clear c69
   try clear hcz56_0
   try clear hcz56_1
   try clear hcz60_0
   try clear hcz60_1
   try clear hcz66_0
   try clear hcz66_1
   try clear hcz70_0
   try clear hcz70_1
   try clear hfz56_0
   try clear hfz56_1
   try clear hfz60_0
   try clear hfz60_1
   try clear hfz66_0
   try clear hfz66_1
   try clear hfz70_0
   try clear hfz70_1
   obtain ⟨kq, x46_15, rfl, HA, HJ15, HO_233001, HO_238001, HO_248001, BK216, BK217, BK232, BK237, BK247, HB⟩ := hcut
   cases kq with
   | zero => exact absurd HA.out (by simp [laws_FnExactAddTimer.j0])
   | succ kj15 =>
    have H := HA.out
    clear HA
    simp only [laws_FnExactAddTimer.j0] at H
    by_cases c72 : x46_15 = true
    ·subst c72
     have H1 : (some false) = some r := by rw [if_pos rfl] at H; exact H
     clear H
     have H := H1
     clear H1
     obtain rfl := Option.some.inj H
     go_wp2
     go_ret
     exact ⟨eE, lV5 GE216 GE217 GE232 GE237 GE247⟩
    ·replace c72 := Bool.eq_false_iff.mpr c72
     subst c72
     have H1 : ((laws_toClock.f kj15 a0_0 l0_1).bind fun bt249 => ((laws_eqClock.f kj15 t233 t234 bt249.1 bt249.2).bind fun t253 => (if t253 = true then ((laws_markClock.f kj15 t233 t234 1).bind fun bt254 => (if bt254.1 < 0 then (laws_FnExactAddTimer.j1 kj15 t231 true a0_0 l0_1 a1_0 a1_1 a1_2 a1_3 t227 t228 t242 t243) else ((laws_eqClock.f kj15 t242 t243 t227 t228).bind fun t256 => (if t256 = true then (laws_FnExactAddTimer.j1 kj15 t231 (t246 != t231) a0_0 l0_1 a1_0 a1_1 a1_2 a1_3 t227 t228 t242 t243) else (laws_FnExactAddTimer.j1 kj15 t231 true a0_0 l0_1 a1_0 a1_1 a1_2 a1_3 t227 t228 t242 t243))))) else (some false)))) = some r := by rw [if_neg (show ¬ (false = true) by decide)] at H; exact H
     clear H
     have H := H1
     clear H1
     replace H := Option.bind_eq_some_iff.mp H
     obtain ⟨⟨t249, t250⟩, A730, H⟩ := H
     replace H : ((laws_eqClock.f kj15 t233 t234 t249 t250).bind fun t253 => (if t253 = true then ((laws_markClock.f kj15 t233 t234 1).bind fun bt254 => (if bt254.1 < 0 then (laws_FnExactAddTimer.j1 kj15 t231 true a0_0 l0_1 a1_0 a1_1 a1_2 a1_3 t227 t228 t242 t243) else ((laws_eqClock.f kj15 t242 t243 t227 t228).bind fun t256 => (if t256 = true then (laws_FnExactAddTimer.j1 kj15 t231 (t246 != t231) a0_0 l0_1 a1_0 a1_1 a1_2 a1_3 t227 t228 t242 t243) else (laws_FnExactAddTimer.j1 kj15 t231 true a0_0 l0_1 a1_0 a1_1 a1_2 a1_3 t227 t228 t242 t243))))) else (some false))) = some r := H
     have A73 := Aside0.mk A730
     clear A730
     replace H := Option.bind_eq_some_iff.mp H
     obtain ⟨t253, A740, H⟩ := H
     replace H : (if t253 = true then ((laws_markClock.f kj15 t233 t234 1).bind fun bt254 => (if bt254.1 < 0 then (laws_FnExactAddTimer.j1 kj15 t231 true a0_0 l0_1 a1_0 a1_1 a1_2 a1_3 t227 t228 t242 t243) else ((laws_eqClock.f kj15 t242 t243 t227 t228).bind fun t256 => (if t256 = true then (laws_FnExactAddTimer.j1 kj15 t231 (t246 != t231) a0_0 l0_1 a1_0 a1_1 a1_2 a1_3 t227 t228 t242 t243) else (laws_FnExactAddTimer.j1 kj15 t231 true a0_0 l0_1 a1_0 a1_1 a1_2 a1_3 t227 t228 t242 t243))))) else (some false)) = some r := H
     have A74 := Aside0.mk A740
     clear A740
     by_cases c75 : t253 = true
     ·subst c75
      have H1 : ((laws_markClock.f kj15 t233 t234 1).bind fun bt254 => (if bt254.1 < 0 then (laws_FnExactAddTimer.j1 kj15 t231 true a0_0 l0_1 a1_0 a1_1 a1_2 a1_3 t227 t228 t242 t243) else ((laws_eqClock.f kj15 t242 t243 t227 t228).bind fun t256 => (if t256 = true then (laws_FnExactAddTimer.j1 kj15 t231 (t246 != t231) a0_0 l0_1 a1_0 a1_1 a1_2 a1_3 t227 t228 t242 t243) else (laws_FnExactAddTimer.j1 kj15 t231 true a0_0 l0_1 a1_0 a1_1 a1_2 a1_3 t227 t228 t242 t243))))) = some r := by rw [if_pos rfl] at H; exact H
      clear H
      have H := H1
      clear H1
      replace H := Option.bind_eq_some_iff.mp H
      obtain ⟨⟨t254, t255⟩, A760, H⟩ := H
      replace H : (if t254 < 0 then (laws_FnExactAddTimer.j1 kj15 t231 true a0_0 l0_1 a1_0 a1_1 a1_2 a1_3 t227 t228 t242 t243) else ((laws_eqClock.f kj15 t242 t243 t227 t228).bind fun t256 => (if t256 = true then (laws_FnExactAddTimer.j1 kj15 t231 (t246 != t231) a0_0 l0_1 a1_0 a1_1 a1_2 a1_3 t227 t228 t242 t243) else (laws_FnExactAddTimer.j1 kj15 t231 true a0_0 l0_1 a1_0 a1_1 a1_2 a1_3 t227 t228 t242 t243)))) = some r := H
      have A76 := Aside0.mk A760
      clear A760
      have HC77 := Aside0.mk H
      clear H
      try go_wp2
      replace HO_233001 := Aside0.mk (Kd.R_drew HO_233001.out)
      replace HO_238001 := Aside0.mk (Kd.R_drew HO_238001.out)
      replace HO_248001 := Aside0.mk (Kd.R_drew HO_248001.out)
      replace BK216 := Aside0.mk (blk_drew BK216.out)
      replace BK217 := Aside0.mk (blk_drew BK217.out)
      replace BK232 := Aside0.mk (blk_drew BK232.out)
      replace BK237 := Aside0.mk (blk_drew BK237.out)
      replace BK247 := Aside0.mk (blk_drew BK247.out)
      replace HB := Aside0.mk (below_drew1 HB.out)
      refine start_ (n := 5) (S := fun w' => w'.cell? ⟨gb237, 0, none⟩ = some (.int .i64 t233) ∧ w'.cell? ⟨gb237, 1, none⟩ = some (.slice Ao40 t234.length co40) ∧ w'.cell? ⟨gb216, 0, none⟩ = some (.int .i64 a0_0) ∧ w'.cell? ⟨gb216, 1, none⟩ = some (.slice A0_1 l0_1.length c0_1)) (ds := []) #[false, false, false, false, false] (by kernel_rfl) rfl rfl ⟨cz BK237 0 _, cz BK237 1 _, cz BK216 0 _, cz BK216 1 _⟩ (fun hHeld => ?_)
      generalize wc.drew = w78 at HO_233001 HO_238001 HO_248001 BK216 BK217 BK232 BK237 BK247 HB hHeld ⊢
      refine take_ (i := 0) (N := some 47) (v := ?_) (a' := ?_) (bz 5 1) rfl rfl (by kernel_rfl) (fun _ _ _ h => h) (Or.inl ⟨by rfl, ?_⟩) hHeld ?_ ?_
      rotate_left
      ·rintro w' ⟨s0, s1, s2, s3⟩
       go_simp
       with_reducible rfl
      rotate_left
      ·simp only [Act.put, List.setIfInBounds_toArray, List.set_cons_zero, List.set_cons_succ, i64_w, i32_w]
       rfl
      refine take_ (i := 1) (N := some 48) (v := ?_) (a' := ?_) (bz 5 3) rfl rfl (by kernel_rfl) (fun _ _ _ h => h) (Or.inl ⟨by rfl, ?_⟩) hHeld ?_ ?_
      rotate_left
      ·rintro w' ⟨s0, s1, s2, s3⟩
       go_simp
       with_reducible rfl
      rotate_left
      ·simp only [Act.put, List.setIfInBounds_toArray, List.set_cons_zero, List.set_cons_succ, i64_w, i32_w]
       rfl
      refine one_ (i := 2) (N := some 49) (bz 5 7) rfl rfl (by kernel_rfl) (by decide) (fun K hK => ?_)
      refine goes_ Try.func8 (by kernel_rfl) rfl #[.agg #[.int .i64 a0_0, .slice A0_1 l0_1.length c0_1]] (by rfl) rfl rfl aE ?_
      with_reducible refine (laws_toClock.calls kj15 a0_0 _ _ l0_1 t249 t250 _ ?side1 ?side2 A73.out).mono ?_
      (case side1 => exact cU (Kd.C_below HR0_1.out HB.out))
      (case side2 => exact HC0_1.out)
      rintro e w79 ⟨v251, rfl, ho0, hb⟩
      refine ⟨_, rfl, ?_⟩
      have HO252 := Aside0.mk (Kd.R_lower (Kd.R_new' (Kd.R_new' (Kd.R_new' ho0 (Kd.R_lt (rU HO_233001.out))) (Kd.R_lt (rU HO_238001.out))) (Kd.R_lt (rU HO_248001.out))) (below_size (lV5 GE216 GE217 GE232 GE237 GE247)))
      replace HO_233001 := Aside0.mk (Kd.R_elder' (rU HO_233001.out) (Kd.R_base ho0) hb)
      replace HO_238001 := Aside0.mk (Kd.R_elder' (rU HO_238001.out) (Kd.R_base ho0) hb)
      replace HO_248001 := Aside0.mk (Kd.R_elder' (rU HO_248001.out) (Kd.R_base ho0) hb)
      replace BK216 := bB (bV BK216) hb
      replace BK217 := bB (bV BK217) hb
      replace BK232 := bB (bV BK232) hb
      replace BK237 := bB (bV BK237) hb
      replace BK247 := bB (bV BK247) hb
      replace HB := bH (lV5 GE216 GE217 GE232 GE237 GE247) hb
      (try clear hb)
      (try clear hb2)
      (try clear hk)
      (try clear hi)
      (try clear ho0)
      obtain ⟨Ao80, co80, eo80⟩ := Kd.R_slice HO252.out
      (first | subst eo80 | (injection eo80 with f1_ f2_ f3_; have f4_ := f1_.symm; have f5_ := f3_.symm; clear f1_ f2_ f3_; subst f4_; subst f5_))
      refine hK.out _ _ ⟨cz BK237 0 _, cz BK237 1 _, cz BK216 0 _, cz BK216 1 _⟩ (fun hHeld => ?_)
      clear hK K
      refine norm_ (a' := ?_) ?_ ?_
      rotate_left
      ·show Act.put _ (some 49) _ = _
       simp only [Act.put, List.setIfInBounds_toArray, List.set_cons_zero, List.set_cons_succ, i64_w, i32_w]
       rfl
      refine one_ (i := 3) (N := some 50) (bz 5 15) rfl rfl (by kernel_rfl) (by decide) (fun K hK => ?_)
      refine goes_ Try.func11 (by kernel_rfl) rfl #[.agg #[.int .i64 t233, .slice Ao40 t234.length co40], .agg #[.int .i64 t249, .slice Ao80 t250.length co80]] (by rfl) rfl rfl aE ?_
      with_reducible refine (laws_eqClock.calls kj15 t233 _ _ t234 t249 _ _ t250 true _ ?side1 ?side2 ?side3 ?side4 A74.out).mono ?_
      (case side1 => exact cU (Kd.R_reads' HO_238001.out).2.2)
      (case side2 => exact (Kd.R_reads' HO_238001.out).2.1)
      (case side3 => exact cU (Kd.R_reads' HO252.out).2.2)
      (case side4 => exact (Kd.R_reads' HO252.out).2.1)
      rintro e w81 ⟨rfl, hb⟩
      refine ⟨_, rfl, ?_⟩
      replace HO_233001 := Aside0.mk (Kd.R_below (rU HO_233001.out) hb)
      replace HO_238001 := Aside0.mk (Kd.R_below (rU HO_238001.out) hb)
      replace HO_248001 := Aside0.mk (Kd.R_below (rU HO_248001.out) hb)
      replace HO252 := Aside0.mk (Kd.R_below (rU HO252.out) hb)
      replace BK216 := bB (bV BK216) hb
      replace BK217 := bB (bV BK217) hb
      replace BK232 := bB (bV BK232) hb
      replace BK237 := bB (bV BK237) hb
      replace BK247 := bB (bV BK247) hb
      replace HB := bH (lV5 GE216 GE217 GE232 GE237 GE247) hb
      (try clear hb)
      (try clear hb2)
      (try clear hk)
      (try clear hi)
      refine hK.out _ _ ⟨cz BK237 0 _, cz BK237 1 _, cz BK216 0 _, cz BK216 1 _⟩ (fun hHeld => ?_)
      clear hK K
      refine norm_ (a' := ?_) ?_ ?_
      rotate_left
      ·show Act.put _ (some 50) _ = _
       simp only [Act.put, List.setIfInBounds_toArray, List.set_cons_zero, List.set_cons_succ, i64_w, i32_w]
       rfl
      refine pure_ (i := 4) (N := some 51) (v := ?_) (a' := ?_) (bz 5 31) rfl rfl (by kernel_rfl) (fun _ _ _ h => h) (Or.inl ⟨by rfl, ?_⟩) ?_ ?_
      rotate_left
      ·intro w'
       go_simp
       with_reducible rfl
      rotate_left
      ·simp only [Act.put, List.setIfInBounds_toArray, List.set_cons_zero, List.set_cons_succ, i64_w, i32_w]
       rfl
      refine done_ (by kernel_rfl) ?_
      have hnb82 := NB237_216.out
      have hnc82 := NB216_237.out
      have hnb83 := NB237_217.out
      have hnc83 := NB217_237.out
      have hnb84 := NB237_232.out
      have hnc84 := NB232_237.out
      have hnb85 := NB237_247.out
      have hnc85 := NB247_237.out
      have hcz86_0 := cz BK237 0 (.int .i64 t233)
      have hcz86_1 := cz BK237 1 (.slice Ao40 t234.length co40)
      have hfz86_0 := fz BK237 0
      have hfz86_1 := fz BK237 1
      go_upto_region 14 with (first | ((with_reducible refine gate_callee (f := 12) rfl ?_); refine goesL_ (some 54) rfl rfl Try.func12 (by kernel_rfl) rfl #[.agg #[.int .i64 t233, .slice Ao40 t234.length co40], .int .i64 1] rfl aE ?_; (with_reducible refine (laws_markClock.calls kj15 t233 (fun k_ => some k_ = (.slice Ao40 t234.length co40 : Value).ownBlock) (.slice Ao40 t234.length co40) t234 1 t254 t255 w _ ?side1 ?side2 A76.out).mono ?_); (case side1 => repeat (first | (with_reducible first | exact HB.out | apply below_alloc | apply pw_below_drewN | apply below_drew1 | refine below_set ?_ GE216.out | refine below_set ?_ GE217.out | refine below_set ?_ GE232.out | refine below_set ?_ GE237.out | refine below_set ?_ GE247.out) | exact HB.out)); (case side2 => exact Kd.R_tight rfl HO_238001.out); rintro e w87 ⟨rfl, hy0, hb, hkp⟩; refine ⟨_, rfl, ?_⟩; replace HO_233001 := Aside0.mk (Kd.R_mono (ok' := fun k_ => some k_ ≠ (.slice Ao40 t234.length co40 : Value).ownBlock ∧ some k_ ≠ (.slice Ao48 t243.length co48 : Value).ownBlock ∧ some k_ ≠ (.slice Ao80 t250.length co80 : Value).ownBlock) (Kd.R_keptB (HO_233001.out) hkp (fun k_ hk_ hs_ => (hk_.1.1) hs_)) (fun k_ hk_ => ⟨hk_.1.1.1, hk_.1.1.2, hk_.1.2⟩)); replace HO_248001 := Aside0.mk (Kd.R_mono (ok' := fun k_ => some k_ ≠ (.slice Ao30 t228.length co30 : Value).ownBlock ∧ some k_ ≠ (.slice Ao40 t234.length co40 : Value).ownBlock ∧ some k_ ≠ (.slice Ao80 t250.length co80 : Value).ownBlock) (Kd.R_keptB (HO_248001.out) hkp (fun k_ hk_ hs_ => (hk_.1.2) hs_)) (fun k_ hk_ => ⟨hk_.1.1.1, hk_.1.1.2, hk_.1.2⟩)); replace BK216 := Aside0.mk (blk_kept (bV BK216) hkp (fun hs_ => (fun e_ => (Kd.R_ne HO_238001.out BK216.out (by decide)) e_) hs_)); replace BK217 := Aside0.mk (blk_kept (bV BK217) hkp (fun hs_ => (fun e_ => (Kd.R_ne HO_238001.out BK217.out (by decide)) e_) hs_)); replace BK232 := Aside0.mk (blk_kept (bV BK232) hkp (fun hs_ => (fun e_ => (Kd.R_ne HO_238001.out BK232.out (by decide)) e_) hs_)); replace BK237 := Aside0.mk (blk_kept (bV BK237) hkp (fun hs_ => (fun e_ => (Kd.R_ne HO_238001.out BK237.out (by decide)) e_) hs_)); replace BK247 := Aside0.mk (blk_kept (bV BK247) hkp (fun hs_ => (fun e_ => (Kd.R_ne HO_238001.out BK247.out (by decide)) e_) hs_)); replace HO_238001 := Aside0.mk (Kd.R_reok rfl hy0 (fun k_ e_ => HO_238001.out.1 k_ e_)); replace HO252 := Aside0.mk (Kd.R_mono (ok' := fun k_ => some k_ ≠ (.slice Ao30 t228.length co30 : Value).ownBlock ∧ some k_ ≠ (.slice Ao40 t234.length co40 : Value).ownBlock ∧ some k_ ≠ (.slice Ao48 t243.length co48 : Value).ownBlock) (Kd.R_keptB (HO252.out) hkp (fun k_ hk_ hs_ => (hk_.1.2) hs_)) (fun k_ hk_ => ⟨hk_.1.1.1.2, hk_.1.1.2, hk_.1.2⟩)); replace HB := Aside0.mk hb; (try clear hb); (try clear hkp); (try clear hg_); (try clear hp_); (try clear hy0)))
      (try simp only [Act.put, List.setIfInBounds_toArray, List.set_cons_zero, List.set_cons_succ])
      go_cut [67] (fun v67 wc => ∃ (kq : Nat) (x67_76 : Bool), v67 = .bool x67_76 ∧ Aside0 (laws_FnExactAddTimer.j1 kq t231 x67_76 a0_0 l0_1 a1_0 a1_1 a1_2 a1_3 t227 t228 t242 t243 = some r) ∧ Aside0 (kq ≤ kj15) ∧ Aside0 (Kd.R k34 34 wc w.heap.size (fun k_ => some k_ ≠ ((.slice Ao40 t234.length co40) : Value).ownBlock ∧ some k_ ≠ ((.slice Ao48 t243.length co48) : Value).ownBlock) (.slice Ao30 t228.length co30) t228) ∧ Aside0 (Kd.R k34 34 wc w.heap.size (fun k_ => some k_ ≠ ((.slice Ao30 t228.length co30) : Value).ownBlock ∧ some k_ ≠ ((.slice Ao48 t243.length co48) : Value).ownBlock) (.slice Ao40 t234.length co40) t255) ∧ Aside0 (Kd.R k34 34 wc w.heap.size (fun k_ => some k_ ≠ ((.slice Ao30 t228.length co30) : Value).ownBlock ∧ some k_ ≠ ((.slice Ao40 t234.length co40) : Value).ownBlock) (.slice Ao48 t243.length co48) t243) ∧ Aside0 (wc.heap[gb216]? = some (.cells #[.int .i64 a0_0, (.slice A0_1 l0_1.length c0_1)] 24 (0, 0))) ∧ Aside0 (wc.heap[gb217]? = some (.cells #[.int .i64 a1_0, .int .i64 a1_1, .int .i64 a1_2, .int .i64 a1_3] 26 (0, 0))) ∧ Aside0 (wc.heap[gb232]? = some (.cells #[.int .i64 t227, (.slice Ao30 t228.length co30)] 30 (0, 0))) ∧ Aside0 (wc.heap[gb237]? = some (.cells #[.int .i64 t233, (.slice Ao40 t234.length co40)] 30 (0, 0))) ∧ Aside0 (wc.heap[gb247]? = some (.cells #[.int .i64 t242, (.slice Ao48 t243.length co48)] 30 (0, 0))) ∧ Aside0 (Below w.heap.size w wc))
      case first =>
       have H := HC77.out
       clear HC77
       by_cases c88 : t254 < 0
       ·rw [if_pos c88] at H
        have c88b0 : decide (t254 < 0) = true := decide_eq_true c88
        clear c88
        (first | rw [c88b0] | (simp only [i64_w, i32_w]; rw [c88b0]) | (rw [c88b2]; simp only [Bool.not_false, Bool.not_true]) | skip)
        have H' := Aside0.mk H
        clear H
        go_wp2
        go_meet
        case rel => exact ⟨_, (true), tE, H', ⟨by have := HJ15.out; first | omega | exact Nat.le_refl _⟩, ⟨by (with_reducible repeat (first | apply Kd.R_alloc | apply Kd.R_drewN | apply Kd.R_drew)); exact Kd.R_mono HO_233001.out (fun _ hk => ⟨hk.1, hk.2.1⟩)⟩, ⟨by (with_reducible repeat (first | apply Kd.R_alloc | apply Kd.R_drewN | apply Kd.R_drew)); exact Kd.R_mono HO_238001.out (fun _ hk => ⟨hk.1.1, hk.1.2⟩)⟩, ⟨by (with_reducible repeat (first | apply Kd.R_alloc | apply Kd.R_drewN | apply Kd.R_drew)); exact Kd.R_mono HO_248001.out (fun _ hk => ⟨hk.1, hk.2.1⟩)⟩, ⟨by refine bU ?_; exact BK216.out⟩, ⟨by refine bU ?_; exact BK217.out⟩, ⟨by refine bU ?_; exact BK232.out⟩, ⟨by refine bU ?_; exact BK237.out⟩, ⟨by refine bU ?_; exact BK247.out⟩, ⟨by repeat (first | (with_reducible first | exact HB.out | apply below_alloc | apply pw_below_drewN | apply below_drew1 | refine below_set ?_ GE216.out | refine below_set ?_ GE217.out | refine below_set ?_ GE232.out | refine below_set ?_ GE237.out | refine below_set ?_ GE247.out) | exact HB.out)⟩⟩
       ·rw [if_neg c88] at H
        have c88b0 : decide (t254 < 0) = false := decide_eq_false c88
        clear c88
        (first | rw [c88b0] | (simp only [i64_w, i32_w]; rw [c88b0]) | (rw [c88b2]; simp only [Bool.not_false, Bool.not_true]) | skip)
        replace H := Option.bind_eq_some_iff.mp H
        obtain ⟨t256, A890, H⟩ := H
        replace H : (if t256 = true then (laws_FnExactAddTimer.j1 kj15 t231 (t246 != t231) a0_0 l0_1 a1_0 a1_1 a1_2 a1_3 t227 t228 t242 t243) else (laws_FnExactAddTimer.j1 kj15 t231 true a0_0 l0_1 a1_0 a1_1 a1_2 a1_3 t227 t228 t242 t243)) = some r := H
        have A89 := Aside0.mk A890
        clear A890
        by_cases c90 : t256 = true
        ·subst c90
         have H1 : (laws_FnExactAddTimer.j1 kj15 t231 (t246 != t231) a0_0 l0_1 a1_0 a1_1 a1_2 a1_3 t227 t228 t242 t243) = some r := by rw [if_pos rfl] at H; exact H
         clear H
         have H := H1
         clear H1
         have H' := Aside0.mk H
         clear H
         have hnb91 := NB247_216.out
         have hnc91 := NB216_247.out
         have hnb92 := NB247_217.out
         have hnc92 := NB217_247.out
         have hnb93 := NB247_232.out
         have hnc93 := NB232_247.out
         have hnb94 := NB247_237.out
         have hnc94 := NB237_247.out
         have hcz95_0 := cz BK247 0 (.int .i64 t242)
         have hcz95_1 := cz BK247 1 (.slice Ao48 t243.length co48)
         have hfz95_0 := fz BK247 0
         have hfz95_1 := fz BK247 1
         have hnb96 := NB232_216.out
         have hnc96 := NB216_232.out
         have hnb97 := NB232_217.out
         have hnc97 := NB217_232.out
         have hnb98 := NB232_237.out
         have hnc98 := NB237_232.out
         have hcz99_0 := cz BK232 0 (.int .i64 t227)
         have hcz99_1 := cz BK232 1 (.slice Ao30 t228.length co30)
         have hfz99_0 := fz BK232 0
         have hfz99_1 := fz BK232 1
         go_wp2_with (first | (go_at_call 11; (with_reducible refine (laws_eqClock.calls kj15 t242 _ _ t243 t227 _ _ t228 true _ ?side1 ?side2 ?side3 ?side4 A89.out).mono ?_); (case side1 => exact cU (Kd.R_reads' HO_248001.out).2.2); (case side2 => exact (Kd.R_reads' HO_248001.out).2.1); (case side3 => exact cU (Kd.R_reads' HO_233001.out).2.2); (case side4 => exact (Kd.R_reads' HO_233001.out).2.1); rintro e w100 ⟨rfl, hb⟩; replace HO_233001 := Aside0.mk (Kd.R_below (rU HO_233001.out) hb); replace HO_238001 := Aside0.mk (Kd.R_below (rU HO_238001.out) hb); replace HO_248001 := Aside0.mk (Kd.R_below (rU HO_248001.out) hb); replace HO252 := Aside0.mk (Kd.R_below (rU HO252.out) hb); replace BK216 := bB (bV BK216) hb; replace BK217 := bB (bV BK217) hb; replace BK232 := bB (bV BK232) hb; replace BK237 := bB (bV BK237) hb; replace BK247 := bB (bV BK247) hb; replace HB := bH (lV5 GE216 GE217 GE232 GE237 GE247) hb; (try clear hb)))
         go_meet
         case rel => exact ⟨_, ((t246 != t231)), tE, H', ⟨by have := HJ15.out; first | omega | exact Nat.le_refl _⟩, ⟨by (with_reducible repeat (first | apply Kd.R_alloc | apply Kd.R_drewN | apply Kd.R_drew)); exact Kd.R_mono HO_233001.out (fun _ hk => ⟨hk.1, hk.2.1⟩)⟩, ⟨by (with_reducible repeat (first | apply Kd.R_alloc | apply Kd.R_drewN | apply Kd.R_drew)); exact Kd.R_mono HO_238001.out (fun _ hk => ⟨hk.1.1, hk.1.2⟩)⟩, ⟨by (with_reducible repeat (first | apply Kd.R_alloc | apply Kd.R_drewN | apply Kd.R_drew)); exact Kd.R_mono HO_248001.out (fun _ hk => ⟨hk.1, hk.2.1⟩)⟩, ⟨by refine bU ?_; exact BK216.out⟩, ⟨by refine bU ?_; exact BK217.out⟩, ⟨by refine bU ?_; exact BK232.out⟩, ⟨by refine bU ?_; exact BK237.out⟩, ⟨by refine bU ?_; exact BK247.out⟩, ⟨by repeat (first | (with_reducible first | exact HB.out | apply below_alloc | apply pw_below_drewN | apply below_drew1 | refine below_set ?_ GE216.out | refine below_set ?_ GE217.out | refine below_set ?_ GE232.out | refine below_set ?_ GE237.out | refine below_set ?_ GE247.out) | exact HB.out)⟩⟩
        ·replace c90 := Bool.eq_false_iff.mpr c90
         subst c90
         have H1 : (laws_FnExactAddTimer.j1 kj15 t231 true a0_0 l0_1 a1_0 a1_1 a1_2 a1_3 t227 t228 t242 t243) = some r := by rw [if_neg (show ¬ (false = true) by decide)] at H; exact H
         clear H
         have H := H1
         clear H1
         have H' := Aside0.mk H
         clear H
         have hnb101 := NB247_216.out
         have hnc101 := NB216_247.out
         have hnb102 := NB247_217.out
         have hnc102 := NB217_247.out
         have hnb103 := NB247_232.out
         have hnc103 := NB232_247.out
         have hnb104 := NB247_237.out
         have hnc104 := NB237_247.out
         have hcz105_0 := cz BK247 0 (.int .i64 t242)
         have hcz105_1 := cz BK247 1 (.slice Ao48 t243.length co48)
         have hfz105_0 := fz BK247 0
         have hfz105_1 := fz BK247 1
         have hnb106 := NB232_216.out
         have hnc106 := NB216_232.out
         have hnb107 := NB232_217.out
         have hnc107 := NB217_232.out
         have hnb108 := NB232_237.out
         have hnc108 := NB237_232.out
         have hcz109_0 := cz BK232 0 (.int .i64 t227)
         have hcz109_1 := cz BK232 1 (.slice Ao30 t228.length co30)
         have hfz109_0 := fz BK232 0
         have hfz109_1 := fz BK232 1
         go_wp2_with (first | (go_at_call 11; (with_reducible refine (laws_eqClock.calls kj15 t242 _ _ t243 t227 _ _ t228 false _ ?side1 ?side2 ?side3 ?side4 A89.out).mono ?_); (case side1 => exact cU (Kd.R_reads' HO_248001.out).2.2); (case side2 => exact (Kd.R_reads' HO_248001.out).2.1); (case side3 => exact cU (Kd.R_reads' HO_233001.out).2.2); (case side4 => exact (Kd.R_reads' HO_233001.out).2.1); rintro e w110 ⟨rfl, hb⟩; replace HO_233001 := Aside0.mk (Kd.R_below (rU HO_233001.out) hb); replace HO_238001 := Aside0.mk (Kd.R_below (rU HO_238001.out) hb); replace HO_248001 := Aside0.mk (Kd.R_below (rU HO_248001.out) hb); replace HO252 := Aside0.mk (Kd.R_below (rU HO252.out) hb); replace BK216 := bB (bV BK216) hb; replace BK217 := bB (bV BK217) hb; replace BK232 := bB (bV BK232) hb; replace BK237 := bB (bV BK237) hb; replace BK247 := bB (bV BK247) hb; replace HB := bH (lV5 GE216 GE217 GE232 GE237 GE247) hb; (try clear hb)))
         go_meet
         case rel => exact ⟨_, (true), tE, H', ⟨by have := HJ15.out; first | omega | exact Nat.le_refl _⟩, ⟨by (with_reducible repeat (first | apply Kd.R_alloc | apply Kd.R_drewN | apply Kd.R_drew)); exact Kd.R_mono HO_233001.out (fun _ hk => ⟨hk.1, hk.2.1⟩)⟩, ⟨by (with_reducible repeat (first | apply Kd.R_alloc | apply Kd.R_drewN | apply Kd.R_drew)); exact Kd.R_mono HO_238001.out (fun _ hk => ⟨hk.1.1, hk.1.2⟩)⟩, ⟨by (with_reducible repeat (first | apply Kd.R_alloc | apply Kd.R_drewN | apply Kd.R_drew)); exact Kd.R_mono HO_248001.out (fun _ hk => ⟨hk.1, hk.2.1⟩)⟩, ⟨by refine bU ?_; exact BK216.out⟩, ⟨by refine bU ?_; exact BK217.out⟩, ⟨by refine bU ?_; exact BK232.out⟩, ⟨by refine bU ?_; exact BK237.out⟩, ⟨by refine bU ?_; exact BK247.out⟩, ⟨by repeat (first | (with_reducible first | exact HB.out | apply below_alloc | apply pw_below_drewN | apply below_drew1 | refine below_set ?_ GE216.out | refine below_set ?_ GE217.out | refine below_set ?_ GE232.out | refine below_set ?_ GE237.out | refine below_set ?_ GE247.out) | exact HB.out)⟩⟩
      case rest =>
       clear HC77
       try clear c1
       try clear p2
       try clear c5
       try clear c6
       try clear c7
       try clear c8
       try clear c9
       try clear c10
       try clear c11
       try clear c12
       try clear c51
       try clear c52
       try clear c53
       try clear c54
       try clear c55
       try clear c57
       try clear c58
       try clear c59
       try clear c62
       try clear c63
       try clear c64
       try clear c65
       try clear c67
       try clear c68
       try clear c69
       try clear c72
       try clear c75
       try clear c82
       try clear c83
       try clear c84
       try clear c85
       try clear c88
       try clear c88b0
       try clear c88b2
       try clear c90
       try clear c91
       try clear c92
       try clear c93
       try clear c94
       try clear c96
       try clear c97
       try clear c98
       try clear c101
       try clear c102
       try clear c103
       try clear c104
       try clear c106
       try clear c107
       try clear c108
       try clear hcz105_0
       try clear hcz105_1
       try clear hcz109_0
       try clear hcz109_1
       try clear hcz56_0
       try clear hcz56_1
       try clear hcz60_0
       try clear hcz60_1
       try clear hcz66_0
       try clear hcz66_1
       try clear hcz70_0
       try clear hcz70_1
       try clear hcz86_0
       try clear hcz86_1
       try clear hcz95_0
       try clear hcz95_1
       try clear hcz99_0
       try clear hcz99_1
       try clear hfz105_0
       try clear hfz105_1
       try clear hfz109_0
       try clear hfz109_1
       try clear hfz56_0
       try clear hfz56_1
       try clear hfz60_0
       try clear hfz60_1
       try clear hfz66_0
       try clear hfz66_1
       try clear hfz70_0
       try clear hfz70_1
       try clear hfz86_0
       try clear hfz86_1
       try clear hfz95_0
       try clear hfz95_1
       try clear hfz99_0
       try clear hfz99_1
       try clear p2
       obtain ⟨kq, x67_76, rfl, HA, HJ76, HO_233001, HO_238001, HO_248001, BK216, BK217, BK232, BK237, BK247, HB⟩ := hcut
       have hl238001_76 := (Kd.R_reads' HO_238001.out).1
       rw [hl238001_76] at HO_238001
       (try simp only [hl238001_76])
       (try simp only [hl238001_76] at BK216)
       (try simp only [hl238001_76] at BK217)
       (try simp only [hl238001_76] at BK232)
       (try simp only [hl238001_76] at BK237)
       (try simp only [hl238001_76] at BK247)
       (try simp only [hl238001_76] at HO_233001)
       (try simp only [hl238001_76] at HO_248001)
       cases kq with
       | zero => exact absurd HA.out (by simp [laws_FnExactAddTimer.j1])
       | succ kj76 =>
        have H := HA.out
        clear HA
        simp only [laws_FnExactAddTimer.j1] at H
        by_cases c111 : x67_76 = true
        ·subst c111
         have H1 : (some false) = some r := by rw [if_pos rfl] at H; exact H
         clear H
         have H := H1
         clear H1
         obtain rfl := Option.some.inj H
         go_wp2
         go_ret
         exact ⟨eE, lV5 GE216 GE217 GE232 GE237 GE247⟩
        ·replace c111 := Bool.eq_false_iff.mpr c111
         subst c111
         have H1 : ((laws_markClock.f kj76 t242 t243 1).bind fun bt257 => ((laws_heldClock.f kj76 t242 bt257.2 1).bind fun t259 => (if t259 < 0 then (some false) else (if t259 = bt257.1 then ((laws_toClock.f kj76 a0_0 l0_1).bind fun bt260 => ((laws_toTimer.f a1_0 a1_1 a1_2 a1_3).bind fun bt264 => ((impl_AddTimer.f kj76 bt260.1 bt260.2 bt264.1 bt264.2.1 bt264.2.2.1 bt264.2.2.2).bind fun bt268 => ((laws_eqClock.f kj76 bt268.1 bt268.2.1 t227 t228).bind fun t274 => (if t274 = true then (laws_FnExactAddTimer.j2 kj76 bt257.1 (bt268.2.2 != t231) t242 bt257.2) else (laws_FnExactAddTimer.j2 kj76 bt257.1 true t242 bt257.2)))))) else (some false))))) = some r := by rw [if_neg (show ¬ (false = true) by decide)] at H; exact H
         clear H
         have H := H1
         clear H1
         replace H := Option.bind_eq_some_iff.mp H
         obtain ⟨⟨t257, t258⟩, A1120, H⟩ := H
         replace H : ((laws_heldClock.f kj76 t242 t258 1).bind fun t259 => (if t259 < 0 then (some false) else (if t259 = t257 then ((laws_toClock.f kj76 a0_0 l0_1).bind fun bt260 => ((laws_toTimer.f a1_0 a1_1 a1_2 a1_3).bind fun bt264 => ((impl_AddTimer.f kj76 bt260.1 bt260.2 bt264.1 bt264.2.1 bt264.2.2.1 bt264.2.2.2).bind fun bt268 => ((laws_eqClock.f kj76 bt268.1 bt268.2.1 t227 t228).bind fun t274 => (if t274 = true then (laws_FnExactAddTimer.j2 kj76 t257 (bt268.2.2 != t231) t242 t258) else (laws_FnExactAddTimer.j2 kj76 t257 true t242 t258)))))) else (some false)))) = some r := H
         have A112 := Aside0.mk A1120
         clear A1120
         replace H := Option.bind_eq_some_iff.mp H
         obtain ⟨t259, A1130, H⟩ := H
         replace H : (if t259 < 0 then (some false) else (if t259 = t257 then ((laws_toClock.f kj76 a0_0 l0_1).bind fun bt260 => ((laws_toTimer.f a1_0 a1_1 a1_2 a1_3).bind fun bt264 => ((impl_AddTimer.f kj76 bt260.1 bt260.2 bt264.1 bt264.2.1 bt264.2.2.1 bt264.2.2.2).bind fun bt268 => ((laws_eqClock.f kj76 bt268.1 bt268.2.1 t227 t228).bind fun t274 => (if t274 = true then (laws_FnExactAddTimer.j2 kj76 t257 (bt268.2.2 != t231) t242 t258) else (laws_FnExactAddTimer.j2 kj76 t257 true t242 t258)))))) else (some false))) = some r := H
         have A113 := Aside0.mk A1130
         clear A1130
         by_cases c114 : t259 < 0
         ·rw [if_pos c114] at H
          have c114b0 : decide (t259 < 0) = true := decide_eq_true c114
          clear c114
          obtain rfl := Option.some.inj H
          have hnb115 := NB247_216.out
          have hnc115 := NB216_247.out
          have hnb116 := NB247_217.out
          have hnc116 := NB217_247.out
          have hnb117 := NB247_232.out
          have hnc117 := NB232_247.out
          have hnb118 := NB247_237.out
          have hnc118 := NB237_247.out
          have hcz119_0 := cz BK247 0 (.int .i64 t242)
          have hcz119_1 := cz BK247 1 (.slice Ao48 t243.length co48)
          have hfz119_0 := fz BK247 0
          have hfz119_1 := fz BK247 1
          go_wp2_with (first | ((with_reducible refine gate_callee (f := 12) rfl ?_); refine goesL_ (some 70) rfl rfl Try.func12 (by kernel_rfl) rfl #[.agg #[.int .i64 t242, .slice Ao48 t243.length co48], .int .i64 1] rfl aE ?_; (with_reducible refine (laws_markClock.calls kj76 t242 (fun k_ => some k_ = (.slice Ao48 t243.length co48 : Value).ownBlock) (.slice Ao48 t243.length co48) t243 1 t257 t258 w _ ?side1 ?side2 A112.out).mono ?_); (case side1 => repeat (first | (with_reducible first | exact HB.out | apply below_alloc | apply pw_below_drewN | apply below_drew1 | refine below_set ?_ GE216.out | refine below_set ?_ GE217.out | refine below_set ?_ GE232.out | refine below_set ?_ GE237.out | refine below_set ?_ GE247.out) | exact HB.out)); (case side2 => exact Kd.R_tight rfl HO_248001.out); rintro e w120 ⟨rfl, hy0, hb, hkp⟩; refine ⟨_, rfl, ?_⟩; replace HO_233001 := Aside0.mk (Kd.R_mono (ok' := fun k_ => some k_ ≠ (.slice Ao40 t255.length co40 : Value).ownBlock ∧ some k_ ≠ (.slice Ao48 t243.length co48 : Value).ownBlock) (Kd.R_keptB (HO_233001.out) hkp (fun k_ hk_ hs_ => (hk_.2) hs_)) (fun k_ hk_ => ⟨hk_.1.1, hk_.1.2⟩)); replace HO_238001 := Aside0.mk (Kd.R_mono (ok' := fun k_ => some k_ ≠ (.slice Ao30 t228.length co30 : Value).ownBlock ∧ some k_ ≠ (.slice Ao48 t243.length co48 : Value).ownBlock) (Kd.R_keptB (HO_238001.out) hkp (fun k_ hk_ hs_ => (hk_.2) hs_)) (fun k_ hk_ => ⟨hk_.1.1, hk_.1.2⟩)); replace BK216 := Aside0.mk (blk_kept (bV BK216) hkp (fun hs_ => (fun e_ => (Kd.R_ne HO_248001.out BK216.out (by decide)) e_) hs_)); replace BK217 := Aside0.mk (blk_kept (bV BK217) hkp (fun hs_ => (fun e_ => (Kd.R_ne HO_248001.out BK217.out (by decide)) e_) hs_)); replace BK232 := Aside0.mk (blk_kept (bV BK232) hkp (fun hs_ => (fun e_ => (Kd.R_ne HO_248001.out BK232.out (by decide)) e_) hs_)); replace BK237 := Aside0.mk (blk_kept (bV BK237) hkp (fun hs_ => (fun e_ => (Kd.R_ne HO_248001.out BK237.out (by decide)) e_) hs_)); replace BK247 := Aside0.mk (blk_kept (bV BK247) hkp (fun hs_ => (fun e_ => (Kd.R_ne HO_248001.out BK247.out (by decide)) e_) hs_)); replace HO_248001 := Aside0.mk (Kd.R_reok rfl hy0 (fun k_ e_ => HO_248001.out.1 k_ e_)); replace HB := Aside0.mk hb; (try clear hb); (try clear hkp); (try clear hg_); (try clear hp_); (try clear hy0); have hcz121_0 := cz BK247 0 (.int .i64 t242); have hcz121_1 := cz BK247 1 (.slice Ao48 t243.length co48); have hfz121_0 := fz BK247 0; have hfz121_1 := fz BK247 1) | ((with_reducible refine gate_callee (f := 13) rfl ?_); refine goesL_ (some 73) rfl rfl Try.func13 (by kernel_rfl) rfl #[.agg #[.int .i64 t242, .slice Ao48 t258.length co48], .int .i64 1] rfl (by (try simp only [List.map_toArray, List.map_cons, List.map_nil]); first | done | (rw [show t258.length = t243.length from (Kd.R_reads' HO_248001.out).1.symm] <;> rfl) | rfl | (simp only [List.length_drop, List.length_take]; rfl)) ?_; (with_reducible refine (laws_heldClock.calls kj76 t242 _ _ t258 1 t259 _ ?side1 ?side2 A113.out).mono ?_); (case side1 => exact cU (Kd.R_reads' HO_248001.out).2.2); (case side2 => rw [show t258.length = t243.length from (Kd.R_reads' HO_248001.out).1.symm]; exact (Kd.R_reads' HO_248001.out).2.1); rintro e w122 ⟨rfl, hb⟩; refine ⟨_, rfl, ?_⟩; replace HO_233001 := Aside0.mk (Kd.R_below (rU HO_233001.out) hb); replace HO_238001 := Aside0.mk (Kd.R_below (rU HO_238001.out) hb); replace HO_248001 := Aside0.mk (Kd.R_below (rU HO_248001.out) hb); replace BK216 := bB (bV BK216) hb; replace BK217 := bB (bV BK217) hb; replace BK232 := bB (bV BK232) hb; replace BK237 := bB (bV BK237) hb; replace BK247 := bB (bV BK247) hb; replace HB := bH (lV5 GE216 GE217 GE232 GE237 GE247) hb; (try clear hb)))
          go_ret
          exact ⟨eE, lV5 GE216 GE217 GE232 GE237 GE247⟩
         ·rw [if_neg c114] at H
          have c114b0 : decide (t259 < 0) = false := decide_eq_false c114
          clear c114
          by_cases c123 : t259 = t257
          ·rw [if_pos c123] at H
           have c123b0 : (t259 == t257) = true := beq_iff_eq.mpr c123
           have c123b1 : (t259 != t257) = false := bne_eq_false_iff_eq.mpr c123
           clear c123
           replace H := Option.bind_eq_some_iff.mp H
           obtain ⟨⟨t260, t261⟩, A1240, H⟩ := H
           replace H : ((laws_toTimer.f a1_0 a1_1 a1_2 a1_3).bind fun bt264 => ((impl_AddTimer.f kj76 t260 t261 bt264.1 bt264.2.1 bt264.2.2.1 bt264.2.2.2).bind fun bt268 => ((laws_eqClock.f kj76 bt268.1 bt268.2.1 t227 t228).bind fun t274 => (if t274 = true then (laws_FnExactAddTimer.j2 kj76 t257 (bt268.2.2 != t231) t242 t258) else (laws_FnExactAddTimer.j2 kj76 t257 true t242 t258))))) = some r := H
           have A124 := Aside0.mk A1240
           clear A1240
           replace H := Option.bind_eq_some_iff.mp H
           obtain ⟨⟨t264, t265, t266, t267⟩, A1250, H⟩ := H
           replace H : ((impl_AddTimer.f kj76 t260 t261 t264 t265 t266 t267).bind fun bt268 => ((laws_eqClock.f kj76 bt268.1 bt268.2.1 t227 t228).bind fun t274 => (if t274 = true then (laws_FnExactAddTimer.j2 kj76 t257 (bt268.2.2 != t231) t242 t258) else (laws_FnExactAddTimer.j2 kj76 t257 true t242 t258)))) = some r := H
           have A125 := Aside0.mk A1250
           clear A1250
           replace H := Option.bind_eq_some_iff.mp H
           obtain ⟨⟨t268, t269, t272⟩, A1260, H⟩ := H
           replace H : ((laws_eqClock.f kj76 t268 t269 t227 t228).bind fun t274 => (if t274 = true then (laws_FnExactAddTimer.j2 kj76 t257 (t272 != t231) t242 t258) else (laws_FnExactAddTimer.j2 kj76 t257 true t242 t258))) = some r := H
           have A126 := Aside0.mk A1260
           clear A1260
           have HC127 := Aside0.mk H
           clear H
           have hnb128 := NB247_216.out
           have hnc128 := NB216_247.out
           have hnb129 := NB247_217.out
           have hnc129 := NB217_247.out
           have hnb130 := NB247_232.out
           have hnc130 := NB232_247.out
           have hnb131 := NB247_237.out
           have hnc131 := NB237_247.out
           have hcz132_0 := cz BK247 0 (.int .i64 t242)
           have hcz132_1 := cz BK247 1 (.slice Ao48 t243.length co48)
           have hfz132_0 := fz BK247 0
           have hfz132_1 := fz BK247 1
           try go_wp2_with (first | ((with_reducible refine gate_callee (f := 12) rfl ?_); refine goesL_ (some 70) rfl rfl Try.func12 (by kernel_rfl) rfl #[.agg #[.int .i64 t242, .slice Ao48 t243.length co48], .int .i64 1] rfl aE ?_; (with_reducible refine (laws_markClock.calls kj76 t242 (fun k_ => some k_ = (.slice Ao48 t243.length co48 : Value).ownBlock) (.slice Ao48 t243.length co48) t243 1 t257 t258 w _ ?side1 ?side2 A112.out).mono ?_); (case side1 => repeat (first | (with_reducible first | exact HB.out | apply below_alloc | apply pw_below_drewN | apply below_drew1 | refine below_set ?_ GE216.out | refine below_set ?_ GE217.out | refine below_set ?_ GE232.out | refine below_set ?_ GE237.out | refine below_set ?_ GE247.out) | exact HB.out)); (case side2 => exact Kd.R_tight rfl HO_248001.out); rintro e w133 ⟨rfl, hy0, hb, hkp⟩; refine ⟨_, rfl, ?_⟩; replace HO_233001 := Aside0.mk (Kd.R_mono (ok' := fun k_ => some k_ ≠ (.slice Ao40 t255.length co40 : Value).ownBlock ∧ some k_ ≠ (.slice Ao48 t243.length co48 : Value).ownBlock) (Kd.R_keptB (HO_233001.out) hkp (fun k_ hk_ hs_ => (hk_.2) hs_)) (fun k_ hk_ => ⟨hk_.1.1, hk_.1.2⟩)); replace HO_238001 := Aside0.mk (Kd.R_mono (ok' := fun k_ => some k_ ≠ (.slice Ao30 t228.length co30 : Value).ownBlock ∧ some k_ ≠ (.slice Ao48 t243.length co48 : Value).ownBlock) (Kd.R_keptB (HO_238001.out) hkp (fun k_ hk_ hs_ => (hk_.2) hs_)) (fun k_ hk_ => ⟨hk_.1.1, hk_.1.2⟩)); replace BK216 := Aside0.mk (blk_kept (bV BK216) hkp (fun hs_ => (fun e_ => (Kd.R_ne HO_248001.out BK216.out (by decide)) e_) hs_)); replace BK217 := Aside0.mk (blk_kept (bV BK217) hkp (fun hs_ => (fun e_ => (Kd.R_ne HO_248001.out BK217.out (by decide)) e_) hs_)); replace BK232 := Aside0.mk (blk_kept (bV BK232) hkp (fun hs_ => (fun e_ => (Kd.R_ne HO_248001.out BK232.out (by decide)) e_) hs_)); replace BK237 := Aside0.mk (blk_kept (bV BK237) hkp (fun hs_ => (fun e_ => (Kd.R_ne HO_248001.out BK237.out (by decide)) e_) hs_)); replace BK247 := Aside0.mk (blk_kept (bV BK247) hkp (fun hs_ => (fun e_ => (Kd.R_ne HO_248001.out BK247.out (by decide)) e_) hs_)); replace HO_248001 := Aside0.mk (Kd.R_reok rfl hy0 (fun k_ e_ => HO_248001.out.1 k_ e_)); replace HB := Aside0.mk hb; (try clear hb); (try clear hkp); (try clear hg_); (try clear hp_); (try clear hy0); have hcz134_0 := cz BK247 0 (.int .i64 t242); have hcz134_1 := cz BK247 1 (.slice Ao48 t243.length co48); have hfz134_0 := fz BK247 0; have hfz134_1 := fz BK247 1) | ((with_reducible refine gate_callee (f := 13) rfl ?_); refine goesL_ (some 73) rfl rfl Try.func13 (by kernel_rfl) rfl #[.agg #[.int .i64 t242, .slice Ao48 t258.length co48], .int .i64 1] rfl (by (try simp only [List.map_toArray, List.map_cons, List.map_nil]); first | done | (rw [show t258.length = t243.length from (Kd.R_reads' HO_248001.out).1.symm] <;> rfl) | rfl | (simp only [List.length_drop, List.length_take]; rfl)) ?_; (with_reducible refine (laws_heldClock.calls kj76 t242 _ _ t258 1 t259 _ ?side1 ?side2 A113.out).mono ?_); (case side1 => exact cU (Kd.R_reads' HO_248001.out).2.2); (case side2 => rw [show t258.length = t243.length from (Kd.R_reads' HO_248001.out).1.symm]; exact (Kd.R_reads' HO_248001.out).2.1); rintro e w135 ⟨rfl, hb⟩; refine ⟨_, rfl, ?_⟩; replace HO_233001 := Aside0.mk (Kd.R_below (rU HO_233001.out) hb); replace HO_238001 := Aside0.mk (Kd.R_below (rU HO_238001.out) hb); replace HO_248001 := Aside0.mk (Kd.R_below (rU HO_248001.out) hb); replace BK216 := bB (bV BK216) hb; replace BK217 := bB (bV BK217) hb; replace BK232 := bB (bV BK232) hb; replace BK237 := bB (bV BK237) hb; replace BK247 := bB (bV BK247) hb; replace HB := bH (lV5 GE216 GE217 GE232 GE237 GE247) hb; (try clear hb)))
           replace HO_233001 := Aside0.mk (Kd.R_drew HO_233001.out)
           replace HO_238001 := Aside0.mk (Kd.R_drew HO_238001.out)
           replace HO_248001 := Aside0.mk (Kd.R_drew HO_248001.out)
           replace BK216 := Aside0.mk (blk_drew BK216.out)
           replace BK217 := Aside0.mk (blk_drew BK217.out)
           replace BK232 := Aside0.mk (blk_drew BK232.out)
           replace BK237 := Aside0.mk (blk_drew BK237.out)
           replace BK247 := Aside0.mk (blk_drew BK247.out)
           replace HB := Aside0.mk (below_drew1 HB.out)
           refine start_ (n := 11) (S := fun w' => w'.cell? ⟨gb216, 0, none⟩ = some (.int .i64 a0_0) ∧ w'.cell? ⟨gb216, 1, none⟩ = some (.slice A0_1 l0_1.length c0_1) ∧ w'.cell? ⟨gb217, 0, none⟩ = some (.int .i64 a1_0) ∧ w'.cell? ⟨gb217, 1, none⟩ = some (.int .i64 a1_1) ∧ w'.cell? ⟨gb217, 2, none⟩ = some (.int .i64 a1_2) ∧ w'.cell? ⟨gb217, 3, none⟩ = some (.int .i64 a1_3)) (ds := []) #[false, false, false, false, false, false, false, false, false, false, false] (by kernel_rfl) rfl rfl ⟨cz BK216 0 _, cz BK216 1 _, cz BK217 0 _, cz BK217 1 _, cz BK217 2 _, cz BK217 3 _⟩ (fun hHeld => ?_); refine with_tabW laws_FnExactAddTimer.tab24 laws_FnExactAddTimer.bits24 (fun HT_ HW_ => ?_)
           generalize w135.drew = w136 at HO_233001 HO_238001 HO_248001 BK216 BK217 BK232 BK237 BK247 HB hHeld ⊢
           refine takeA 0 80 (bz 11 1) rfl rfl (take_ofW HT_.out HW_.out (by kernel_rfl)) hHeld (by rintro w' ⟨s0, s1, s2, s3, s4, s5⟩; go_simp; with_reducible rfl) ?_
           refine takeA 2 82 (bz 11 5) rfl rfl (take_ofW HT_.out HW_.out (by kernel_rfl)) hHeld (by rintro w' ⟨s0, s1, s2, s3, s4, s5⟩; go_simp; with_reducible rfl) ?_
           refine join_ (σ := Value × Value × Nat) 2 #[true, true, true, true, true, true, true, true, true, false, false] (fun s_ => [(81, .agg #[.int .i64 t260, s_.1]), (83, .agg #[.int .i64 t264, .int .i64 t265, .int .i64 t266, .int .i64 t267]), (84, .tuple #[.agg #[.int .i64 t268, s_.2.1], .bool t272]), (14, .pointer (some ⟨s_.2.2, 0, none⟩)), (79, .tuple #[.agg #[.int .i64 t268, s_.2.1], .bool t272]), (85, .agg #[.int .i64 t268, s_.2.1]), (86, .bool t272)]) (fun s_ w' => (w'.cell? ⟨gb216, 0, none⟩ = some (.int .i64 a0_0) ∧ w'.cell? ⟨gb216, 1, none⟩ = some (.slice A0_1 l0_1.length c0_1) ∧ w'.cell? ⟨gb217, 0, none⟩ = some (.int .i64 a1_0) ∧ w'.cell? ⟨gb217, 1, none⟩ = some (.int .i64 a1_1) ∧ w'.cell? ⟨gb217, 2, none⟩ = some (.int .i64 a1_2) ∧ w'.cell? ⟨gb217, 3, none⟩ = some (.int .i64 a1_3)) ∧ (Kd.R k34 34 w' w.heap.size (fun k_ => some k_ ≠ (s_.2.1 : Value).ownBlock ∧ some k_ ≠ (.slice Ao30 t228.length co30 : Value).ownBlock ∧ some k_ ≠ (.slice Ao40 t255.length co40 : Value).ownBlock ∧ some k_ ≠ (.slice Ao48 t243.length co48 : Value).ownBlock) s_.1 t261) ∧ (Kd.R k34 34 w' w.heap.size (fun k_ => some k_ ≠ (s_.1 : Value).ownBlock ∧ some k_ ≠ (.slice Ao30 t228.length co30 : Value).ownBlock ∧ some k_ ≠ (.slice Ao40 t255.length co40 : Value).ownBlock ∧ some k_ ≠ (.slice Ao48 t243.length co48 : Value).ownBlock) s_.2.1 t269) ∧ (Kd.R k34 34 w' w.heap.size (fun k_ => some k_ ≠ (s_.1 : Value).ownBlock ∧ some k_ ≠ (s_.2.1 : Value).ownBlock ∧ some k_ ≠ (.slice Ao40 t255.length co40 : Value).ownBlock ∧ some k_ ≠ (.slice Ao48 t243.length co48 : Value).ownBlock) (.slice Ao30 t228.length co30) t228) ∧ (Kd.R k34 34 w' w.heap.size (fun k_ => some k_ ≠ (s_.1 : Value).ownBlock ∧ some k_ ≠ (s_.2.1 : Value).ownBlock ∧ some k_ ≠ (.slice Ao30 t228.length co30 : Value).ownBlock ∧ some k_ ≠ (.slice Ao48 t243.length co48 : Value).ownBlock) (.slice Ao40 t255.length co40) t255) ∧ (Kd.R k34 34 w' w.heap.size (fun k_ => some k_ ≠ (s_.1 : Value).ownBlock ∧ some k_ ≠ (s_.2.1 : Value).ownBlock ∧ some k_ ≠ (.slice Ao30 t228.length co30 : Value).ownBlock ∧ some k_ ≠ (.slice Ao40 t255.length co40 : Value).ownBlock) (.slice Ao48 t243.length co48) t258) ∧ (w'.heap[gb216]? = some (.cells #[.int .i64 a0_0, .slice A0_1 l0_1.length c0_1] 24 (0, 0))) ∧ (w'.heap[gb217]? = some (.cells #[.int .i64 a1_0, .int .i64 a1_1, .int .i64 a1_2, .int .i64 a1_3] 26 (0, 0))) ∧ (w'.heap[gb232]? = some (.cells #[.int .i64 t227, .slice Ao30 t228.length co30] 30 (0, 0))) ∧ (w'.heap[gb237]? = some (.cells #[.int .i64 t233, .slice Ao40 t255.length co40] 30 (0, 0))) ∧ (w'.heap[gb247]? = some (.cells #[.int .i64 t242, .slice Ao48 t243.length co48] 30 (0, 0))) ∧ (w'.heap[s_.2.2]? = some (.cells #[.int .i64 0, .slice none 0 0] 30 (0, 0))) ∧ (w.heap.size ≤ s_.2.2) ∧ (w.heap.size ≤ s_.2.2) ∧ (gb216 ≠ s_.2.2) ∧ (s_.2.2 ≠ gb216) ∧ (gb217 ≠ s_.2.2) ∧ (s_.2.2 ≠ gb217) ∧ (gb232 ≠ s_.2.2) ∧ (s_.2.2 ≠ gb232) ∧ (gb237 ≠ s_.2.2) ∧ (s_.2.2 ≠ gb237) ∧ (gb247 ≠ s_.2.2) ∧ (s_.2.2 ≠ gb247) ∧ (Below w.heap.size w w')) ?_ ?_
           rotate_left
           ·intro hCont
            refine two_ (i := 1) (j := 8) (Ni := some 81) (Nj := some 14) #[true, true, true, false, false, false, false, false, false, false, false] #[true, false, true, false, false, false, false, false, true, false, false] rfl rfl rfl rfl (two_of HT_.out (by kernel_rfl)) (by decide) (by decide) (fun K hK => ?_) (fun K hK => ?_)
            ·skip
             refine goes_ Try.func8 (by kernel_rfl) rfl #[.agg #[.int .i64 a0_0, .slice A0_1 l0_1.length c0_1]] (by rfl) rfl rfl aE ?_
             with_reducible refine (laws_toClock.calls kj76 a0_0 _ _ l0_1 t260 t261 _ ?side1 ?side2 A124.out).mono ?_
             (case side1 => exact cU (Kd.C_below HR0_1.out HB.out))
             (case side2 => exact HC0_1.out)
             rintro e w137 ⟨v262, rfl, ho0, hb⟩
             refine ⟨_, rfl, ?_⟩
             have HO263 := Aside0.mk (Kd.R_lower (Kd.R_new' (Kd.R_new' (Kd.R_new' ho0 (Kd.R_lt (rU HO_233001.out))) (Kd.R_lt (rU HO_238001.out))) (Kd.R_lt (rU HO_248001.out))) (below_size (lV5 GE216 GE217 GE232 GE237 GE247)))
             replace HO_233001 := Aside0.mk (Kd.R_elder' (rU HO_233001.out) (Kd.R_base ho0) hb)
             replace HO_238001 := Aside0.mk (Kd.R_elder' (rU HO_238001.out) (Kd.R_base ho0) hb)
             replace HO_248001 := Aside0.mk (Kd.R_elder' (rU HO_248001.out) (Kd.R_base ho0) hb)
             replace BK216 := bB (bV BK216) hb
             replace BK217 := bB (bV BK217) hb
             replace BK232 := bB (bV BK232) hb
             replace BK237 := bB (bV BK237) hb
             replace BK247 := bB (bV BK247) hb
             replace HB := bH (lV5 GE216 GE217 GE232 GE237 GE247) hb
             (try clear hb)
             (try clear hb2)
             (try clear hk)
             (try clear hi)
             (try clear ho0)
             refine hK.out _ _ ⟨cz BK216 0 _, cz BK216 1 _, cz BK217 0 _, cz BK217 1 _, cz BK217 2 _, cz BK217 3 _⟩ (fun hHeld => ?_)
             clear hK K
             refine norm_ (a' := ?_) ?_ ?_
             rotate_left
             ·show Act.put _ (some 81) _ = _
              simp only [Act.put, List.setIfInBounds_toArray, List.set_cons_zero, List.set_cons_succ, i64_w, i32_w]
              rfl
             refine two_ (i := 3) (j := 8) (Ni := some 83) (Nj := some 14) #[true, true, true, true, false, false, false, false, false, false, false] #[true, true, true, false, false, false, false, false, true, false, false] rfl rfl rfl rfl (two_of HT_.out (by kernel_rfl)) (by decide) (by decide) (fun K hK => ?_) (fun K hK => ?_)
             ·skip
              refine goes_ Try.func9 (by kernel_rfl) rfl #[.agg #[.int .i64 a1_0, .int .i64 a1_1, .int .i64 a1_2, .int .i64 a1_3]] (by rfl) rfl rfl aE ?_
              with_reducible refine (laws_toTimer.calls a1_0 a1_1 a1_2 a1_3 t264 t265 t266 t267 _ A125.out).mono ?_
              rintro e w138 ⟨rfl, hb⟩
              refine ⟨_, rfl, ?_⟩
              replace HO_233001 := Aside0.mk (Kd.R_below (rU HO_233001.out) hb)
              replace HO_238001 := Aside0.mk (Kd.R_below (rU HO_238001.out) hb)
              replace HO_248001 := Aside0.mk (Kd.R_below (rU HO_248001.out) hb)
              replace HO263 := Aside0.mk (Kd.R_below (rU HO263.out) hb)
              replace BK216 := bB (bV BK216) hb
              replace BK217 := bB (bV BK217) hb
              replace BK232 := bB (bV BK232) hb
              replace BK237 := bB (bV BK237) hb
              replace BK247 := bB (bV BK247) hb
              replace HB := bH (lV5 GE216 GE217 GE232 GE237 GE247) hb
              (try clear hb)
              (try clear hb2)
              (try clear hk)
              (try clear hi)
              obtain ⟨Ao139, co139, eo139⟩ := Kd.R_slice HO263.out
              (first | subst eo139 | (injection eo139 with f1_ f2_ f3_; have f4_ := f1_.symm; have f5_ := f3_.symm; clear f1_ f2_ f3_; subst f4_; subst f5_))
              refine hK.out _ _ ⟨cz BK216 0 _, cz BK216 1 _, cz BK217 0 _, cz BK217 1 _, cz BK217 2 _, cz BK217 3 _⟩ (fun hHeld => ?_)
              clear hK K
              refine norm_ (a' := ?_) ?_ ?_
              rotate_left
              ·show Act.put _ (some 83) _ = _
               simp only [Act.put, List.setIfInBounds_toArray, List.set_cons_zero, List.set_cons_succ, i64_w, i32_w]
               rfl
              refine two_ (i := 4) (j := 8) (Ni := some 84) (Nj := some 14) #[true, true, true, true, true, false, false, false, false, false, false] #[true, true, true, true, false, false, false, false, true, false, false] rfl rfl rfl rfl (two_of HT_.out (by kernel_rfl)) (by decide) (by decide) (fun K hK => ?_) (fun K hK => ?_)
              ·skip
               refine goes_ Try.func10 (by kernel_rfl) rfl #[.agg #[.int .i64 t260, .slice Ao139 t261.length co139], .agg #[.int .i64 t264, .int .i64 t265, .int .i64 t266, .int .i64 t267]] (by rfl) rfl rfl aE ?_
               with_reducible refine (impl_AddTimer.calls kj76 t260 _ _ t261 t264 t265 t266 t267 t268 t269 t272 _ ?side1 ?side2 A126.out).mono ?_
               (case side1 => exact cU (Kd.R_reads' HO263.out).2.2)
               (case side2 => exact (Kd.R_reads' HO263.out).2.1)
               rintro e w140 ⟨v270, rfl, ho0, hb⟩
               refine ⟨_, rfl, ?_⟩
               have HO271 := Aside0.mk (Kd.R_lower (Kd.R_new' (Kd.R_new' (Kd.R_new' (Kd.R_new' ho0 (Kd.R_lt (rU HO_233001.out))) (Kd.R_lt (rU HO_238001.out))) (Kd.R_lt (rU HO_248001.out))) (Kd.R_lt (rU HO263.out))) (below_size (lV5 GE216 GE217 GE232 GE237 GE247)))
               replace HO_233001 := Aside0.mk (Kd.R_elder' (rU HO_233001.out) (Kd.R_base ho0) hb)
               replace HO_238001 := Aside0.mk (Kd.R_elder' (rU HO_238001.out) (Kd.R_base ho0) hb)
               replace HO_248001 := Aside0.mk (Kd.R_elder' (rU HO_248001.out) (Kd.R_base ho0) hb)
               replace HO263 := Aside0.mk (Kd.R_elder' (rU HO263.out) (Kd.R_base ho0) hb)
               replace BK216 := bB (bV BK216) hb
               replace BK217 := bB (bV BK217) hb
               replace BK232 := bB (bV BK232) hb
               replace BK237 := bB (bV BK237) hb
               replace BK247 := bB (bV BK247) hb
               replace HB := bH (lV5 GE216 GE217 GE232 GE237 GE247) hb
               (try clear hb)
               (try clear hb2)
               (try clear hk)
               (try clear hi)
               (try clear ho0)
               refine hK.out _ _ ⟨cz BK216 0 _, cz BK216 1 _, cz BK217 0 _, cz BK217 1 _, cz BK217 2 _, cz BK217 3 _⟩ (fun hHeld => ?_)
               clear hK K
               refine norm_ (a' := ?_) ?_ ?_
               rotate_left
               ·show Act.put _ (some 84) _ = _
                simp only [Act.put, List.setIfInBounds_toArray, List.set_cons_zero, List.set_cons_succ, i64_w, i32_w]
                rfl
               refine pureA 5 79 (bz 11 63) rfl rfl (any_of HT_.out (by kernel_rfl)) ?_
               refine pureA 6 85 (bz 11 127) rfl rfl (any_of HT_.out (by kernel_rfl)) ?_
               refine pureA 7 86 (bz 11 255) rfl rfl (any_of HT_.out (by kernel_rfl)) ?_
               refine one_ (i := 8) (N := some 14) (bz 11 511) rfl rfl (one_of HT_.out (by kernel_rfl)) (by decide) (fun K hK => ?_)
               refine box_step ?hg (N := 14) ?hd (cs := #[.int .i64 0, .slice none 0 0]) (t := 30) ?hr ?_; (case hd => rfl); (case hg => rfl); (case hr => exact sE)
               intro gb273 hg w141 hbox hb
               replace HO_233001 := Aside0.mk (Kd.R_below (rU HO_233001.out) hb)
               replace HO_238001 := Aside0.mk (Kd.R_below (rU HO_238001.out) hb)
               replace HO_248001 := Aside0.mk (Kd.R_below (rU HO_248001.out) hb)
               replace HO263 := Aside0.mk (Kd.R_below (rU HO263.out) hb)
               replace HO271 := Aside0.mk (Kd.R_below (rU HO271.out) hb)
               have BK273 := Aside0.mk hbox
               have GW273 := gS w hg (lV5 GE216 GE217 GE232 GE237 GE247)
               have GE273 := gS w hg (lV5 GE216 GE217 GE232 GE237 GE247)
               replace HB := bH (lV5 GE216 GE217 GE232 GE237 GE247) hb
               have NB216_273 := nL hg (bV BK216)
               have NB273_216 := nG hg (bV BK216)
               replace BK216 := bB (bV BK216) hb
               have NB217_273 := nL hg (bV BK217)
               have NB273_217 := nG hg (bV BK217)
               replace BK217 := bB (bV BK217) hb
               have NB232_273 := nL hg (bV BK232)
               have NB273_232 := nG hg (bV BK232)
               replace BK232 := bB (bV BK232) hb
               have NB237_273 := nL hg (bV BK237)
               have NB273_237 := nG hg (bV BK237)
               replace BK237 := bB (bV BK237) hb
               have NB247_273 := nL hg (bV BK247)
               have NB273_247 := nG hg (bV BK247)
               replace BK247 := bB (bV BK247) hb
               clear hb hbox hg
               refine hK.out _ _ ⟨cz BK216 0 _, cz BK216 1 _, cz BK217 0 _, cz BK217 1 _, cz BK217 2 _, cz BK217 3 _⟩ (fun hHeld => ?_)
               clear hK K
               refine norm_ (a' := ?_) ?_ ?_
               rotate_left
               ·show Act.put _ (some 14) _ = _
                simp only [Act.put, List.setIfInBounds_toArray, List.set_cons_zero, List.set_cons_succ, i64_w, i32_w]
                rfl
               exact norm_ (by simp only [putAll, Act.put, List.setIfInBounds_toArray, List.set_cons_zero, List.set_cons_succ]) (hCont (.slice Ao139 t261.length co139, v270, gb273) _ ⟨hHeld, (by (with_reducible repeat (first | apply Kd.R_alloc | apply Kd.R_drewN | apply Kd.R_drew)); exact Kd.R_mono HO263.out (fun _ hk => ⟨hk.2, ⟨hk.1.1.1.2, ⟨hk.1.1.2, hk.1.2⟩⟩⟩)), (by (with_reducible repeat (first | apply Kd.R_alloc | apply Kd.R_drewN | apply Kd.R_drew)); exact Kd.R_mono HO271.out (fun _ hk => ⟨hk.2, ⟨hk.1.1.1.2, ⟨hk.1.1.2, hk.1.2⟩⟩⟩)), (by (with_reducible repeat (first | apply Kd.R_alloc | apply Kd.R_drewN | apply Kd.R_drew)); exact Kd.R_mono HO_233001.out (fun _ hk => ⟨hk.1.2, ⟨hk.2, ⟨hk.1.1.1, hk.1.1.2⟩⟩⟩)), (by (with_reducible repeat (first | apply Kd.R_alloc | apply Kd.R_drewN | apply Kd.R_drew)); exact Kd.R_mono HO_238001.out (fun _ hk => ⟨hk.1.2, ⟨hk.2, ⟨hk.1.1.1, hk.1.1.2⟩⟩⟩)), (by (with_reducible repeat (first | apply Kd.R_alloc | apply Kd.R_drewN | apply Kd.R_drew)); exact Kd.R_mono HO_248001.out (fun _ hk => ⟨hk.1.2, ⟨hk.2, ⟨hk.1.1.1, hk.1.1.2⟩⟩⟩)), (bV BK216), (bV BK217), (bV BK232), (bV BK237), (bV BK247), (bV BK273), GW273.out, GE273.out, NB216_273.out, NB273_216.out, NB217_273.out, NB273_217.out, NB232_273.out, NB273_232.out, NB237_273.out, NB273_237.out, NB247_273.out, NB273_247.out, (lV6 GE216 GE217 GE232 GE237 GE247 GE273)⟩)
              ·skip
               refine box_step ?hg (N := 14) ?hd (cs := #[.int .i64 0, .slice none 0 0]) (t := 30) ?hr ?_; (case hd => rfl); (case hg => rfl); (case hr => exact sE)
               intro gb273 hg w139 hbox hb
               replace HO_233001 := Aside0.mk (Kd.R_below (rU HO_233001.out) hb)
               replace HO_238001 := Aside0.mk (Kd.R_below (rU HO_238001.out) hb)
               replace HO_248001 := Aside0.mk (Kd.R_below (rU HO_248001.out) hb)
               replace HO263 := Aside0.mk (Kd.R_below (rU HO263.out) hb)
               have BK273 := Aside0.mk hbox
               have GW273 := gS w hg (lV5 GE216 GE217 GE232 GE237 GE247)
               have GE273 := gS w hg (lV5 GE216 GE217 GE232 GE237 GE247)
               replace HB := bH (lV5 GE216 GE217 GE232 GE237 GE247) hb
               have NB216_273 := nL hg (bV BK216)
               have NB273_216 := nG hg (bV BK216)
               replace BK216 := bB (bV BK216) hb
               have NB217_273 := nL hg (bV BK217)
               have NB273_217 := nG hg (bV BK217)
               replace BK217 := bB (bV BK217) hb
               have NB232_273 := nL hg (bV BK232)
               have NB273_232 := nG hg (bV BK232)
               replace BK232 := bB (bV BK232) hb
               have NB237_273 := nL hg (bV BK237)
               have NB273_237 := nG hg (bV BK237)
               replace BK237 := bB (bV BK237) hb
               have NB247_273 := nL hg (bV BK247)
               have NB273_247 := nG hg (bV BK247)
               replace BK247 := bB (bV BK247) hb
               clear hb hbox hg
               obtain ⟨Ao140, co140, eo140⟩ := Kd.R_slice HO263.out
               (first | subst eo140 | (injection eo140 with f1_ f2_ f3_; have f4_ := f1_.symm; have f5_ := f3_.symm; clear f1_ f2_ f3_; subst f4_; subst f5_))
               refine hK.out _ _ ⟨cz BK216 0 _, cz BK216 1 _, cz BK217 0 _, cz BK217 1 _, cz BK217 2 _, cz BK217 3 _⟩ (fun hHeld => ?_)
               clear hK K
               refine norm_ (a' := ?_) ?_ ?_
               rotate_left
               ·show Act.put _ (some 14) _ = _
                simp only [Act.put, List.setIfInBounds_toArray, List.set_cons_zero, List.set_cons_succ, i64_w, i32_w]
                rfl
               refine one_ (i := 4) (N := some 84) (bz 11 287) rfl rfl (one_of HT_.out (by kernel_rfl)) (by decide) (fun K hK => ?_)
               refine goes_ Try.func10 (by kernel_rfl) rfl #[.agg #[.int .i64 t260, .slice Ao140 t261.length co140], .agg #[.int .i64 t264, .int .i64 t265, .int .i64 t266, .int .i64 t267]] (by rfl) rfl rfl aE ?_
               with_reducible refine (impl_AddTimer.calls kj76 t260 _ _ t261 t264 t265 t266 t267 t268 t269 t272 _ ?side1 ?side2 A126.out).mono ?_
               (case side1 => exact cU (Kd.R_reads' HO263.out).2.2)
               (case side2 => exact (Kd.R_reads' HO263.out).2.1)
               rintro e w141 ⟨v270, rfl, ho0, hb⟩
               refine ⟨_, rfl, ?_⟩
               have HO271 := Aside0.mk (Kd.R_lower (Kd.R_new' (Kd.R_new' (Kd.R_new' (Kd.R_new' ho0 (Kd.R_lt (rU HO_233001.out))) (Kd.R_lt (rU HO_238001.out))) (Kd.R_lt (rU HO_248001.out))) (Kd.R_lt (rU HO263.out))) (below_size (lV6 GE216 GE217 GE232 GE237 GE247 GE273)))
               replace HO_233001 := Aside0.mk (Kd.R_elder' (rU HO_233001.out) (Kd.R_base ho0) hb)
               replace HO_238001 := Aside0.mk (Kd.R_elder' (rU HO_238001.out) (Kd.R_base ho0) hb)
               replace HO_248001 := Aside0.mk (Kd.R_elder' (rU HO_248001.out) (Kd.R_base ho0) hb)
               replace HO263 := Aside0.mk (Kd.R_elder' (rU HO263.out) (Kd.R_base ho0) hb)
               replace BK216 := bB (bV BK216) hb
               replace BK217 := bB (bV BK217) hb
               replace BK232 := bB (bV BK232) hb
               replace BK237 := bB (bV BK237) hb
               replace BK247 := bB (bV BK247) hb
               replace BK273 := bB (bV BK273) hb
               replace HB := bH (lV6 GE216 GE217 GE232 GE237 GE247 GE273) hb
               (try clear hb)
               (try clear hb2)
               (try clear hk)
               (try clear hi)
               (try clear ho0)
               refine hK.out _ _ ⟨cz BK216 0 _, cz BK216 1 _, cz BK217 0 _, cz BK217 1 _, cz BK217 2 _, cz BK217 3 _⟩ (fun hHeld => ?_)
               clear hK K
               refine norm_ (a' := ?_) ?_ ?_
               rotate_left
               ·show Act.put _ (some 84) _ = _
                simp only [Act.put, List.setIfInBounds_toArray, List.set_cons_zero, List.set_cons_succ, i64_w, i32_w]
                rfl
               refine pureA 5 79 (bz 11 319) rfl rfl (any_of HT_.out (by kernel_rfl)) ?_
               refine pureA 6 85 (bz 11 383) rfl rfl (any_of HT_.out (by kernel_rfl)) ?_
               refine pureA 7 86 (bz 11 511) rfl rfl (any_of HT_.out (by kernel_rfl)) ?_
               exact norm_ (by simp only [putAll, Act.put, List.setIfInBounds_toArray, List.set_cons_zero, List.set_cons_succ]) (hCont (.slice Ao140 t261.length co140, v270, gb273) _ ⟨hHeld, (by (with_reducible repeat (first | apply Kd.R_alloc | apply Kd.R_drewN | apply Kd.R_drew)); exact Kd.R_mono HO263.out (fun _ hk => ⟨hk.2, ⟨hk.1.1.1.2, ⟨hk.1.1.2, hk.1.2⟩⟩⟩)), (by (with_reducible repeat (first | apply Kd.R_alloc | apply Kd.R_drewN | apply Kd.R_drew)); exact Kd.R_mono HO271.out (fun _ hk => ⟨hk.2, ⟨hk.1.1.1.2, ⟨hk.1.1.2, hk.1.2⟩⟩⟩)), (by (with_reducible repeat (first | apply Kd.R_alloc | apply Kd.R_drewN | apply Kd.R_drew)); exact Kd.R_mono HO_233001.out (fun _ hk => ⟨hk.1.2, ⟨hk.2, ⟨hk.1.1.1, hk.1.1.2⟩⟩⟩)), (by (with_reducible repeat (first | apply Kd.R_alloc | apply Kd.R_drewN | apply Kd.R_drew)); exact Kd.R_mono HO_238001.out (fun _ hk => ⟨hk.1.2, ⟨hk.2, ⟨hk.1.1.1, hk.1.1.2⟩⟩⟩)), (by (with_reducible repeat (first | apply Kd.R_alloc | apply Kd.R_drewN | apply Kd.R_drew)); exact Kd.R_mono HO_248001.out (fun _ hk => ⟨hk.1.2, ⟨hk.2, ⟨hk.1.1.1, hk.1.1.2⟩⟩⟩)), (bV BK216), (bV BK217), (bV BK232), (bV BK237), (bV BK247), (bV BK273), GW273.out, GE273.out, NB216_273.out, NB273_216.out, NB217_273.out, NB273_217.out, NB232_273.out, NB273_232.out, NB237_273.out, NB273_237.out, NB247_273.out, NB273_247.out, (lV6 GE216 GE217 GE232 GE237 GE247 GE273)⟩)
             ·skip
              refine box_step ?hg (N := 14) ?hd (cs := #[.int .i64 0, .slice none 0 0]) (t := 30) ?hr ?_; (case hd => rfl); (case hg => rfl); (case hr => exact sE)
              intro gb273 hg w138 hbox hb
              replace HO_233001 := Aside0.mk (Kd.R_below (rU HO_233001.out) hb)
              replace HO_238001 := Aside0.mk (Kd.R_below (rU HO_238001.out) hb)
              replace HO_248001 := Aside0.mk (Kd.R_below (rU HO_248001.out) hb)
              replace HO263 := Aside0.mk (Kd.R_below (rU HO263.out) hb)
              have BK273 := Aside0.mk hbox
              have GW273 := gS w hg (lV5 GE216 GE217 GE232 GE237 GE247)
              have GE273 := gS w hg (lV5 GE216 GE217 GE232 GE237 GE247)
              replace HB := bH (lV5 GE216 GE217 GE232 GE237 GE247) hb
              have NB216_273 := nL hg (bV BK216)
              have NB273_216 := nG hg (bV BK216)
              replace BK216 := bB (bV BK216) hb
              have NB217_273 := nL hg (bV BK217)
              have NB273_217 := nG hg (bV BK217)
              replace BK217 := bB (bV BK217) hb
              have NB232_273 := nL hg (bV BK232)
              have NB273_232 := nG hg (bV BK232)
              replace BK232 := bB (bV BK232) hb
              have NB237_273 := nL hg (bV BK237)
              have NB273_237 := nG hg (bV BK237)
              replace BK237 := bB (bV BK237) hb
              have NB247_273 := nL hg (bV BK247)
              have NB273_247 := nG hg (bV BK247)
              replace BK247 := bB (bV BK247) hb
              clear hb hbox hg
              refine hK.out _ _ ⟨cz BK216 0 _, cz BK216 1 _, cz BK217 0 _, cz BK217 1 _, cz BK217 2 _, cz BK217 3 _⟩ (fun hHeld => ?_)
              clear hK K
              refine norm_ (a' := ?_) ?_ ?_
              rotate_left
              ·show Act.put _ (some 14) _ = _
               simp only [Act.put, List.setIfInBounds_toArray, List.set_cons_zero, List.set_cons_succ, i64_w, i32_w]
               rfl
              refine one_ (i := 3) (N := some 83) (bz 11 271) rfl rfl (one_of HT_.out (by kernel_rfl)) (by decide) (fun K hK => ?_)
              refine goes_ Try.func9 (by kernel_rfl) rfl #[.agg #[.int .i64 a1_0, .int .i64 a1_1, .int .i64 a1_2, .int .i64 a1_3]] (by rfl) rfl rfl aE ?_
              with_reducible refine (laws_toTimer.calls a1_0 a1_1 a1_2 a1_3 t264 t265 t266 t267 _ A125.out).mono ?_
              rintro e w139 ⟨rfl, hb⟩
              refine ⟨_, rfl, ?_⟩
              replace HO_233001 := Aside0.mk (Kd.R_below (rU HO_233001.out) hb)
              replace HO_238001 := Aside0.mk (Kd.R_below (rU HO_238001.out) hb)
              replace HO_248001 := Aside0.mk (Kd.R_below (rU HO_248001.out) hb)
              replace HO263 := Aside0.mk (Kd.R_below (rU HO263.out) hb)
              replace BK216 := bB (bV BK216) hb
              replace BK217 := bB (bV BK217) hb
              replace BK232 := bB (bV BK232) hb
              replace BK237 := bB (bV BK237) hb
              replace BK247 := bB (bV BK247) hb
              replace BK273 := bB (bV BK273) hb
              replace HB := bH (lV6 GE216 GE217 GE232 GE237 GE247 GE273) hb
              (try clear hb)
              (try clear hb2)
              (try clear hk)
              (try clear hi)
              obtain ⟨Ao140, co140, eo140⟩ := Kd.R_slice HO263.out
              (first | subst eo140 | (injection eo140 with f1_ f2_ f3_; have f4_ := f1_.symm; have f5_ := f3_.symm; clear f1_ f2_ f3_; subst f4_; subst f5_))
              refine hK.out _ _ ⟨cz BK216 0 _, cz BK216 1 _, cz BK217 0 _, cz BK217 1 _, cz BK217 2 _, cz BK217 3 _⟩ (fun hHeld => ?_)
              clear hK K
              refine norm_ (a' := ?_) ?_ ?_
              rotate_left
              ·show Act.put _ (some 83) _ = _
               simp only [Act.put, List.setIfInBounds_toArray, List.set_cons_zero, List.set_cons_succ, i64_w, i32_w]
               rfl
              refine one_ (i := 4) (N := some 84) (bz 11 287) rfl rfl (one_of HT_.out (by kernel_rfl)) (by decide) (fun K hK => ?_)
              refine goes_ Try.func10 (by kernel_rfl) rfl #[.agg #[.int .i64 t260, .slice Ao140 t261.length co140], .agg #[.int .i64 t264, .int .i64 t265, .int .i64 t266, .int .i64 t267]] (by rfl) rfl rfl aE ?_
              with_reducible refine (impl_AddTimer.calls kj76 t260 _ _ t261 t264 t265 t266 t267 t268 t269 t272 _ ?side1 ?side2 A126.out).mono ?_
              (case side1 => exact cU (Kd.R_reads' HO263.out).2.2)
              (case side2 => exact (Kd.R_reads' HO263.out).2.1)
              rintro e w141 ⟨v270, rfl, ho0, hb⟩
              refine ⟨_, rfl, ?_⟩
              have HO271 := Aside0.mk (Kd.R_lower (Kd.R_new' (Kd.R_new' (Kd.R_new' (Kd.R_new' ho0 (Kd.R_lt (rU HO_233001.out))) (Kd.R_lt (rU HO_238001.out))) (Kd.R_lt (rU HO_248001.out))) (Kd.R_lt (rU HO263.out))) (below_size (lV6 GE216 GE217 GE232 GE237 GE247 GE273)))
              replace HO_233001 := Aside0.mk (Kd.R_elder' (rU HO_233001.out) (Kd.R_base ho0) hb)
              replace HO_238001 := Aside0.mk (Kd.R_elder' (rU HO_238001.out) (Kd.R_base ho0) hb)
              replace HO_248001 := Aside0.mk (Kd.R_elder' (rU HO_248001.out) (Kd.R_base ho0) hb)
              replace HO263 := Aside0.mk (Kd.R_elder' (rU HO263.out) (Kd.R_base ho0) hb)
              replace BK216 := bB (bV BK216) hb
              replace BK217 := bB (bV BK217) hb
              replace BK232 := bB (bV BK232) hb
              replace BK237 := bB (bV BK237) hb
              replace BK247 := bB (bV BK247) hb
              replace BK273 := bB (bV BK273) hb
              replace HB := bH (lV6 GE216 GE217 GE232 GE237 GE247 GE273) hb
              (try clear hb)
              (try clear hb2)
              (try clear hk)
              (try clear hi)
              (try clear ho0)
              refine hK.out _ _ ⟨cz BK216 0 _, cz BK216 1 _, cz BK217 0 _, cz BK217 1 _, cz BK217 2 _, cz BK217 3 _⟩ (fun hHeld => ?_)
              clear hK K
              refine norm_ (a' := ?_) ?_ ?_
              rotate_left
              ·show Act.put _ (some 84) _ = _
               simp only [Act.put, List.setIfInBounds_toArray, List.set_cons_zero, List.set_cons_succ, i64_w, i32_w]
               rfl
              refine pureA 5 79 (bz 11 319) rfl rfl (any_of HT_.out (by kernel_rfl)) ?_
              refine pureA 6 85 (bz 11 383) rfl rfl (any_of HT_.out (by kernel_rfl)) ?_
              refine pureA 7 86 (bz 11 511) rfl rfl (any_of HT_.out (by kernel_rfl)) ?_
              exact norm_ (by simp only [putAll, Act.put, List.setIfInBounds_toArray, List.set_cons_zero, List.set_cons_succ]) (hCont (.slice Ao140 t261.length co140, v270, gb273) _ ⟨hHeld, (by (with_reducible repeat (first | apply Kd.R_alloc | apply Kd.R_drewN | apply Kd.R_drew)); exact Kd.R_mono HO263.out (fun _ hk => ⟨hk.2, ⟨hk.1.1.1.2, ⟨hk.1.1.2, hk.1.2⟩⟩⟩)), (by (with_reducible repeat (first | apply Kd.R_alloc | apply Kd.R_drewN | apply Kd.R_drew)); exact Kd.R_mono HO271.out (fun _ hk => ⟨hk.2, ⟨hk.1.1.1.2, ⟨hk.1.1.2, hk.1.2⟩⟩⟩)), (by (with_reducible repeat (first | apply Kd.R_alloc | apply Kd.R_drewN | apply Kd.R_drew)); exact Kd.R_mono HO_233001.out (fun _ hk => ⟨hk.1.2, ⟨hk.2, ⟨hk.1.1.1, hk.1.1.2⟩⟩⟩)), (by (with_reducible repeat (first | apply Kd.R_alloc | apply Kd.R_drewN | apply Kd.R_drew)); exact Kd.R_mono HO_238001.out (fun _ hk => ⟨hk.1.2, ⟨hk.2, ⟨hk.1.1.1, hk.1.1.2⟩⟩⟩)), (by (with_reducible repeat (first | apply Kd.R_alloc | apply Kd.R_drewN | apply Kd.R_drew)); exact Kd.R_mono HO_248001.out (fun _ hk => ⟨hk.1.2, ⟨hk.2, ⟨hk.1.1.1, hk.1.1.2⟩⟩⟩)), (bV BK216), (bV BK217), (bV BK232), (bV BK237), (bV BK247), (bV BK273), GW273.out, GE273.out, NB216_273.out, NB273_216.out, NB217_273.out, NB273_217.out, NB232_273.out, NB273_232.out, NB237_273.out, NB273_237.out, NB247_273.out, NB273_247.out, (lV6 GE216 GE217 GE232 GE237 GE247 GE273)⟩)
            ·skip
             refine box_step ?hg (N := 14) ?hd (cs := #[.int .i64 0, .slice none 0 0]) (t := 30) ?hr ?_; (case hd => rfl); (case hg => rfl); (case hr => exact sE)
             intro gb273 hg w137 hbox hb
             replace HO_233001 := Aside0.mk (Kd.R_below (rU HO_233001.out) hb)
             replace HO_238001 := Aside0.mk (Kd.R_below (rU HO_238001.out) hb)
             replace HO_248001 := Aside0.mk (Kd.R_below (rU HO_248001.out) hb)
             have BK273 := Aside0.mk hbox
             have GW273 := gS w hg (lV5 GE216 GE217 GE232 GE237 GE247)
             have GE273 := gS w hg (lV5 GE216 GE217 GE232 GE237 GE247)
             replace HB := bH (lV5 GE216 GE217 GE232 GE237 GE247) hb
             have NB216_273 := nL hg (bV BK216)
             have NB273_216 := nG hg (bV BK216)
             replace BK216 := bB (bV BK216) hb
             have NB217_273 := nL hg (bV BK217)
             have NB273_217 := nG hg (bV BK217)
             replace BK217 := bB (bV BK217) hb
             have NB232_273 := nL hg (bV BK232)
             have NB273_232 := nG hg (bV BK232)
             replace BK232 := bB (bV BK232) hb
             have NB237_273 := nL hg (bV BK237)
             have NB273_237 := nG hg (bV BK237)
             replace BK237 := bB (bV BK237) hb
             have NB247_273 := nL hg (bV BK247)
             have NB273_247 := nG hg (bV BK247)
             replace BK247 := bB (bV BK247) hb
             clear hb hbox hg
             refine hK.out _ _ ⟨cz BK216 0 _, cz BK216 1 _, cz BK217 0 _, cz BK217 1 _, cz BK217 2 _, cz BK217 3 _⟩ (fun hHeld => ?_)
             clear hK K
             refine norm_ (a' := ?_) ?_ ?_
             rotate_left
             ·show Act.put _ (some 14) _ = _
              simp only [Act.put, List.setIfInBounds_toArray, List.set_cons_zero, List.set_cons_succ, i64_w, i32_w]
              rfl
             refine one_ (i := 1) (N := some 81) (bz 11 263) rfl rfl (one_of HT_.out (by kernel_rfl)) (by decide) (fun K hK => ?_)
             refine goes_ Try.func8 (by kernel_rfl) rfl #[.agg #[.int .i64 a0_0, .slice A0_1 l0_1.length c0_1]] (by rfl) rfl rfl aE ?_
             with_reducible refine (laws_toClock.calls kj76 a0_0 _ _ l0_1 t260 t261 _ ?side1 ?side2 A124.out).mono ?_
             (case side1 => exact cU (Kd.C_below HR0_1.out HB.out))
             (case side2 => exact HC0_1.out)
             rintro e w138 ⟨v262, rfl, ho0, hb⟩
             refine ⟨_, rfl, ?_⟩
             have HO263 := Aside0.mk (Kd.R_lower (Kd.R_new' (Kd.R_new' (Kd.R_new' ho0 (Kd.R_lt (rU HO_233001.out))) (Kd.R_lt (rU HO_238001.out))) (Kd.R_lt (rU HO_248001.out))) (below_size (lV6 GE216 GE217 GE232 GE237 GE247 GE273)))
             replace HO_233001 := Aside0.mk (Kd.R_elder' (rU HO_233001.out) (Kd.R_base ho0) hb)
             replace HO_238001 := Aside0.mk (Kd.R_elder' (rU HO_238001.out) (Kd.R_base ho0) hb)
             replace HO_248001 := Aside0.mk (Kd.R_elder' (rU HO_248001.out) (Kd.R_base ho0) hb)
             replace BK216 := bB (bV BK216) hb
             replace BK217 := bB (bV BK217) hb
             replace BK232 := bB (bV BK232) hb
             replace BK237 := bB (bV BK237) hb
             replace BK247 := bB (bV BK247) hb
             replace BK273 := bB (bV BK273) hb
             replace HB := bH (lV6 GE216 GE217 GE232 GE237 GE247 GE273) hb
             (try clear hb)
             (try clear hb2)
             (try clear hk)
             (try clear hi)
             (try clear ho0)
             refine hK.out _ _ ⟨cz BK216 0 _, cz BK216 1 _, cz BK217 0 _, cz BK217 1 _, cz BK217 2 _, cz BK217 3 _⟩ (fun hHeld => ?_)
             clear hK K
             refine norm_ (a' := ?_) ?_ ?_
             rotate_left
             ·show Act.put _ (some 81) _ = _
              simp only [Act.put, List.setIfInBounds_toArray, List.set_cons_zero, List.set_cons_succ, i64_w, i32_w]
              rfl
             refine one_ (i := 3) (N := some 83) (bz 11 271) rfl rfl (one_of HT_.out (by kernel_rfl)) (by decide) (fun K hK => ?_)
             refine goes_ Try.func9 (by kernel_rfl) rfl #[.agg #[.int .i64 a1_0, .int .i64 a1_1, .int .i64 a1_2, .int .i64 a1_3]] (by rfl) rfl rfl aE ?_
             with_reducible refine (laws_toTimer.calls a1_0 a1_1 a1_2 a1_3 t264 t265 t266 t267 _ A125.out).mono ?_
             rintro e w139 ⟨rfl, hb⟩
             refine ⟨_, rfl, ?_⟩
             replace HO_233001 := Aside0.mk (Kd.R_below (rU HO_233001.out) hb)
             replace HO_238001 := Aside0.mk (Kd.R_below (rU HO_238001.out) hb)
             replace HO_248001 := Aside0.mk (Kd.R_below (rU HO_248001.out) hb)
             replace HO263 := Aside0.mk (Kd.R_below (rU HO263.out) hb)
             replace BK216 := bB (bV BK216) hb
             replace BK217 := bB (bV BK217) hb
             replace BK232 := bB (bV BK232) hb
             replace BK237 := bB (bV BK237) hb
             replace BK247 := bB (bV BK247) hb
             replace BK273 := bB (bV BK273) hb
             replace HB := bH (lV6 GE216 GE217 GE232 GE237 GE247 GE273) hb
             (try clear hb)
             (try clear hb2)
             (try clear hk)
             (try clear hi)
             obtain ⟨Ao140, co140, eo140⟩ := Kd.R_slice HO263.out
             (first | subst eo140 | (injection eo140 with f1_ f2_ f3_; have f4_ := f1_.symm; have f5_ := f3_.symm; clear f1_ f2_ f3_; subst f4_; subst f5_))
             refine hK.out _ _ ⟨cz BK216 0 _, cz BK216 1 _, cz BK217 0 _, cz BK217 1 _, cz BK217 2 _, cz BK217 3 _⟩ (fun hHeld => ?_)
             clear hK K
             refine norm_ (a' := ?_) ?_ ?_
             rotate_left
             ·show Act.put _ (some 83) _ = _
              simp only [Act.put, List.setIfInBounds_toArray, List.set_cons_zero, List.set_cons_succ, i64_w, i32_w]
              rfl
             refine one_ (i := 4) (N := some 84) (bz 11 287) rfl rfl (one_of HT_.out (by kernel_rfl)) (by decide) (fun K hK => ?_)
             refine goes_ Try.func10 (by kernel_rfl) rfl #[.agg #[.int .i64 t260, .slice Ao140 t261.length co140], .agg #[.int .i64 t264, .int .i64 t265, .int .i64 t266, .int .i64 t267]] (by rfl) rfl rfl aE ?_
             with_reducible refine (impl_AddTimer.calls kj76 t260 _ _ t261 t264 t265 t266 t267 t268 t269 t272 _ ?side1 ?side2 A126.out).mono ?_
             (case side1 => exact cU (Kd.R_reads' HO263.out).2.2)
             (case side2 => exact (Kd.R_reads' HO263.out).2.1)
             rintro e w141 ⟨v270, rfl, ho0, hb⟩
             refine ⟨_, rfl, ?_⟩
             have HO271 := Aside0.mk (Kd.R_lower (Kd.R_new' (Kd.R_new' (Kd.R_new' (Kd.R_new' ho0 (Kd.R_lt (rU HO_233001.out))) (Kd.R_lt (rU HO_238001.out))) (Kd.R_lt (rU HO_248001.out))) (Kd.R_lt (rU HO263.out))) (below_size (lV6 GE216 GE217 GE232 GE237 GE247 GE273)))
             replace HO_233001 := Aside0.mk (Kd.R_elder' (rU HO_233001.out) (Kd.R_base ho0) hb)
             replace HO_238001 := Aside0.mk (Kd.R_elder' (rU HO_238001.out) (Kd.R_base ho0) hb)
             replace HO_248001 := Aside0.mk (Kd.R_elder' (rU HO_248001.out) (Kd.R_base ho0) hb)
             replace HO263 := Aside0.mk (Kd.R_elder' (rU HO263.out) (Kd.R_base ho0) hb)
             replace BK216 := bB (bV BK216) hb
             replace BK217 := bB (bV BK217) hb
             replace BK232 := bB (bV BK232) hb
             replace BK237 := bB (bV BK237) hb
             replace BK247 := bB (bV BK247) hb
             replace BK273 := bB (bV BK273) hb
             replace HB := bH (lV6 GE216 GE217 GE232 GE237 GE247 GE273) hb
             (try clear hb)
             (try clear hb2)
             (try clear hk)
             (try clear hi)
             (try clear ho0)
             refine hK.out _ _ ⟨cz BK216 0 _, cz BK216 1 _, cz BK217 0 _, cz BK217 1 _, cz BK217 2 _, cz BK217 3 _⟩ (fun hHeld => ?_)
             clear hK K
             refine norm_ (a' := ?_) ?_ ?_
             rotate_left
             ·show Act.put _ (some 84) _ = _
              simp only [Act.put, List.setIfInBounds_toArray, List.set_cons_zero, List.set_cons_succ, i64_w, i32_w]
              rfl
             refine pureA 5 79 (bz 11 319) rfl rfl (any_of HT_.out (by kernel_rfl)) ?_
             refine pureA 6 85 (bz 11 383) rfl rfl (any_of HT_.out (by kernel_rfl)) ?_
             refine pureA 7 86 (bz 11 511) rfl rfl (any_of HT_.out (by kernel_rfl)) ?_
             exact norm_ (by simp only [putAll, Act.put, List.setIfInBounds_toArray, List.set_cons_zero, List.set_cons_succ]) (hCont (.slice Ao140 t261.length co140, v270, gb273) _ ⟨hHeld, (by (with_reducible repeat (first | apply Kd.R_alloc | apply Kd.R_drewN | apply Kd.R_drew)); exact Kd.R_mono HO263.out (fun _ hk => ⟨hk.2, ⟨hk.1.1.1.2, ⟨hk.1.1.2, hk.1.2⟩⟩⟩)), (by (with_reducible repeat (first | apply Kd.R_alloc | apply Kd.R_drewN | apply Kd.R_drew)); exact Kd.R_mono HO271.out (fun _ hk => ⟨hk.2, ⟨hk.1.1.1.2, ⟨hk.1.1.2, hk.1.2⟩⟩⟩)), (by (with_reducible repeat (first | apply Kd.R_alloc | apply Kd.R_drewN | apply Kd.R_drew)); exact Kd.R_mono HO_233001.out (fun _ hk => ⟨hk.1.2, ⟨hk.2, ⟨hk.1.1.1, hk.1.1.2⟩⟩⟩)), (by (with_reducible repeat (first | apply Kd.R_alloc | apply Kd.R_drewN | apply Kd.R_drew)); exact Kd.R_mono HO_238001.out (fun _ hk => ⟨hk.1.2, ⟨hk.2, ⟨hk.1.1.1, hk.1.1.2⟩⟩⟩)), (by (with_reducible repeat (first | apply Kd.R_alloc | apply Kd.R_drewN | apply Kd.R_drew)); exact Kd.R_mono HO_248001.out (fun _ hk => ⟨hk.1.2, ⟨hk.2, ⟨hk.1.1.1, hk.1.1.2⟩⟩⟩)), (bV BK216), (bV BK217), (bV BK232), (bV BK237), (bV BK247), (bV BK273), GW273.out, GE273.out, NB216_273.out, NB273_216.out, NB217_273.out, NB273_217.out, NB232_273.out, NB273_232.out, NB237_273.out, NB273_237.out, NB247_273.out, NB273_247.out, (lV6 GE216 GE217 GE232 GE237 GE247 GE273)⟩)
           rintro ⟨v262, v270, gb273⟩ w142 ⟨hS_, h0_, h1_, h2_, h3_, h4_, h5_, h6_, h7_, h8_, h9_, h10_, h11_, h12_, h13_, h14_, h15_, h16_, h17_, h18_, h19_, h20_, h21_, h22_, h23_⟩
           have HO263 : Aside0 (Kd.R k34 34 w142 w.heap.size (fun k_ => some k_ ≠ (v270 : Value).ownBlock ∧ some k_ ≠ (.slice Ao30 t228.length co30 : Value).ownBlock ∧ some k_ ≠ (.slice Ao40 t255.length co40 : Value).ownBlock ∧ some k_ ≠ (.slice Ao48 t243.length co48 : Value).ownBlock) v262 t261) := ⟨h0_⟩
           have HO271 : Aside0 (Kd.R k34 34 w142 w.heap.size (fun k_ => some k_ ≠ (v262 : Value).ownBlock ∧ some k_ ≠ (.slice Ao30 t228.length co30 : Value).ownBlock ∧ some k_ ≠ (.slice Ao40 t255.length co40 : Value).ownBlock ∧ some k_ ≠ (.slice Ao48 t243.length co48 : Value).ownBlock) v270 t269) := ⟨h1_⟩
           replace HO_233001 : Aside0 (Kd.R k34 34 w142 w.heap.size (fun k_ => some k_ ≠ (v262 : Value).ownBlock ∧ some k_ ≠ (v270 : Value).ownBlock ∧ some k_ ≠ (.slice Ao40 t255.length co40 : Value).ownBlock ∧ some k_ ≠ (.slice Ao48 t243.length co48 : Value).ownBlock) (.slice Ao30 t228.length co30) t228) := ⟨h2_⟩
           replace HO_238001 : Aside0 (Kd.R k34 34 w142 w.heap.size (fun k_ => some k_ ≠ (v262 : Value).ownBlock ∧ some k_ ≠ (v270 : Value).ownBlock ∧ some k_ ≠ (.slice Ao30 t228.length co30 : Value).ownBlock ∧ some k_ ≠ (.slice Ao48 t243.length co48 : Value).ownBlock) (.slice Ao40 t255.length co40) t255) := ⟨h3_⟩
           replace HO_248001 : Aside0 (Kd.R k34 34 w142 w.heap.size (fun k_ => some k_ ≠ (v262 : Value).ownBlock ∧ some k_ ≠ (v270 : Value).ownBlock ∧ some k_ ≠ (.slice Ao30 t228.length co30 : Value).ownBlock ∧ some k_ ≠ (.slice Ao40 t255.length co40 : Value).ownBlock) (.slice Ao48 t243.length co48) t258) := ⟨h4_⟩
           replace BK216 : Aside0 (w142.heap[gb216]? = some (.cells #[.int .i64 a0_0, .slice A0_1 l0_1.length c0_1] 24 (0, 0))) := ⟨h5_⟩
           replace BK217 : Aside0 (w142.heap[gb217]? = some (.cells #[.int .i64 a1_0, .int .i64 a1_1, .int .i64 a1_2, .int .i64 a1_3] 26 (0, 0))) := ⟨h6_⟩
           replace BK232 : Aside0 (w142.heap[gb232]? = some (.cells #[.int .i64 t227, .slice Ao30 t228.length co30] 30 (0, 0))) := ⟨h7_⟩
           replace BK237 : Aside0 (w142.heap[gb237]? = some (.cells #[.int .i64 t233, .slice Ao40 t255.length co40] 30 (0, 0))) := ⟨h8_⟩
           replace BK247 : Aside0 (w142.heap[gb247]? = some (.cells #[.int .i64 t242, .slice Ao48 t243.length co48] 30 (0, 0))) := ⟨h9_⟩
           have BK273 : Aside0 (w142.heap[gb273]? = some (.cells #[.int .i64 0, .slice none 0 0] 30 (0, 0))) := ⟨h10_⟩
           have GW273 : Aside0 (w.heap.size ≤ gb273) := ⟨h11_⟩
           have GE273 : Aside0 (w.heap.size ≤ gb273) := ⟨h12_⟩
           have NB216_273 : Aside0 (gb216 ≠ gb273) := ⟨h13_⟩
           have NB273_216 : Aside0 (gb273 ≠ gb216) := ⟨h14_⟩
           have NB217_273 : Aside0 (gb217 ≠ gb273) := ⟨h15_⟩
           have NB273_217 : Aside0 (gb273 ≠ gb217) := ⟨h16_⟩
           have NB232_273 : Aside0 (gb232 ≠ gb273) := ⟨h17_⟩
           have NB273_232 : Aside0 (gb273 ≠ gb232) := ⟨h18_⟩
           have NB237_273 : Aside0 (gb237 ≠ gb273) := ⟨h19_⟩
           have NB273_237 : Aside0 (gb273 ≠ gb237) := ⟨h20_⟩
           have NB247_273 : Aside0 (gb247 ≠ gb273) := ⟨h21_⟩
           have NB273_247 : Aside0 (gb273 ≠ gb247) := ⟨h22_⟩
           replace HB : Aside0 (Below w.heap.size w w142) := ⟨h23_⟩
           clear h0_ h1_ h2_ h3_ h4_ h5_ h6_ h7_ h8_ h9_ h10_ h11_ h12_ h13_ h14_ h15_ h16_ h17_ h18_ h19_ h20_ h21_ h22_ h23_
           have hHeld : w142.cell? ⟨gb216, 0, none⟩ = some (.int .i64 a0_0) ∧ w142.cell? ⟨gb216, 1, none⟩ = some (.slice A0_1 l0_1.length c0_1) ∧ w142.cell? ⟨gb217, 0, none⟩ = some (.int .i64 a1_0) ∧ w142.cell? ⟨gb217, 1, none⟩ = some (.int .i64 a1_1) ∧ w142.cell? ⟨gb217, 2, none⟩ = some (.int .i64 a1_2) ∧ w142.cell? ⟨gb217, 3, none⟩ = some (.int .i64 a1_3) := hS_
           obtain ⟨Ao144, co144, eo144⟩ := Kd.R_slice HO271.out
           (first | subst eo144 | (injection eo144 with f1_ f2_ f3_; have f4_ := f1_.symm; have f5_ := f3_.symm; clear f1_ f2_ f3_; subst f4_; subst f5_))
           refine norm_ (a' := ?_) ?_ ?_
           rotate_left
           ·simp only [putAll, Act.put, List.setIfInBounds_toArray, List.set_cons_zero, List.set_cons_succ]
            rfl
           refine one_ (i := 9) (N := none) (bz 11 1023) rfl rfl (one_of HT_.out (by kernel_rfl)) (by decide) (fun K hK => ?_)
           have hs143 : w142.cell? ⟨gb273, 0, none⟩ = some (.int .i64 0) := (blk_cell BK273.out 0).trans rfl
           have hfs143 := blk_frozen BK273.out 0
           have hns143_0 := NB216_273.out
           have hns143_1 := NB217_273.out
           have hns143_2 := NB232_273.out
           have hns143_3 := NB237_273.out
           have hns143_4 := NB247_273.out
           have hms143_0 := NB273_216.out
           have hms143_1 := NB273_217.out
           have hms143_2 := NB273_232.out
           have hms143_3 := NB273_237.out
           have hms143_4 := NB273_247.out
           have hs145 : w142.cell? ⟨gb273, 1, none⟩ = some (.slice none 0 0) := (blk_cell BK273.out 1).trans rfl
           have hfs145 := blk_frozen BK273.out 1
           have hns145_0 := NB216_273.out
           have hns145_1 := NB217_273.out
           have hns145_2 := NB232_273.out
           have hns145_3 := NB237_273.out
           have hns145_4 := NB247_273.out
           have hms145_0 := NB273_216.out
           have hms145_1 := NB273_217.out
           have hms145_2 := NB273_232.out
           have hms145_3 := NB273_237.out
           have hms145_4 := NB273_247.out
           refine skip_ (w1 := ?_) (by rfl) rfl ?_ ?_
           rotate_left
           ·go_simp
            rfl
           refine hK.out _ _ ⟨((cell_far (p := ⟨gb273, _, none⟩) NB216_273.out _).trans (((cell_far (p := ⟨gb273, _, none⟩) NB216_273.out _).trans (hHeld.1)))), ((cell_far (p := ⟨gb273, _, none⟩) NB216_273.out _).trans (((cell_far (p := ⟨gb273, _, none⟩) NB216_273.out _).trans (hHeld.2.1)))), ((cell_far (p := ⟨gb273, _, none⟩) NB217_273.out _).trans (((cell_far (p := ⟨gb273, _, none⟩) NB217_273.out _).trans (hHeld.2.2.1)))), ((cell_far (p := ⟨gb273, _, none⟩) NB217_273.out _).trans (((cell_far (p := ⟨gb273, _, none⟩) NB217_273.out _).trans (hHeld.2.2.2.1)))), ((cell_far (p := ⟨gb273, _, none⟩) NB217_273.out _).trans (((cell_far (p := ⟨gb273, _, none⟩) NB217_273.out _).trans (hHeld.2.2.2.2.1)))), ((cell_far (p := ⟨gb273, _, none⟩) NB217_273.out _).trans (((cell_far (p := ⟨gb273, _, none⟩) NB217_273.out _).trans (hHeld.2.2.2.2.2))))⟩ (fun hHeld => ?_)
           clear hK K
           refine pureA 10 15 (bz 11 2047) rfl rfl (any_of HT_.out (by kernel_rfl)) ?_
           refine done_ (done_of HT_.out (by kernel_rfl)) ?_
           go_upto_region 25 with (fail)
           go_cut [95] (fun v95 wc => ∃ (kq : Nat) (x95_126 : Bool), v95 = .bool x95_126 ∧ Aside0 (laws_FnExactAddTimer.j2 kq t257 x95_126 t242 t258 = some r) ∧ Aside0 (kq ≤ kj76) ∧ Aside0 (Kd.R k34 34 wc w.heap.size (fun k_ => some k_ ≠ ((.slice Ao40 t255.length co40) : Value).ownBlock ∧ some k_ ≠ ((.slice Ao48 t243.length co48) : Value).ownBlock ∧ some k_ ≠ ((.slice Ao144 t269.length co144) : Value).ownBlock) (.slice Ao30 t228.length co30) t228) ∧ Aside0 (Kd.R k34 34 wc w.heap.size (fun k_ => some k_ ≠ ((.slice Ao30 t228.length co30) : Value).ownBlock ∧ some k_ ≠ ((.slice Ao48 t243.length co48) : Value).ownBlock ∧ some k_ ≠ ((.slice Ao144 t269.length co144) : Value).ownBlock) (.slice Ao40 t255.length co40) t255) ∧ Aside0 (Kd.R k34 34 wc w.heap.size (fun k_ => some k_ ≠ ((.slice Ao30 t228.length co30) : Value).ownBlock ∧ some k_ ≠ ((.slice Ao40 t255.length co40) : Value).ownBlock ∧ some k_ ≠ ((.slice Ao144 t269.length co144) : Value).ownBlock) (.slice Ao48 t243.length co48) t258) ∧ Aside0 (Kd.R k34 34 wc w.heap.size (fun k_ => some k_ ≠ ((.slice Ao30 t228.length co30) : Value).ownBlock ∧ some k_ ≠ ((.slice Ao40 t255.length co40) : Value).ownBlock ∧ some k_ ≠ ((.slice Ao48 t243.length co48) : Value).ownBlock) (.slice Ao144 t269.length co144) t269) ∧ Aside0 (wc.heap[gb216]? = some (.cells #[.int .i64 a0_0, (.slice A0_1 l0_1.length c0_1)] 24 (0, 0))) ∧ Aside0 (wc.heap[gb217]? = some (.cells #[.int .i64 a1_0, .int .i64 a1_1, .int .i64 a1_2, .int .i64 a1_3] 26 (0, 0))) ∧ Aside0 (wc.heap[gb232]? = some (.cells #[.int .i64 t227, (.slice Ao30 t228.length co30)] 30 (0, 0))) ∧ Aside0 (wc.heap[gb237]? = some (.cells #[.int .i64 t233, (.slice Ao40 t255.length co40)] 30 (0, 0))) ∧ Aside0 (wc.heap[gb247]? = some (.cells #[.int .i64 t242, (.slice Ao48 t243.length co48)] 30 (0, 0))) ∧ Aside0 (wc.heap[gb273]? = some (.cells #[.int .i64 t268, (.slice Ao144 t269.length co144)] 30 (0, 0))) ∧ Aside0 (Below w.heap.size w wc))
           case first =>
            have H := HC127.out
            clear HC127
            replace H := Option.bind_eq_some_iff.mp H
            obtain ⟨t274, A1460, H⟩ := H
            replace H : (if t274 = true then (laws_FnExactAddTimer.j2 kj76 t257 (t272 != t231) t242 t258) else (laws_FnExactAddTimer.j2 kj76 t257 true t242 t258)) = some r := H
            have A146 := Aside0.mk A1460
            clear A1460
            by_cases c147 : t274 = true
            ·subst c147
             have H1 : (laws_FnExactAddTimer.j2 kj76 t257 (t272 != t231) t242 t258) = some r := by rw [if_pos rfl] at H; exact H
             clear H
             have H := H1
             clear H1
             have H' := Aside0.mk H
             clear H
             have hnb148 := NB273_216.out
             have hnc148 := NB216_273.out
             have hnb149 := NB273_217.out
             have hnc149 := NB217_273.out
             have hnb150 := NB273_232.out
             have hnc150 := NB232_273.out
             have hnb151 := NB273_237.out
             have hnc151 := NB237_273.out
             have hnb152 := NB273_247.out
             have hnc152 := NB247_273.out
             have hcz153_0 := cz BK273 0 (.int .i64 0)
             have hcz153_1 := cz BK273 1 (.slice none 0 0)
             have hfz153_0 := fz BK273 0
             have hfz153_1 := fz BK273 1
             have hnb154 := NB232_216.out
             have hnc154 := NB216_232.out
             have hnb155 := NB232_217.out
             have hnc155 := NB217_232.out
             have hnb156 := NB232_237.out
             have hnc156 := NB237_232.out
             have hnb157 := NB232_247.out
             have hnc157 := NB247_232.out
             have hcz158_0 := cz BK232 0 (.int .i64 t227)
             have hcz158_1 := cz BK232 1 (.slice Ao30 t228.length co30)
             have hfz158_0 := fz BK232 0
             have hfz158_1 := fz BK232 1
             go_wp2_with (first | ((with_reducible refine gate_callee (f := 11) rfl ?_); refine goesL_ (some 89) rfl rfl Try.func11 (by kernel_rfl) rfl #[.agg #[.int .i64 t268, .slice Ao144 t269.length co144], .agg #[.int .i64 t227, .slice Ao30 t228.length co30]] rfl aE ?_; (with_reducible refine (laws_eqClock.calls kj76 t268 _ _ t269 t227 _ _ t228 true _ ?side1 ?side2 ?side3 ?side4 A146.out).mono ?_); (case side1 => refine (Kd.R_reads' (e := 34) (base := w.heap.size) (ok := fun k_ => (some k_ ≠ (v262 : Value).ownBlock ∧ (some k_ ≠ (.slice Ao30 t228.length co30 : Value).ownBlock ∧ (some k_ ≠ (.slice Ao40 t255.length co40 : Value).ownBlock ∧ some k_ ≠ (.slice Ao48 t243.length co48 : Value).ownBlock)))) (n := t269.length) (c := co144) ?_).2.2; exact (rU (Kd.R_mono (Kd.R_far (p := ⟨gb273, 1, none⟩) (Kd.R_far (p := ⟨gb273, 0, none⟩) (Kd.R_types HO271.out BK273.out (by decide)) (fun _ hk => hk.2) (.int .i64 t268)) (fun _ hk => hk.2) (.slice Ao144 t269.length co144)) (fun _ h_ => h_.1)))); (case side2 => exact (Kd.R_reads' HO271.out).2.1); (case side3 => refine (Kd.R_reads' (e := 34) (base := w.heap.size) (ok := fun k_ => (some k_ ≠ (v262 : Value).ownBlock ∧ (some k_ ≠ (.slice Ao144 t269.length co144 : Value).ownBlock ∧ (some k_ ≠ (.slice Ao40 t255.length co40 : Value).ownBlock ∧ some k_ ≠ (.slice Ao48 t243.length co48 : Value).ownBlock)))) (n := t228.length) (c := co30) ?_).2.2; exact (rU (Kd.R_mono (Kd.R_far (p := ⟨gb273, 1, none⟩) (Kd.R_far (p := ⟨gb273, 0, none⟩) (Kd.R_types HO_233001.out BK273.out (by decide)) (fun _ hk => hk.2) (.int .i64 t268)) (fun _ hk => hk.2) (.slice Ao144 t269.length co144)) (fun _ h_ => h_.1)))); (case side4 => exact (Kd.R_reads' HO_233001.out).2.1); rintro e w159 ⟨rfl, hb⟩; refine ⟨_, rfl, ?_⟩; replace HO_233001 := Aside0.mk (Kd.R_below (rU (Kd.R_mono (Kd.R_far (p := ⟨gb273, 1, none⟩) (Kd.R_far (p := ⟨gb273, 0, none⟩) (Kd.R_types HO_233001.out BK273.out (by decide)) (fun _ hk => hk.2) (.int .i64 t268)) (fun _ hk => hk.2) (.slice Ao144 t269.length co144)) (fun _ h_ => h_.1))) hb); replace HO_238001 := Aside0.mk (Kd.R_below (rU (Kd.R_mono (Kd.R_far (p := ⟨gb273, 1, none⟩) (Kd.R_far (p := ⟨gb273, 0, none⟩) (Kd.R_types HO_238001.out BK273.out (by decide)) (fun _ hk => hk.2) (.int .i64 t268)) (fun _ hk => hk.2) (.slice Ao144 t269.length co144)) (fun _ h_ => h_.1))) hb); replace HO_248001 := Aside0.mk (Kd.R_below (rU (Kd.R_mono (Kd.R_far (p := ⟨gb273, 1, none⟩) (Kd.R_far (p := ⟨gb273, 0, none⟩) (Kd.R_types HO_248001.out BK273.out (by decide)) (fun _ hk => hk.2) (.int .i64 t268)) (fun _ hk => hk.2) (.slice Ao144 t269.length co144)) (fun _ h_ => h_.1))) hb); replace HO263 := Aside0.mk (Kd.R_below (rU (Kd.R_mono (Kd.R_far (p := ⟨gb273, 1, none⟩) (Kd.R_far (p := ⟨gb273, 0, none⟩) (Kd.R_types HO263.out BK273.out (by decide)) (fun _ hk => hk.2) (.int .i64 t268)) (fun _ hk => hk.2) (.slice Ao144 t269.length co144)) (fun _ h_ => h_.1))) hb); replace HO271 := Aside0.mk (Kd.R_below (rU (Kd.R_mono (Kd.R_far (p := ⟨gb273, 1, none⟩) (Kd.R_far (p := ⟨gb273, 0, none⟩) (Kd.R_types HO271.out BK273.out (by decide)) (fun _ hk => hk.2) (.int .i64 t268)) (fun _ hk => hk.2) (.slice Ao144 t269.length co144)) (fun _ h_ => h_.1))) hb); replace BK216 := bB (bG NB216_273 BK216) hb; replace BK217 := bB (bG NB217_273 BK217) hb; replace BK232 := bB (bG NB232_273 BK232) hb; replace BK237 := bB (bG NB237_273 BK237) hb; replace BK247 := bB (bG NB247_273 BK247) hb; replace BK273 := Aside0.mk (blk_below (g := gb273) (o := .cells #[.int .i64 t268, .slice Ao144 t269.length co144] 30 (0, 0)) (by refine bU ?_; refine blk_put (cs := #[.int .i64 t268, .slice none 0 0]) ?_ 1 _ rfl; refine bU ?_; refine blk_put (cs := #[.int .i64 0, .slice none 0 0]) ?_ 0 _ rfl; refine bU ?_; exact BK273.out) hb); replace HB := bH (lV6 GE216 GE217 GE232 GE237 GE247 GE273) hb; (try clear hb)))
             go_meet
             case rel => exact ⟨_, ((t272 != t231)), tE, H', ⟨by have := HJ15.out; have := HJ76.out; first | omega | exact Nat.le_refl _⟩, ⟨by (try simp only [hl238001_76]); (with_reducible repeat (first | apply Kd.R_alloc | apply Kd.R_drewN | apply Kd.R_drew)); exact Kd.R_mono HO_233001.out (fun _ hk => ⟨hk.2.2.1, ⟨hk.2.2.2, hk.2.1⟩⟩)⟩, ⟨by (try simp only [hl238001_76]); (with_reducible repeat (first | apply Kd.R_alloc | apply Kd.R_drewN | apply Kd.R_drew)); exact Kd.R_mono HO_238001.out (fun _ hk => ⟨hk.2.2.1, ⟨hk.2.2.2, hk.2.1⟩⟩)⟩, ⟨by (try simp only [hl238001_76]); (with_reducible repeat (first | apply Kd.R_alloc | apply Kd.R_drewN | apply Kd.R_drew)); exact Kd.R_mono HO_248001.out (fun _ hk => ⟨hk.2.2.1, ⟨hk.2.2.2, hk.2.1⟩⟩)⟩, ⟨by (try simp only [hl238001_76]); (with_reducible repeat (first | apply Kd.R_alloc | apply Kd.R_drewN | apply Kd.R_drew)); exact Kd.R_mono HO271.out (fun _ hk => ⟨hk.2.1, ⟨hk.2.2.1, hk.2.2.2⟩⟩)⟩, ⟨by (try simp only [hl238001_76]); refine bU ?_; exact BK216.out⟩, ⟨by (try simp only [hl238001_76]); refine bU ?_; exact BK217.out⟩, ⟨by (try simp only [hl238001_76]); refine bU ?_; exact BK232.out⟩, ⟨by (try simp only [hl238001_76]); refine bU ?_; exact BK237.out⟩, ⟨by (try simp only [hl238001_76]); refine bU ?_; exact BK247.out⟩, ⟨by (try simp only [hl238001_76]); refine bU ?_; exact BK273.out⟩, ⟨by repeat (first | (with_reducible first | exact HB.out | apply below_alloc | apply pw_below_drewN | apply below_drew1 | refine below_set ?_ GE216.out | refine below_set ?_ GE217.out | refine below_set ?_ GE232.out | refine below_set ?_ GE237.out | refine below_set ?_ GE247.out | refine below_set ?_ GE273.out) | exact HB.out)⟩⟩
            ·replace c147 := Bool.eq_false_iff.mpr c147
             subst c147
             have H1 : (laws_FnExactAddTimer.j2 kj76 t257 true t242 t258) = some r := by rw [if_neg (show ¬ (false = true) by decide)] at H; exact H
             clear H
             have H := H1
             clear H1
             have H' := Aside0.mk H
             clear H
             have hnb160 := NB273_216.out
             have hnc160 := NB216_273.out
             have hnb161 := NB273_217.out
             have hnc161 := NB217_273.out
             have hnb162 := NB273_232.out
             have hnc162 := NB232_273.out
             have hnb163 := NB273_237.out
             have hnc163 := NB237_273.out
             have hnb164 := NB273_247.out
             have hnc164 := NB247_273.out
             have hcz165_0 := cz BK273 0 (.int .i64 0)
             have hcz165_1 := cz BK273 1 (.slice none 0 0)
             have hfz165_0 := fz BK273 0
             have hfz165_1 := fz BK273 1
             have hnb166 := NB232_216.out
             have hnc166 := NB216_232.out
             have hnb167 := NB232_217.out
             have hnc167 := NB217_232.out
             have hnb168 := NB232_237.out
             have hnc168 := NB237_232.out
             have hnb169 := NB232_247.out
             have hnc169 := NB247_232.out
             have hcz170_0 := cz BK232 0 (.int .i64 t227)
             have hcz170_1 := cz BK232 1 (.slice Ao30 t228.length co30)
             have hfz170_0 := fz BK232 0
             have hfz170_1 := fz BK232 1
             go_wp2_with (first | ((with_reducible refine gate_callee (f := 11) rfl ?_); refine goesL_ (some 89) rfl rfl Try.func11 (by kernel_rfl) rfl #[.agg #[.int .i64 t268, .slice Ao144 t269.length co144], .agg #[.int .i64 t227, .slice Ao30 t228.length co30]] rfl aE ?_; (with_reducible refine (laws_eqClock.calls kj76 t268 _ _ t269 t227 _ _ t228 false _ ?side1 ?side2 ?side3 ?side4 A146.out).mono ?_); (case side1 => refine (Kd.R_reads' (e := 34) (base := w.heap.size) (ok := fun k_ => (some k_ ≠ (v262 : Value).ownBlock ∧ (some k_ ≠ (.slice Ao30 t228.length co30 : Value).ownBlock ∧ (some k_ ≠ (.slice Ao40 t255.length co40 : Value).ownBlock ∧ some k_ ≠ (.slice Ao48 t243.length co48 : Value).ownBlock)))) (n := t269.length) (c := co144) ?_).2.2; exact (rU (Kd.R_mono (Kd.R_far (p := ⟨gb273, 1, none⟩) (Kd.R_far (p := ⟨gb273, 0, none⟩) (Kd.R_types HO271.out BK273.out (by decide)) (fun _ hk => hk.2) (.int .i64 t268)) (fun _ hk => hk.2) (.slice Ao144 t269.length co144)) (fun _ h_ => h_.1)))); (case side2 => exact (Kd.R_reads' HO271.out).2.1); (case side3 => refine (Kd.R_reads' (e := 34) (base := w.heap.size) (ok := fun k_ => (some k_ ≠ (v262 : Value).ownBlock ∧ (some k_ ≠ (.slice Ao144 t269.length co144 : Value).ownBlock ∧ (some k_ ≠ (.slice Ao40 t255.length co40 : Value).ownBlock ∧ some k_ ≠ (.slice Ao48 t243.length co48 : Value).ownBlock)))) (n := t228.length) (c := co30) ?_).2.2; exact (rU (Kd.R_mono (Kd.R_far (p := ⟨gb273, 1, none⟩) (Kd.R_far (p := ⟨gb273, 0, none⟩) (Kd.R_types HO_233001.out BK273.out (by decide)) (fun _ hk => hk.2) (.int .i64 t268)) (fun _ hk => hk.2) (.slice Ao144 t269.length co144)) (fun _ h_ => h_.1)))); (case side4 => exact (Kd.R_reads' HO_233001.out).2.1); rintro e w171 ⟨rfl, hb⟩; refine ⟨_, rfl, ?_⟩; replace HO_233001 := Aside0.mk (Kd.R_below (rU (Kd.R_mono (Kd.R_far (p := ⟨gb273, 1, none⟩) (Kd.R_far (p := ⟨gb273, 0, none⟩) (Kd.R_types HO_233001.out BK273.out (by decide)) (fun _ hk => hk.2) (.int .i64 t268)) (fun _ hk => hk.2) (.slice Ao144 t269.length co144)) (fun _ h_ => h_.1))) hb); replace HO_238001 := Aside0.mk (Kd.R_below (rU (Kd.R_mono (Kd.R_far (p := ⟨gb273, 1, none⟩) (Kd.R_far (p := ⟨gb273, 0, none⟩) (Kd.R_types HO_238001.out BK273.out (by decide)) (fun _ hk => hk.2) (.int .i64 t268)) (fun _ hk => hk.2) (.slice Ao144 t269.length co144)) (fun _ h_ => h_.1))) hb); replace HO_248001 := Aside0.mk (Kd.R_below (rU (Kd.R_mono (Kd.R_far (p := ⟨gb273, 1, none⟩) (Kd.R_far (p := ⟨gb273, 0, none⟩) (Kd.R_types HO_248001.out BK273.out (by decide)) (fun _ hk => hk.2) (.int .i64 t268)) (fun _ hk => hk.2) (.slice Ao144 t269.length co144)) (fun _ h_ => h_.1))) hb); replace HO263 := Aside0.mk (Kd.R_below (rU (Kd.R_mono (Kd.R_far (p := ⟨gb273, 1, none⟩) (Kd.R_far (p := ⟨gb273, 0, none⟩) (Kd.R_types HO263.out BK273.out (by decide)) (fun _ hk => hk.2) (.int .i64 t268)) (fun _ hk => hk.2) (.slice Ao144 t269.length co144)) (fun _ h_ => h_.1))) hb); replace HO271 := Aside0.mk (Kd.R_below (rU (Kd.R_mono (Kd.R_far (p := ⟨gb273, 1, none⟩) (Kd.R_far (p := ⟨gb273, 0, none⟩) (Kd.R_types HO271.out BK273.out (by decide)) (fun _ hk => hk.2) (.int .i64 t268)) (fun _ hk => hk.2) (.slice Ao144 t269.length co144)) (fun _ h_ => h_.1))) hb); replace BK216 := bB (bG NB216_273 BK216) hb; replace BK217 := bB (bG NB217_273 BK217) hb; replace BK232 := bB (bG NB232_273 BK232) hb; replace BK237 := bB (bG NB237_273 BK237) hb; replace BK247 := bB (bG NB247_273 BK247) hb; replace BK273 := Aside0.mk (blk_below (g := gb273) (o := .cells #[.int .i64 t268, .slice Ao144 t269.length co144] 30 (0, 0)) (by refine bU ?_; refine blk_put (cs := #[.int .i64 t268, .slice none 0 0]) ?_ 1 _ rfl; refine bU ?_; refine blk_put (cs := #[.int .i64 0, .slice none 0 0]) ?_ 0 _ rfl; refine bU ?_; exact BK273.out) hb); replace HB := bH (lV6 GE216 GE217 GE232 GE237 GE247 GE273) hb; (try clear hb)))
             go_meet
             case rel => exact ⟨_, (true), tE, H', ⟨by have := HJ15.out; have := HJ76.out; first | omega | exact Nat.le_refl _⟩, ⟨by (try simp only [hl238001_76]); (with_reducible repeat (first | apply Kd.R_alloc | apply Kd.R_drewN | apply Kd.R_drew)); exact Kd.R_mono HO_233001.out (fun _ hk => ⟨hk.2.2.1, ⟨hk.2.2.2, hk.2.1⟩⟩)⟩, ⟨by (try simp only [hl238001_76]); (with_reducible repeat (first | apply Kd.R_alloc | apply Kd.R_drewN | apply Kd.R_drew)); exact Kd.R_mono HO_238001.out (fun _ hk => ⟨hk.2.2.1, ⟨hk.2.2.2, hk.2.1⟩⟩)⟩, ⟨by (try simp only [hl238001_76]); (with_reducible repeat (first | apply Kd.R_alloc | apply Kd.R_drewN | apply Kd.R_drew)); exact Kd.R_mono HO_248001.out (fun _ hk => ⟨hk.2.2.1, ⟨hk.2.2.2, hk.2.1⟩⟩)⟩, ⟨by (try simp only [hl238001_76]); (with_reducible repeat (first | apply Kd.R_alloc | apply Kd.R_drewN | apply Kd.R_drew)); exact Kd.R_mono HO271.out (fun _ hk => ⟨hk.2.1, ⟨hk.2.2.1, hk.2.2.2⟩⟩)⟩, ⟨by (try simp only [hl238001_76]); refine bU ?_; exact BK216.out⟩, ⟨by (try simp only [hl238001_76]); refine bU ?_; exact BK217.out⟩, ⟨by (try simp only [hl238001_76]); refine bU ?_; exact BK232.out⟩, ⟨by (try simp only [hl238001_76]); refine bU ?_; exact BK237.out⟩, ⟨by (try simp only [hl238001_76]); refine bU ?_; exact BK247.out⟩, ⟨by (try simp only [hl238001_76]); refine bU ?_; exact BK273.out⟩, ⟨by repeat (first | (with_reducible first | exact HB.out | apply below_alloc | apply pw_below_drewN | apply below_drew1 | refine below_set ?_ GE216.out | refine below_set ?_ GE217.out | refine below_set ?_ GE232.out | refine below_set ?_ GE237.out | refine below_set ?_ GE247.out | refine below_set ?_ GE273.out) | exact HB.out)⟩⟩
           case rest =>
            clear HC127
            try clear c1
            try clear p2
            try clear c8
            try clear c9
            try clear c10
            try clear c11
            try clear c14
            try clear c15
            try clear c16
            try clear c147
            try clear c148
            try clear c149
            try clear c150
            try clear c151
            try clear c152
            try clear c154
            try clear c155
            try clear c156
            try clear c157
            try clear c160
            try clear c161
            try clear c162
            try clear c163
            try clear c164
            try clear c166
            try clear c167
            try clear c168
            try clear c169
            try clear hcz153_0
            try clear hcz153_1
            try clear hcz158_0
            try clear hcz158_1
            try clear hcz165_0
            try clear hcz165_1
            try clear hcz170_0
            try clear hcz170_1
            try clear hfz153_0
            try clear hfz153_1
            try clear hfz158_0
            try clear hfz158_1
            try clear hfz165_0
            try clear hfz165_1
            try clear hfz170_0
            try clear hfz170_1
            obtain ⟨kq, x95_126, rfl, HA, HJ126, HO_233001, HO_238001, HO_248001, HO_274001, BK216, BK217, BK232, BK237, BK247, BK273, HB⟩ := hcut
            have hl248001_126 := (Kd.R_reads' HO_248001.out).1
            rw [hl248001_126] at HO_248001
            (try simp only [hl248001_126])
            (try simp only [hl248001_126] at BK216)
            (try simp only [hl248001_126] at BK217)
            (try simp only [hl248001_126] at BK232)
            (try simp only [hl248001_126] at BK237)
            (try simp only [hl248001_126] at BK247)
            (try simp only [hl248001_126] at BK273)
            (try simp only [hl248001_126] at HO_233001)
            (try simp only [hl248001_126] at HO_238001)
            (try simp only [hl248001_126] at HO_274001)
            cases kq with
            | zero => exact absurd HA.out (by simp [laws_FnExactAddTimer.j2])
            | succ kj126 =>
             have H := HA.out
             clear HA
             simp only [laws_FnExactAddTimer.j2] at H
             by_cases c172 : x95_126 = true
             ·subst c172
              have H1 : (some false) = some r := by rw [if_pos rfl] at H; exact H
              clear H
              have H := H1
              clear H1
              obtain rfl := Option.some.inj H
              go_wp2
              go_ret
              exact ⟨eE, lV6 GE216 GE217 GE232 GE237 GE247 GE273⟩
             ·replace c172 := Bool.eq_false_iff.mpr c172
              subst c172
              have H1 : ((laws_heldClock.f kj126 t242 t258 1).bind fun t275 => (if t275 < 0 then (some false) else (if t275 = t257 then (some true) else (some false)))) = some r := by rw [if_neg (show ¬ (false = true) by decide)] at H; exact H
              clear H
              have H := H1
              clear H1
              replace H := Option.bind_eq_some_iff.mp H
              obtain ⟨t275, A1730, H⟩ := H
              replace H : (if t275 < 0 then (some false) else (if t275 = t257 then (some true) else (some false))) = some r := H
              have A173 := Aside0.mk A1730
              clear A1730
              by_cases c174 : t275 < 0
              ·rw [if_pos c174] at H
               have c174b0 : decide (t275 < 0) = true := decide_eq_true c174
               clear c174
               obtain rfl := Option.some.inj H
               have hnb175 := NB247_216.out
               have hnc175 := NB216_247.out
               have hnb176 := NB247_217.out
               have hnc176 := NB217_247.out
               have hnb177 := NB247_232.out
               have hnc177 := NB232_247.out
               have hnb178 := NB247_237.out
               have hnc178 := NB237_247.out
               have hnb179 := NB247_273.out
               have hnc179 := NB273_247.out
               have hcz180_0 := cz BK247 0 (.int .i64 t242)
               have hcz180_1 := cz BK247 1 (.slice Ao48 t258.length co48)
               have hfz180_0 := fz BK247 0
               have hfz180_1 := fz BK247 1
               go_wp2_with (first | ((with_reducible refine gate_callee (f := 13) rfl ?_); refine goesL_ (some 98) rfl rfl Try.func13 (by kernel_rfl) rfl #[.agg #[.int .i64 t242, .slice Ao48 t258.length co48], .int .i64 1] rfl aE ?_; (with_reducible refine (laws_heldClock.calls kj126 t242 _ _ t258 1 t275 _ ?side1 ?side2 A173.out).mono ?_); (case side1 => exact cU (Kd.R_reads' HO_248001.out).2.2); (case side2 => exact (Kd.R_reads' HO_248001.out).2.1); rintro e w181 ⟨rfl, hb⟩; refine ⟨_, rfl, ?_⟩; replace HO_233001 := Aside0.mk (Kd.R_below (rU HO_233001.out) hb); replace HO_238001 := Aside0.mk (Kd.R_below (rU HO_238001.out) hb); replace HO_248001 := Aside0.mk (Kd.R_below (rU HO_248001.out) hb); replace HO_274001 := Aside0.mk (Kd.R_below (rU HO_274001.out) hb); replace BK216 := bB (bV BK216) hb; replace BK217 := bB (bV BK217) hb; replace BK232 := bB (bV BK232) hb; replace BK237 := bB (bV BK237) hb; replace BK247 := bB (bV BK247) hb; replace BK273 := bB (bV BK273) hb; replace HB := bH (lV6 GE216 GE217 GE232 GE237 GE247 GE273) hb; (try clear hb)))
               go_ret
               exact ⟨eE, lV6 GE216 GE217 GE232 GE237 GE247 GE273⟩
              ·rw [if_neg c174] at H
               have c174b0 : decide (t275 < 0) = false := decide_eq_false c174
               clear c174
               by_cases c182 : t275 = t257
               ·rw [if_pos c182] at H
                have c182b0 : (t275 == t257) = true := beq_iff_eq.mpr c182
                have c182b1 : (t275 != t257) = false := bne_eq_false_iff_eq.mpr c182
                clear c182
                obtain rfl := Option.some.inj H
                have hnb183 := NB247_216.out
                have hnc183 := NB216_247.out
                have hnb184 := NB247_217.out
                have hnc184 := NB217_247.out
                have hnb185 := NB247_232.out
                have hnc185 := NB232_247.out
                have hnb186 := NB247_237.out
                have hnc186 := NB237_247.out
                have hnb187 := NB247_273.out
                have hnc187 := NB273_247.out
                have hcz188_0 := cz BK247 0 (.int .i64 t242)
                have hcz188_1 := cz BK247 1 (.slice Ao48 t258.length co48)
                have hfz188_0 := fz BK247 0
                have hfz188_1 := fz BK247 1
                go_wp2_with (first | ((with_reducible refine gate_callee (f := 13) rfl ?_); refine goesL_ (some 98) rfl rfl Try.func13 (by kernel_rfl) rfl #[.agg #[.int .i64 t242, .slice Ao48 t258.length co48], .int .i64 1] rfl aE ?_; (with_reducible refine (laws_heldClock.calls kj126 t242 _ _ t258 1 t275 _ ?side1 ?side2 A173.out).mono ?_); (case side1 => exact cU (Kd.R_reads' HO_248001.out).2.2); (case side2 => exact (Kd.R_reads' HO_248001.out).2.1); rintro e w189 ⟨rfl, hb⟩; refine ⟨_, rfl, ?_⟩; replace HO_233001 := Aside0.mk (Kd.R_below (rU HO_233001.out) hb); replace HO_238001 := Aside0.mk (Kd.R_below (rU HO_238001.out) hb); replace HO_248001 := Aside0.mk (Kd.R_below (rU HO_248001.out) hb); replace HO_274001 := Aside0.mk (Kd.R_below (rU HO_274001.out) hb); replace BK216 := bB (bV BK216) hb; replace BK217 := bB (bV BK217) hb; replace BK232 := bB (bV BK232) hb; replace BK237 := bB (bV BK237) hb; replace BK247 := bB (bV BK247) hb; replace BK273 := bB (bV BK273) hb; replace HB := bH (lV6 GE216 GE217 GE232 GE237 GE247 GE273) hb; (try clear hb)))
                go_ret
                exact ⟨eE, lV6 GE216 GE217 GE232 GE237 GE247 GE273⟩
               ·rw [if_neg c182] at H
                have c182b0 : (t275 == t257) = false := beq_eq_false_iff_ne.mpr c182
                have c182b1 : (t275 != t257) = true := bne_iff_ne.mpr c182
                obtain rfl := Option.some.inj H
                have hnb190 := NB247_216.out
                have hnc190 := NB216_247.out
                have hnb191 := NB247_217.out
                have hnc191 := NB217_247.out
                have hnb192 := NB247_232.out
                have hnc192 := NB232_247.out
                have hnb193 := NB247_237.out
                have hnc193 := NB237_247.out
                have hnb194 := NB247_273.out
                have hnc194 := NB273_247.out
                have hcz195_0 := cz BK247 0 (.int .i64 t242)
                have hcz195_1 := cz BK247 1 (.slice Ao48 t258.length co48)
                have hfz195_0 := fz BK247 0
                have hfz195_1 := fz BK247 1
                go_wp2_with (first | ((with_reducible refine gate_callee (f := 13) rfl ?_); refine goesL_ (some 98) rfl rfl Try.func13 (by kernel_rfl) rfl #[.agg #[.int .i64 t242, .slice Ao48 t258.length co48], .int .i64 1] rfl aE ?_; (with_reducible refine (laws_heldClock.calls kj126 t242 _ _ t258 1 t275 _ ?side1 ?side2 A173.out).mono ?_); (case side1 => exact cU (Kd.R_reads' HO_248001.out).2.2); (case side2 => exact (Kd.R_reads' HO_248001.out).2.1); rintro e w196 ⟨rfl, hb⟩; refine ⟨_, rfl, ?_⟩; replace HO_233001 := Aside0.mk (Kd.R_below (rU HO_233001.out) hb); replace HO_238001 := Aside0.mk (Kd.R_below (rU HO_238001.out) hb); replace HO_248001 := Aside0.mk (Kd.R_below (rU HO_248001.out) hb); replace HO_274001 := Aside0.mk (Kd.R_below (rU HO_274001.out) hb); replace BK216 := bB (bV BK216) hb; replace BK217 := bB (bV BK217) hb; replace BK232 := bB (bV BK232) hb; replace BK237 := bB (bV BK237) hb; replace BK247 := bB (bV BK247) hb; replace BK273 := bB (bV BK273) hb; replace HB := bH (lV6 GE216 GE217 GE232 GE237 GE247 GE273) hb; (try clear hb)))
                go_ret
                exact ⟨eE, lV6 GE216 GE217 GE232 GE237 GE247 GE273⟩
          ·rw [if_neg c123] at H
           have c123b0 : (t259 == t257) = false := beq_eq_false_iff_ne.mpr c123
           have c123b1 : (t259 != t257) = true := bne_iff_ne.mpr c123
           obtain rfl := Option.some.inj H
           have hnb197 := NB247_216.out
           have hnc197 := NB216_247.out
           have hnb198 := NB247_217.out
           have hnc198 := NB217_247.out
           have hnb199 := NB247_232.out
           have hnc199 := NB232_247.out
           have hnb200 := NB247_237.out
           have hnc200 := NB237_247.out
           have hcz201_0 := cz BK247 0 (.int .i64 t242)
           have hcz201_1 := cz BK247 1 (.slice Ao48 t243.length co48)
           have hfz201_0 := fz BK247 0
           have hfz201_1 := fz BK247 1
           go_wp2_with (first | ((with_reducible refine gate_callee (f := 12) rfl ?_); refine goesL_ (some 70) rfl rfl Try.func12 (by kernel_rfl) rfl #[.agg #[.int .i64 t242, .slice Ao48 t243.length co48], .int .i64 1] rfl aE ?_; (with_reducible refine (laws_markClock.calls kj76 t242 (fun k_ => some k_ = (.slice Ao48 t243.length co48 : Value).ownBlock) (.slice Ao48 t243.length co48) t243 1 t257 t258 w _ ?side1 ?side2 A112.out).mono ?_); (case side1 => repeat (first | (with_reducible first | exact HB.out | apply below_alloc | apply pw_below_drewN | apply below_drew1 | refine below_set ?_ GE216.out | refine below_set ?_ GE217.out | refine below_set ?_ GE232.out | refine below_set ?_ GE237.out | refine below_set ?_ GE247.out) | exact HB.out)); (case side2 => exact Kd.R_tight rfl HO_248001.out); rintro e w202 ⟨rfl, hy0, hb, hkp⟩; refine ⟨_, rfl, ?_⟩; replace HO_233001 := Aside0.mk (Kd.R_mono (ok' := fun k_ => some k_ ≠ (.slice Ao40 t255.length co40 : Value).ownBlock ∧ some k_ ≠ (.slice Ao48 t243.length co48 : Value).ownBlock) (Kd.R_keptB (HO_233001.out) hkp (fun k_ hk_ hs_ => (hk_.2) hs_)) (fun k_ hk_ => ⟨hk_.1.1, hk_.1.2⟩)); replace HO_238001 := Aside0.mk (Kd.R_mono (ok' := fun k_ => some k_ ≠ (.slice Ao30 t228.length co30 : Value).ownBlock ∧ some k_ ≠ (.slice Ao48 t243.length co48 : Value).ownBlock) (Kd.R_keptB (HO_238001.out) hkp (fun k_ hk_ hs_ => (hk_.2) hs_)) (fun k_ hk_ => ⟨hk_.1.1, hk_.1.2⟩)); replace BK216 := Aside0.mk (blk_kept (bV BK216) hkp (fun hs_ => (fun e_ => (Kd.R_ne HO_248001.out BK216.out (by decide)) e_) hs_)); replace BK217 := Aside0.mk (blk_kept (bV BK217) hkp (fun hs_ => (fun e_ => (Kd.R_ne HO_248001.out BK217.out (by decide)) e_) hs_)); replace BK232 := Aside0.mk (blk_kept (bV BK232) hkp (fun hs_ => (fun e_ => (Kd.R_ne HO_248001.out BK232.out (by decide)) e_) hs_)); replace BK237 := Aside0.mk (blk_kept (bV BK237) hkp (fun hs_ => (fun e_ => (Kd.R_ne HO_248001.out BK237.out (by decide)) e_) hs_)); replace BK247 := Aside0.mk (blk_kept (bV BK247) hkp (fun hs_ => (fun e_ => (Kd.R_ne HO_248001.out BK247.out (by decide)) e_) hs_)); replace HO_248001 := Aside0.mk (Kd.R_reok rfl hy0 (fun k_ e_ => HO_248001.out.1 k_ e_)); replace HB := Aside0.mk hb; (try clear hb); (try clear hkp); (try clear hg_); (try clear hp_); (try clear hy0); have hcz203_0 := cz BK247 0 (.int .i64 t242); have hcz203_1 := cz BK247 1 (.slice Ao48 t243.length co48); have hfz203_0 := fz BK247 0; have hfz203_1 := fz BK247 1) | ((with_reducible refine gate_callee (f := 13) rfl ?_); refine goesL_ (some 73) rfl rfl Try.func13 (by kernel_rfl) rfl #[.agg #[.int .i64 t242, .slice Ao48 t258.length co48], .int .i64 1] rfl (by (try simp only [List.map_toArray, List.map_cons, List.map_nil]); first | done | (rw [show t258.length = t243.length from (Kd.R_reads' HO_248001.out).1.symm] <;> rfl) | rfl | (simp only [List.length_drop, List.length_take]; rfl)) ?_; (with_reducible refine (laws_heldClock.calls kj76 t242 _ _ t258 1 t259 _ ?side1 ?side2 A113.out).mono ?_); (case side1 => exact cU (Kd.R_reads' HO_248001.out).2.2); (case side2 => rw [show t258.length = t243.length from (Kd.R_reads' HO_248001.out).1.symm]; exact (Kd.R_reads' HO_248001.out).2.1); rintro e w204 ⟨rfl, hb⟩; refine ⟨_, rfl, ?_⟩; replace HO_233001 := Aside0.mk (Kd.R_below (rU HO_233001.out) hb); replace HO_238001 := Aside0.mk (Kd.R_below (rU HO_238001.out) hb); replace HO_248001 := Aside0.mk (Kd.R_below (rU HO_248001.out) hb); replace BK216 := bB (bV BK216) hb; replace BK217 := bB (bV BK217) hb; replace BK232 := bB (bV BK232) hb; replace BK237 := bB (bV BK237) hb; replace BK247 := bB (bV BK247) hb; replace HB := bH (lV5 GE216 GE217 GE232 GE237 GE247) hb; (try clear hb)))
           go_ret
           exact ⟨eE, lV5 GE216 GE217 GE232 GE237 GE247⟩
     ·replace c75 := Bool.eq_false_iff.mpr c75
      subst c75
      have H1 : (some false) = some r := by rw [if_neg (show ¬ (false = true) by decide)] at H; exact H
      clear H
      have H := H1
      clear H1
      obtain rfl := Option.some.inj H
      try go_wp2
      replace HO_233001 := Aside0.mk (Kd.R_drew HO_233001.out)
      replace HO_238001 := Aside0.mk (Kd.R_drew HO_238001.out)
      replace HO_248001 := Aside0.mk (Kd.R_drew HO_248001.out)
      replace BK216 := Aside0.mk (blk_drew BK216.out)
      replace BK217 := Aside0.mk (blk_drew BK217.out)
      replace BK232 := Aside0.mk (blk_drew BK232.out)
      replace BK237 := Aside0.mk (blk_drew BK237.out)
      replace BK247 := Aside0.mk (blk_drew BK247.out)
      replace HB := Aside0.mk (below_drew1 HB.out)
      refine start_ (n := 5) (S := fun w' => w'.cell? ⟨gb237, 0, none⟩ = some (.int .i64 t233) ∧ w'.cell? ⟨gb237, 1, none⟩ = some (.slice Ao40 t234.length co40) ∧ w'.cell? ⟨gb216, 0, none⟩ = some (.int .i64 a0_0) ∧ w'.cell? ⟨gb216, 1, none⟩ = some (.slice A0_1 l0_1.length c0_1)) (ds := []) #[false, false, false, false, false] (by kernel_rfl) rfl rfl ⟨cz BK237 0 _, cz BK237 1 _, cz BK216 0 _, cz BK216 1 _⟩ (fun hHeld => ?_)
      generalize wc.drew = w205 at HO_233001 HO_238001 HO_248001 BK216 BK217 BK232 BK237 BK247 HB hHeld ⊢
      refine take_ (i := 0) (N := some 47) (v := ?_) (a' := ?_) (bz 5 1) rfl rfl (by kernel_rfl) (fun _ _ _ h => h) (Or.inl ⟨by rfl, ?_⟩) hHeld ?_ ?_
      rotate_left
      ·rintro w' ⟨s0, s1, s2, s3⟩
       go_simp
       with_reducible rfl
      rotate_left
      ·simp only [Act.put, List.setIfInBounds_toArray, List.set_cons_zero, List.set_cons_succ, i64_w, i32_w]
       rfl
      refine take_ (i := 1) (N := some 48) (v := ?_) (a' := ?_) (bz 5 3) rfl rfl (by kernel_rfl) (fun _ _ _ h => h) (Or.inl ⟨by rfl, ?_⟩) hHeld ?_ ?_
      rotate_left
      ·rintro w' ⟨s0, s1, s2, s3⟩
       go_simp
       with_reducible rfl
      rotate_left
      ·simp only [Act.put, List.setIfInBounds_toArray, List.set_cons_zero, List.set_cons_succ, i64_w, i32_w]
       rfl
      refine one_ (i := 2) (N := some 49) (bz 5 7) rfl rfl (by kernel_rfl) (by decide) (fun K hK => ?_)
      refine goes_ Try.func8 (by kernel_rfl) rfl #[.agg #[.int .i64 a0_0, .slice A0_1 l0_1.length c0_1]] (by rfl) rfl rfl aE ?_
      with_reducible refine (laws_toClock.calls kj15 a0_0 _ _ l0_1 t249 t250 _ ?side1 ?side2 A73.out).mono ?_
      (case side1 => exact cU (Kd.C_below HR0_1.out HB.out))
      (case side2 => exact HC0_1.out)
      rintro e w206 ⟨v251, rfl, ho0, hb⟩
      refine ⟨_, rfl, ?_⟩
      have HO252 := Aside0.mk (Kd.R_lower (Kd.R_new' (Kd.R_new' (Kd.R_new' ho0 (Kd.R_lt (rU HO_233001.out))) (Kd.R_lt (rU HO_238001.out))) (Kd.R_lt (rU HO_248001.out))) (below_size (lV5 GE216 GE217 GE232 GE237 GE247)))
      replace HO_233001 := Aside0.mk (Kd.R_elder' (rU HO_233001.out) (Kd.R_base ho0) hb)
      replace HO_238001 := Aside0.mk (Kd.R_elder' (rU HO_238001.out) (Kd.R_base ho0) hb)
      replace HO_248001 := Aside0.mk (Kd.R_elder' (rU HO_248001.out) (Kd.R_base ho0) hb)
      replace BK216 := bB (bV BK216) hb
      replace BK217 := bB (bV BK217) hb
      replace BK232 := bB (bV BK232) hb
      replace BK237 := bB (bV BK237) hb
      replace BK247 := bB (bV BK247) hb
      replace HB := bH (lV5 GE216 GE217 GE232 GE237 GE247) hb
      (try clear hb)
      (try clear hb2)
      (try clear hk)
      (try clear hi)
      (try clear ho0)
      obtain ⟨Ao207, co207, eo207⟩ := Kd.R_slice HO252.out
      (first | subst eo207 | (injection eo207 with f1_ f2_ f3_; have f4_ := f1_.symm; have f5_ := f3_.symm; clear f1_ f2_ f3_; subst f4_; subst f5_))
      refine hK.out _ _ ⟨cz BK237 0 _, cz BK237 1 _, cz BK216 0 _, cz BK216 1 _⟩ (fun hHeld => ?_)
      clear hK K
      refine norm_ (a' := ?_) ?_ ?_
      rotate_left
      ·show Act.put _ (some 49) _ = _
       simp only [Act.put, List.setIfInBounds_toArray, List.set_cons_zero, List.set_cons_succ, i64_w, i32_w]
       rfl
      refine one_ (i := 3) (N := some 50) (bz 5 15) rfl rfl (by kernel_rfl) (by decide) (fun K hK => ?_)
      refine goes_ Try.func11 (by kernel_rfl) rfl #[.agg #[.int .i64 t233, .slice Ao40 t234.length co40], .agg #[.int .i64 t249, .slice Ao207 t250.length co207]] (by rfl) rfl rfl aE ?_
      with_reducible refine (laws_eqClock.calls kj15 t233 _ _ t234 t249 _ _ t250 false _ ?side1 ?side2 ?side3 ?side4 A74.out).mono ?_
      (case side1 => exact cU (Kd.R_reads' HO_238001.out).2.2)
      (case side2 => exact (Kd.R_reads' HO_238001.out).2.1)
      (case side3 => exact cU (Kd.R_reads' HO252.out).2.2)
      (case side4 => exact (Kd.R_reads' HO252.out).2.1)
      rintro e w208 ⟨rfl, hb⟩
      refine ⟨_, rfl, ?_⟩
      replace HO_233001 := Aside0.mk (Kd.R_below (rU HO_233001.out) hb)
      replace HO_238001 := Aside0.mk (Kd.R_below (rU HO_238001.out) hb)
      replace HO_248001 := Aside0.mk (Kd.R_below (rU HO_248001.out) hb)
      replace HO252 := Aside0.mk (Kd.R_below (rU HO252.out) hb)
      replace BK216 := bB (bV BK216) hb
      replace BK217 := bB (bV BK217) hb
      replace BK232 := bB (bV BK232) hb
      replace BK237 := bB (bV BK237) hb
      replace BK247 := bB (bV BK247) hb
      replace HB := bH (lV5 GE216 GE217 GE232 GE237 GE247) hb
      (try clear hb)
      (try clear hb2)
      (try clear hk)
      (try clear hi)
      refine hK.out _ _ ⟨cz BK237 0 _, cz BK237 1 _, cz BK216 0 _, cz BK216 1 _⟩ (fun hHeld => ?_)
      clear hK K
      refine norm_ (a' := ?_) ?_ ?_
      rotate_left
      ·show Act.put _ (some 50) _ = _
       simp only [Act.put, List.setIfInBounds_toArray, List.set_cons_zero, List.set_cons_succ, i64_w, i32_w]
       rfl
      refine pure_ (i := 4) (N := some 51) (v := ?_) (a' := ?_) (bz 5 31) rfl rfl (by kernel_rfl) (fun _ _ _ h => h) (Or.inl ⟨by rfl, ?_⟩) ?_ ?_
      rotate_left
      ·intro w'
       go_simp
       with_reducible rfl
      rotate_left
      ·simp only [Act.put, List.setIfInBounds_toArray, List.set_cons_zero, List.set_cons_succ, i64_w, i32_w]
       rfl
      refine done_ (by kernel_rfl) ?_
      try go_wp2
      go_ret
      exact ⟨eE, lV5 GE216 GE217 GE232 GE237 GE247⟩
end Go.Proofs.Ytjmcahjcgfflgaa.PFnExactAddTimer
namespace Go.Proofs.YtjmcahjcgfflgaaO
open Go.ChangeShapes Go.WideShapes Go.Proofs.YtjmcahjcgfflgaaW.PrintWords Go.RowKit
def In64 (n : Int) : Prop := -9223372036854775808 ≤ n ∧ n ≤ 9223372036854775807
def Opens {α : Type} (P : Program) (t : TypeId) (d : Kd α) (g : α → Prop) : Prop :=
  ∀ {H : Type} (enc : TypeId × Value → H) (w : World) (fuel : Nat) (cs : List Value) (y : DataW H) (ps : List MemPlace),
    DataW.trod enc P w 0 (fun _ => true) true fuel t cs = some (y, ps) → (∀ n ∈ y.weights P t, n ≤ reachBytes) → ∃ x, d.K w x cs ∧ g x
theorem Opens.imp {α : Type} {P : Program} {t : TypeId} {d : Kd α} {g g' : α → Prop} (h : Opens P t d g) (k : ∀ x, g x → g' x) : Opens P t d g' := by
  intro H enc w fuel cs y ps ht hw
  obtain ⟨x, hx, hg⟩ := h enc w fuel cs y ps ht hw
  exact ⟨x, hx, k x hg⟩
theorem opens_int {P : Program} {t : TypeId} {k : IntKind} (ht : P.underlying t = some (.int k)) : Opens P t (Kd.int k) (fun n => (Lit.int k n).wf = true) := by
  intro H enc w fuel cs y ps h _
  obtain ⟨n, rfl, _, hw⟩ := DataW.trod_int ht h
  exact ⟨n, rfl, hw⟩
theorem wf_i64 {n : Int} (h : (Lit.int .i64 n).wf = true) : In64 n := bounds_i64 h
theorem opens_i64 {P : Program} {t : TypeId} (ht : P.underlying t = some (.int .i64)) : Opens P t (Kd.int .i64) In64 := Opens.imp (opens_int ht) fun _ h => wf_i64 h
theorem exists_list {α : Type} (p : Nat → α → Prop) : ∀ n : Nat, (∀ i, i < n → ∃ x, p i x) → ∃ xs : List α, xs.length = n ∧ ∀ i x, xs[i]? = some x → p i x
  | 0, _ => ⟨[], rfl, fun i x h => by simp at h⟩
  | n + 1, h => by
    obtain ⟨xs, hl, hx⟩ := exists_list p n (fun i hi => h i (by omega))
    obtain ⟨x, hp⟩ := h n (by omega)
    refine ⟨xs ++ [x], by simp [hl], fun i y hy => ?_⟩
    rcases Nat.lt_or_ge i xs.length with hi | hi
    · rw [List.getElem?_append_left hi] at hy
      exact hx i y hy
    · have : i = n := by
        have := (List.getElem?_eq_some_iff.1 hy).1
        rw [List.length_append, List.length_singleton] at this
        omega
      subst this
      rw [List.getElem?_append_right hi] at hy
      rw [hl] at hy
      simp at hy
      subst hy
      exact hp
theorem add_add (ad : Addr) (i j : Nat) : (ad.add i).add j = ad.add (i + j) := by
  unfold Addr.add
  by_cases h1 : i = 0 <;> by_cases h2 : j = 0 <;> simp [h1, h2, Nat.add_assoc]
theorem weightsAll_mem {H : Type} {P : Program} {e : TypeId} : ∀ {l : List (DataW H)} {d : DataW H}, d ∈ l → ∀ n ∈ d.weights P e, n ∈ DataW.weightsAll P e l
  | [], d, h, _, _ => by simp at h
  | x :: r, d, h, n, hn => by
    simp only [DataW.weightsAll, List.mem_append]
    rcases List.mem_cons.1 h with rfl | h
    · exact .inl hn
    · exact .inr (weightsAll_mem h n hn)
theorem opens_slice {α : Type} {P : Program} {t e : TypeId} {d : Kd α} {g : α → Prop} {B : Nat} (ht : P.underlying t = some (.slice e)) (hs : P.cellsOf e = d.sz) (hB : P.bytesOf e = B) (h : Opens P e d g) :
    Opens P t (Kd.slice e d) (fun xs => xs.length * B ≤ 140737488351232 ∧ ∀ x ∈ xs, g x) := by
  intro H enc w fuel cs y ps hy hw
  rcases DataW.trod_slice ht hy with ⟨rfl, _⟩ | ⟨a, len, cap, elems, rest, n, rfl, rfl, hx, _, hlc, hcm, hel, hget, _, _⟩
  · exact ⟨[], ⟨none, 0, rfl, Nat.le_refl _, Kd.C_nil d w⟩, by simp⟩
  · obtain ⟨rfl, _⟩ := Prod.mk.inj hx
    simp only [DataW.weights, ht] at hw
    have hlen : len * B ≤ 140737488351232 := by
      have := hw _ List.mem_cons_self
      simp only [List.length_map, hB] at this
      have h2 : len * B ≤ (elems.length + rest.length) * B := Nat.mul_le_mul_right _ (by omega)
      exact Nat.le_trans h2 this
    have key : ∀ i, i < len → ∃ x, (∃ c, c.length = d.sz ∧ d.K w x c ∧ ∀ j u, c[j]? = some u → w.cell? (a.add (i * d.sz + j)) = some u) ∧ g x := by
      intro i hi
      have hg := hget i hi
      rw [List.getElem?_eq_getElem (by omega), Option.bind_eq_some_iff] at hg
      obtain ⟨c, hc, hd⟩ := hg
      obtain ⟨_, hcl, hcell⟩ := World.cells?_some hc
      obtain ⟨x, hK, hgx⟩ := h enc w n c _ _ hd (fun m hm => hw m (List.mem_cons_of_mem _ (List.mem_append_left _ (weightsAll_mem (List.mem_map_of_mem (List.getElem_mem _)) m hm))))
      refine ⟨x, ⟨c, hcl.trans hs, hK, fun j u hj => ?_⟩, hgx⟩
      have hjl : j < P.cellsOf e := by
        have := (List.getElem?_eq_some_iff.1 hj).1
        omega
      have := hcell j hjl
      rw [add_add, hj, hs] at this
      exact this
    obtain ⟨xs, hxl, hxs⟩ := exists_list _ len key
    refine ⟨xs, ⟨some a, cap, by rw [hxl], by omega, hxl ▸ ⟨hxl, by simp only [maxLen] at hcm; omega, fun _ => ⟨a, rfl, fun j p hp => (hxs j p hp).1⟩⟩⟩, by rw [hxl]; exact hlen, fun x hx => ?_⟩
    obtain ⟨i, hi, rfl⟩ := List.getElem_of_mem hx
    exact (hxs i _ (List.getElem?_eq_getElem hi)).2
theorem opens_iso {α β : Type} {P : Program} {t : TypeId} {d : Kd α} {g : α → Prop} (f : β → α) (inv : α → β) (hi : ∀ x, f (inv x) = x) (h : Opens P t d g) : Opens P t (Kd.iso d f) (fun x => g (f x)) := by
  intro H enc w fuel cs y ps hy hw
  obtain ⟨x, hK, hg⟩ := h enc w fuel cs y ps hy hw
  refine ⟨inv x, ?_, ?_⟩
  · show d.K w (f (inv x)) cs
    rw [hi]; exact hK
  · show g (f (inv x))
    rw [hi]; exact hg
def OpensL {α : Type} (P : Program) (fs : List Field) (off : Nat) (d : Kd α) (g : α → Prop) : Prop :=
  ∀ {H : Type} (enc : TypeId × Value → H) (w : World) (n : Nat) (cs : List Value) (ys : List (DataW H × List MemPlace)), ys.length = fs.length →
    (∀ (i : Nat) (f : Field), fs[i]? = some f → DataW.trod enc P w 0 (fun _ => true) true n f.type ((cs.drop f.offset).take (P.cellsOf f.type)) = ys[i]?) →
    (∀ m ∈ DataW.weightsEach P (fs.map (·.type)) (ys.map (·.1)), m ≤ reachBytes) → ∃ x, d.K w x ((cs.drop off).take d.sz) ∧ g x
theorem opensL_one {α : Type} {P : Program} {f : Field} {off : Nat} {d : Kd α} {g : α → Prop} (ho : f.offset = off) (hs : P.cellsOf f.type = d.sz) (h : Opens P f.type d g) : OpensL P [f] off d g := by
  intro H enc w n cs ys hl hf hw
  match ys, hl with
  | [y], _ =>
    have h0 := hf 0 f rfl
    rw [ho, hs] at h0
    exact h enc w n _ y.1 y.2 h0 (fun m hm => hw m (by simp only [List.map_cons, DataW.weightsEach, List.mem_append]; exact .inl hm))
theorem opensL_cons {α β : Type} {P : Program} {f : Field} {fs : List Field} {off : Nat} {a : Kd α} {b : Kd β} {ga : α → Prop} {gb : β → Prop} (ho : f.offset = off) (hs : P.cellsOf f.type = a.sz) (h : Opens P f.type a ga) (hr : OpensL P fs (off + a.sz) b gb) :
    OpensL P (f :: fs) off (Kd.pair a b) (fun x => ga x.1 ∧ gb x.2) := by
  intro H enc w n cs ys hl hf hw
  match ys, hl with
  | y :: ys, hl =>
    have h0 := hf 0 f rfl
    rw [ho, hs] at h0
    obtain ⟨x, hx, hgx⟩ := h enc w n _ y.1 y.2 h0 (fun m hm => hw m (by simp only [List.map_cons, DataW.weightsEach, List.mem_append]; exact .inl hm))
    obtain ⟨x', hx', hgx'⟩ := hr enc w n cs ys (by simpa using hl) (fun i f' hf' => by have := hf (i + 1) f' (by simpa using hf'); simpa using this) (fun m hm => hw m (by simp only [List.map_cons, DataW.weightsEach, List.mem_append]; exact .inr hm))
    refine ⟨(x, x'), ⟨_, _, ?_, hx, hx'⟩, hgx, hgx'⟩
    show (cs.drop off).take (a.sz + b.sz) = _
    rw [List.take_add, List.drop_drop]
theorem opens_struct {α : Type} {P : Program} {t : TypeId} {fs : Array Field} {d : Kd α} {g : α → Prop} (ht : P.underlying t = some (.struct fs)) (hs : P.cellsOf t = d.sz) (h : OpensL P fs.toList 0 d g) : Opens P t d g := by
  intro H enc w fuel cs y ps hy hw
  obtain ⟨xs, n, rfl, hx, hl, hxl, hget⟩ := DataW.trod_struct ht hy
  obtain ⟨rfl, _⟩ := Prod.mk.inj hx
  simp only [DataW.weights, ht] at hw
  obtain ⟨x, hK, hg⟩ := h enc w n cs xs (by simpa using hxl) (fun i f hf => hget i f (by simpa using hf)) (by simpa using hw)
  rw [List.drop_zero, List.take_of_length_le (by omega)] at hK
  exact ⟨x, hK, hg⟩
theorem weights_of {H : Type} {P : Program} {ts : List TypeId} {ds : List (DataW H)} {j : Nat} {t : TypeId} {d : DataW H} (hsz : (DataW.weightsEach P ts ds).all (· ≤ reachBytes) = true) (ht : ts[j]? = some t) (hd : ds[j]? = some d) : ∀ n ∈ d.weights P t, n ≤ reachBytes := by
  intro n hn
  have := List.all_eq_true.1 hsz n (DataW.weights_mem_each ht hd n hn)
  simpa using this
theorem open_agg {α H : Type} {enc : TypeId × Value → H} {P : Program} {W : World} {t : TypeId} {d : Kd α} {g : α → Prop} {cs : Array Value} {y : DataW H} {ps : List MemPlace} (h : Opens P t d g)
    (hy : DataW.Trod enc P W 0 (fun _ => true) true t (.agg cs) y ps) (hw : ∀ n ∈ y.weights P t, n ≤ reachBytes) : ∃ x : α, d.K W x cs.toList ∧ g x := by
  obtain ⟨fuel, hf⟩ := hy
  exact h enc W fuel _ y ps (by simpa [Value.cells] using hf) hw
end Go.Proofs.YtjmcahjcgfflgaaO
namespace Go.Proofs.Ytjmcahjcgfflgaa.OFnExactAddTimer
open Go.RowKit Go.Proofs.Ytjmcahjcgfflgaa.PFnExactAddTimer Go.Proofs.YtjmcahjcgfflgaaW.PrintWords Go.Proofs.YtjmcahjcgfflgaaO
def Ok26 (x : S26) : Prop := (In64 x.f0) ∧ (In64 x.f1) ∧ (In64 x.f2) ∧ (In64 x.f3)
theorem opens26 : Opens Try.prog 26 k26 Ok26 :=
  Opens.imp (opens_iso _ (fun x => (⟨x.1, x.2.1, x.2.2.1, x.2.2.2⟩ : S26)) (fun _ => rfl) (opens_struct Try.underlying26 (by kernel_rfl) (opensL_cons rfl (by kernel_rfl) (opens_i64 Try.underlying3) (opensL_cons rfl (by kernel_rfl) (opens_i64 Try.underlying3) (opensL_cons rfl (by kernel_rfl) (opens_i64 Try.underlying3) (opensL_one rfl (by kernel_rfl) (opens_i64 Try.underlying3))))))) fun x h => by
    obtain ⟨h0, h1, h2, h3⟩ := h
    exact ⟨h0, h1, h2, h3⟩
end Go.Proofs.Ytjmcahjcgfflgaa.OFnExactAddTimer
namespace Go.Proofs.YtjmcahjcgfflgaaO
open Go.RowKit Go.Proofs.YtjmcahjcgfflgaaW.PrintWords Go.Proofs.YtjmcahjcgfflgaaW.PrintLast Go.Proofs.YtjmcahjcgfflgaaW.PrintMore
theorem w64 {n : Int} (h : -9223372036854775808 ≤ n) (k : n ≤ 9223372036854775807) : wrap64 n = n := by unfold wrap64; omega
theorem w64s (i : Nat) (h : i < 4611686018427387904) : wrap64 ((i : Int) + 1) = ((i + 1 : Nat) : Int) := by unfold wrap64; omega
theorem ev_eq {α : Type} {x : Option α} {r : α} (h : x = some r) : Ev (fun _ => x) r := ⟨0, fun _ _ => h⟩
theorem ev_some {α : Type} {x r : α} (h : x = r) : Ev (fun _ => some x) r := ⟨0, fun _ _ => by rw [h]⟩
theorem ev_pos {α : Type} {c : Prop} [Decidable c] {f g : Nat → Option α} {r : α} (h : c) (k : Ev f r) : Ev (fun n => if c then f n else g n) r := by
  obtain ⟨K, hK⟩ := k
  exact ⟨K, fun n hn => (if_pos h).trans (hK n hn)⟩
theorem ev_neg {α : Type} {c : Prop} [Decidable c] {f g : Nat → Option α} {r : α} (h : ¬ c) (k : Ev g r) : Ev (fun n => if c then f n else g n) r := by
  obtain ⟨K, hK⟩ := k
  exact ⟨K, fun n hn => (if_neg h).trans (hK n hn)⟩
theorem ev_ite {α : Type} {c : Prop} [Decidable c] {f g : Nat → Option α} {r : α} (h : c → Ev f r) (k : ¬ c → Ev g r) : Ev (fun n => if c then f n else g n) r := by
  by_cases hc : c
  · exact ev_pos hc (h hc)
  · exact ev_neg hc (k hc)
theorem ev_bindc {α β : Type} {x : Option α} {f : Nat → α → Option β} {a : α} {r : β} (h : x = some a) (k : Ev (fun n => f n a) r) : Ev (fun n => x.bind (f n)) r := by
  subst h; exact k
theorem ev_for {σ ρ : Type} (n : Nat) (L : Nat → Nat → σ → Option ρ) (I : Nat → σ → Prop) (Q : ρ → Prop)
    (hend : ∀ s, I n s → ∃ r, Ev (fun k => L k n s) r ∧ Q r)
    (hstep : ∀ i s, i < n → I i s → (∃ r, Ev (fun k => L k i s) r ∧ Q r) ∨ ∃ s', I (i + 1) s' ∧ ∀ r, Ev (fun k => L k (i + 1) s') r → Ev (fun k => L k i s) r) :
    ∀ i s, i ≤ n → I i s → ∃ r, Ev (fun k => L k i s) r ∧ Q r := by
  have key : ∀ d i s, i + d = n → I i s → ∃ r, Ev (fun k => L k i s) r ∧ Q r := by
    intro d
    induction d with
    | zero => intro i s hi h; obtain rfl : i = n := by omega
              exact hend s h
    | succ d ih =>
      intro i s hi h
      rcases hstep i s (by omega) h with h' | ⟨s', hI, hr⟩
      · exact h'
      · obtain ⟨r, hr', hQ⟩ := ih (i + 1) s' (by omega) hI
        exact ⟨r, hr r hr', hQ⟩
  intro i s hi h
  exact key (n - i) i s (by omega) h
theorem ev_for1 {σ ρ : Type} (n : Nat) (L : Nat → Nat → σ → Option ρ) (I : Nat → σ → Prop) (a : ρ)
    (hend : ∀ s, I n s → Ev (fun k => L k n s) a)
    (hstep : ∀ i s, i < n → I i s → Ev (fun k => L k i s) a ∨ ∃ s', I (i + 1) s' ∧ ∀ r, Ev (fun k => L k (i + 1) s') r → Ev (fun k => L k i s) r) :
    ∀ i s, i ≤ n → I i s → Ev (fun k => L k i s) a := by
  intro i s hi h
  obtain ⟨r, hr, rfl⟩ := ev_for n L I (fun r => r = a) (fun s hs => ⟨a, hend s hs, rfl⟩) (fun i s hi hs => (hstep i s hi hs).imp (fun h => ⟨a, h, rfl⟩) id) i s hi h
  exact hr
theorem getD_get {α : Type} {d : α} {xs : List α} {i : Nat} (h : i < xs.length) : xs.getD (i : Int).toNat d = xs[i] := by simp [List.getD_eq_getElem?_getD, h]
theorem ev_alike {α β : Type} (L : Nat → List α → List β → Int → Option Bool) (e : Nat → List α → List β → Int → Option Bool) (g : α → β → Bool)
    (hL : ∀ k xs ys i, L (k + 1) xs ys i = if i < (xs.length : Int) then (if 0 ≤ i then (if i < (ys.length : Int) then ((e k xs ys i).bind fun v => if v = true then L k xs ys (wrap64 (i + 1)) else some false) else none) else none) else some true)
    (xs : List α) (ys : List β) (hx : xs.length < 4611686018427387904) (hy : ys.length = xs.length) (he : ∀ i : Nat, ∀ (h : i < xs.length) (h' : i < ys.length), Ev (fun k => e k xs ys (i : Int)) (g xs[i] ys[i]))
    (b : Bool) (hb : b = true ↔ ∀ i : Nat, ∀ (h : i < xs.length) (h' : i < ys.length), g xs[i] ys[i] = true) :
    Ev (fun k => L k xs ys 0) b := by
  refine ev_for1 xs.length (fun k i (_ : Unit) => L k xs ys (i : Int)) (fun i _ => ∀ j, j < i → ∀ (h : j < xs.length) (h' : j < ys.length), g xs[j] ys[j] = true) b ?_ ?_ 0 () (Nat.zero_le _) (fun j hj => by omega)
  · intro _ h
    refine Ev.step (fun k => hL k xs ys _) (ev_neg (by omega) (ev_some ?_))
    exact (hb.2 fun i hi hi' => h i hi hi hi').symm
  · intro i _ hi h
    have hi' : i < ys.length := by omega
    by_cases hg : g xs[i] ys[i] = true
    · refine .inr ⟨(), fun j hj h1 h2 => ?_, fun r hr => ?_⟩
      · rcases Nat.lt_or_ge j i with hji | hji
        · exact h j hji h1 h2
        · obtain rfl : j = i := by omega
          exact hg
      · refine Ev.step (fun k => hL k xs ys _) (ev_pos (by omega) (ev_pos (by omega) (ev_pos (by omega) (Ev.bind (he i hi hi') (ev_pos hg ?_)))))
        rw [w64s i (by omega)]
        exact hr
    · refine .inl (Ev.step (fun k => hL k xs ys _) (ev_pos (by omega) (ev_pos (by omega) (ev_pos (by omega) (Ev.bind (he i hi hi') (ev_neg hg (ev_some ?_)))))))
      cases b with
      | false => rfl
      | true => exact absurd (hb.1 rfl i hi hi') hg
theorem ev_alike_self {α : Type} (L : Nat → List α → List α → Int → Option Bool) (e : Nat → List α → List α → Int → Option Bool)
    (hL : ∀ k xs ys i, L (k + 1) xs ys i = if i < (xs.length : Int) then (if 0 ≤ i then (if i < (ys.length : Int) then ((e k xs ys i).bind fun v => if v = true then L k xs ys (wrap64 (i + 1)) else some false) else none) else none) else some true)
    (xs : List α) (hx : xs.length < 4611686018427387904) (he : ∀ i : Nat, ∀ (_ : i < xs.length), Ev (fun k => e k xs xs (i : Int)) true) :
    Ev (fun k => L k xs xs 0) true :=
  ev_alike L e (fun _ _ => true) hL xs xs hx rfl (fun i h _ => he i h) true ⟨fun _ _ _ _ => rfl, fun _ => rfl⟩
theorem bool_of (P : Prop) : ∃ b : Bool, b = true ↔ P := ⟨@decide P (Classical.propDecidable P), by simp⟩
theorem bool_false {P : Prop} {b : Bool} (h : b = true ↔ P) (k : ¬ P) : b = false := by
  cases b with
  | false => rfl
  | true => exact absurd (h.1 rfl) k
theorem ev_all (n : Nat) (L : Nat → Nat → Option Bool) (ok : Nat → Prop) (e b : Bool) (hb : b = true ↔ e = true ∧ ∀ i, i < n → ok i) (hend : Ev (fun k => L k n) e)
    (hyes : ∀ i, i < n → (∀ j, j < i → ok j) → ok i → ∀ r, Ev (fun k => L k (i + 1)) r → Ev (fun k => L k i) r) (hno : ∀ i, i < n → (∀ j, j < i → ok j) → ¬ ok i → Ev (fun k => L k i) false) : Ev (fun k => L k 0) b := by
  refine ev_for1 n (fun k i (_ : Unit) => L k i) (fun i _ => ∀ j, j < i → ok j) b ?_ ?_ 0 () (Nat.zero_le _) (fun j hj => by omega)
  · intro _ h
    have : b = e := by
      cases e with
      | false => exact bool_false hb (fun h => by simp at h)
      | true => exact hb.2 ⟨rfl, h⟩
    rw [this]
    exact hend
  · intro i _ hi h
    by_cases ho : ok i
    · refine .inr ⟨(), fun j hj => ?_, hyes i hi h ho⟩
      rcases Nat.lt_or_ge j i with h1 | h1
      · exact h j h1
      · obtain rfl : j = i := by omega
        exact ho
    · have : b = false := bool_false hb (fun h => ho (h.2 i hi))
      rw [this]
      exact .inl (hno i hi h ho)
theorem wrap_u64 {n : Int} (h0 : 0 ≤ n) (h1 : n ≤ 18446744073709551615) : IntKind.u64.wrap n = n := by
  have e : IntKind.u64.wrap n = n % 18446744073709551616 := by simp only [IntKind.wrap, IntKind.bits, IntKind.signed]; rfl
  rw [e]; omega
def Chain {α : Type} (E : α → Int → Int → Prop) : List α → Int → Int → Prop
  | [], c, d => c = d
  | x :: r, c, d => ∃ m, E x c m ∧ Chain E r m d
theorem Chain.snoc {α : Type} {E : α → Int → Int → Prop} : ∀ {l : List α} {c m d : Int} {x : α}, Chain E l c m → E x m d → Chain E (l ++ [x]) c d
  | [], _, _, _, _, h, k => by cases h; exact ⟨_, k, rfl⟩
  | _ :: _, _, _, _, _, ⟨q, h1, h2⟩, k => ⟨q, h1, Chain.snoc h2 k⟩
theorem Chain.le {α : Type} {E : α → Int → Int → Prop} (hm : ∀ x c d, E x c d → c ≤ d) : ∀ {l : List α} {c d : Int}, Chain E l c d → c ≤ d
  | [], _, _, h => Int.le_of_eq h
  | _ :: _, _, _, ⟨_, h1, h2⟩ => Int.le_trans (hm _ _ _ h1) (Chain.le hm h2)
theorem ev_mark {α : Type} (L : Nat → List α → Int → Nat → Option (Int × List α)) (E : α → Int → Int → Prop) (G : α → Prop) (W : Int) (hW : 0 ≤ W) (hW' : W ≤ 1099511627776)
    (hend : ∀ zs c, Ev (fun k => L k zs c zs.length) (c, zs))
    (hstep : ∀ zs c i, ∀ hi : i < zs.length, i < 1048576 → G zs[i] → 0 ≤ c → c ≤ 2305843009213693952 → ∃ x' c', E x' c c' ∧ c ≤ c' ∧ c' ≤ c + W ∧ ∀ r, Ev (fun k => L k (zs.set i x') c' (i + 1)) r → Ev (fun k => L k zs c i) r)
    (xs : List α) (hG : ∀ x ∈ xs, G x) (hl : xs.length ≤ 1048576) (c : Int) (hc0 : 0 ≤ c) (hc1 : c ≤ 1152921504606846976) :
    ∃ ys d, Chain E ys c d ∧ c ≤ d ∧ d ≤ c + W * xs.length ∧ ys.length = xs.length ∧ Ev (fun k => L k xs c 0) (d, ys) := by
  have key : ∀ n i : Nat, ∀ zs : List α, ∀ m : Int, i + n = xs.length → zs.length = xs.length → zs.drop i = xs.drop i → Chain E (zs.take i) c m → c ≤ m → m ≤ c + W * i →
      ∃ ys d, Chain E ys c d ∧ c ≤ d ∧ d ≤ c + W * xs.length ∧ ys.length = xs.length ∧ Ev (fun k => L k zs m i) (d, ys) := by
    intro n
    induction n with
    | zero =>
      intro i zs m hi hz hd hch h1 h2
      obtain rfl : i = zs.length := by omega
      rw [List.take_length] at hch
      rw [← hz]
      exact ⟨zs, m, hch, h1, h2, rfl, hend zs m⟩
    | succ n ih =>
      intro i zs m hi hz hd hch h1 h2
      have hlt : i < zs.length := by omega
      have hx : i < xs.length := by omega
      have hget : zs[i] = xs[i] := by
        have e1 := List.drop_eq_getElem_cons hlt
        have e2 := List.drop_eq_getElem_cons hx
        rw [hd, e2] at e1
        exact (List.cons.inj e1).1.symm
      have hWi : W * (i : Int) ≤ 1099511627776 * 1048576 := Int.mul_le_mul hW' (by omega) (by omega) (by omega)
      obtain ⟨x', c', hE, hc, hcW, hr⟩ := hstep zs m i hlt (by omega) (by rw [hget]; exact hG _ (List.getElem_mem hx)) (by omega) (by omega)
      obtain ⟨ys, d, g1, g2, g3, g4, g5⟩ := ih (i + 1) (zs.set i x') c' (by omega) (by simpa using hz) (by
          rw [List.drop_set_of_lt (by omega)]
          have e1 := List.drop_eq_getElem_cons hlt
          have e2 := List.drop_eq_getElem_cons hx
          rw [hd, e2] at e1
          exact (List.cons.inj e1).2.symm) (by
          rw [List.take_succ_eq_append_getElem (by simpa using hlt), List.take_set_of_le (Nat.le_refl i), List.getElem_set_self]
          exact Chain.snoc hch hE) (by omega) (by
          have : W * ((i + 1 : Nat) : Int) = W * i + W := by rw [Int.natCast_add, Int.mul_add]; simp
          omega)
      exact ⟨ys, d, g1, g2, g3, g4, hr _ g5⟩
  have := key xs.length 0 xs c (by omega) rfl rfl (by simp [Chain]) (Int.le_refl _) (by simp)
  exact this
theorem ev_held {α : Type} (H : Nat → List α → Int → Nat → Option Int) (E : α → Int → Int → Prop) (hm : ∀ x c d, E x c d → c ≤ d)
    (hend : ∀ ys c, Ev (fun k => H k ys c ys.length) c)
    (hstep : ∀ ys c c' i, ∀ hi : i < ys.length, i < 1048576 → E ys[i] c c' → 0 ≤ c → c' ≤ 2305843009213693952 → ∀ r, Ev (fun k => H k ys c' (i + 1)) r → Ev (fun k => H k ys c i) r)
    (ys : List α) (hl : ys.length ≤ 1048576) (c d : Int) (hc0 : 0 ≤ c) (hd : d ≤ 2305843009213693952) (h : Chain E ys c d) : Ev (fun k => H k ys c 0) d := by
  have key : ∀ n i : Nat, ∀ m : Int, i + n = ys.length → 0 ≤ m → Chain E (ys.drop i) m d → Ev (fun k => H k ys m i) d := by
    intro n
    induction n with
    | zero =>
      intro i m hi h0 hch
      obtain rfl : i = ys.length := by omega
      rw [List.drop_length] at hch
      obtain rfl : m = d := hch
      exact hend ys m
    | succ n ih =>
      intro i m hi h0 hch
      have hlt : i < ys.length := by omega
      rw [List.drop_eq_getElem_cons hlt] at hch
      obtain ⟨m', hE, hch⟩ := hch
      have h1 := hm _ _ _ hE
      exact hstep ys m m' i hlt (by omega) hE h0 (by have := Chain.le hm hch; omega) d (ih (i + 1) m' (by omega) (by omega) hch)
  exact key ys.length 0 c (by omega) hc0 h
theorem exev_bind {α β : Type} {g : Nat → Option α} {f : Nat → α → Option β} {a : α} {Q : β → Prop} (h : Ev g a) (k : ∃ r, Ev (fun n => f n a) r ∧ Q r) : ∃ r, Ev (fun n => (g n).bind (f n)) r ∧ Q r := by
  obtain ⟨r, hr, hq⟩ := k
  exact ⟨r, Ev.bind h hr, hq⟩
theorem exev_pos {α : Type} {c : Prop} [Decidable c] {f g : Nat → Option α} {Q : α → Prop} (h : c) (k : ∃ r, Ev f r ∧ Q r) : ∃ r, Ev (fun n => if c then f n else g n) r ∧ Q r := by
  obtain ⟨r, hr, hq⟩ := k
  exact ⟨r, ev_pos h hr, hq⟩
theorem exev_neg {α : Type} {c : Prop} [Decidable c] {f g : Nat → Option α} {Q : α → Prop} (h : ¬ c) (k : ∃ r, Ev g r ∧ Q r) : ∃ r, Ev (fun n => if c then f n else g n) r ∧ Q r := by
  obtain ⟨r, hr, hq⟩ := k
  exact ⟨r, ev_neg h hr, hq⟩
theorem exev_ite {α : Type} {c : Prop} [Decidable c] {f g : Nat → Option α} {Q : α → Prop} (h : c → ∃ r, Ev f r ∧ Q r) (k : ¬ c → ∃ r, Ev g r ∧ Q r) : ∃ r, Ev (fun n => if c then f n else g n) r ∧ Q r := by
  by_cases hc : c
  · exact exev_pos hc (h hc)
  · exact exev_neg hc (k hc)
theorem exev_some {α : Type} {x : α} {Q : α → Prop} (h : Q x) : ∃ r, Ev (fun _ => some x) r ∧ Q r := ⟨x, ev_some rfl, h⟩
theorem ev_copy2 {α β τ : Type} (L : Nat → List α → List β → Int → Option (List β)) (e : Nat → List α → Int → Option τ) (mk : τ → β) (g : α → β)
    (hL : ∀ k xs ys i, L (k + 1) xs ys i = if i < (xs.length : Int) then (if 0 ≤ i then ((e k xs i).bind fun v => if i < (ys.length : Int) then L k xs (ys.set (i : Int).toNat (mk v)) (wrap64 (i + 1)) else none) else none) else some ys)
    (xs : List α) (hx : xs.length < 4611686018427387904) (he : ∀ i : Nat, ∀ h : i < xs.length, ∃ t, Ev (fun k => e k xs (i : Int)) t ∧ mk t = g xs[i]) (ys : List β) (hy : ys.length = xs.length) :
    Ev (fun k => L k xs ys 0) (xs.map g) := by
  refine ev_for1 xs.length (fun k i ys => L k xs ys (i : Int)) (fun i ys => ys.length = xs.length ∧ ∀ j, j < i → ys[j]? = (xs.map g)[j]?) (xs.map g) ?_ ?_ 0 ys (Nat.zero_le _) ⟨hy, fun j hj => by omega⟩
  · intro ys ⟨hl, h⟩
    refine Ev.step (fun k => hL k xs ys _) (ev_neg (by omega) (ev_some ?_))
    apply List.ext_getElem?
    intro j
    rcases Nat.lt_or_ge j xs.length with hj | hj
    · exact h j hj
    · rw [List.getElem?_eq_none (by omega), List.getElem?_eq_none (by simpa using hj)]
  · intro i ys hi ⟨hl, h⟩
    obtain ⟨t, ht, hmk⟩ := he i hi
    refine .inr ⟨ys.set i (g xs[i]), ⟨by simpa using hl, fun j hj => ?_⟩, fun r hr => ?_⟩
    · rcases Nat.lt_or_ge j i with hji | hji
      · rw [List.getElem?_set_ne (by omega)]
        exact h j hji
      · obtain rfl : j = i := by omega
        rw [List.getElem?_set_self (by omega), List.getElem?_map, List.getElem?_eq_getElem hi]
        rfl
    · refine Ev.step (fun k => hL k xs ys _) (ev_pos (by omega) (ev_pos (by omega) (Ev.bind ht (ev_pos (by omega) ?_))))
      rw [w64s i (by omega), hmk]
      exact hr
theorem mid_of (lo hi : Nat) (h : lo ≤ 1048576) (k : hi ≤ 1048576) : wrap64 ((IntKind.u64.wrap (wrap64 ((lo : Int) + (hi : Int)))) / 2) = (((lo + hi) / 2 : Nat) : Int) := by
  rw [w64 (n := (lo : Int) + (hi : Int)) (by omega) (by omega), wrap_u64 (by omega) (by omega), w64 (by omega) (by omega)]
  omega
theorem ev_search {α τ : Type} (L : Nat → List α → τ → Int → Int → Int → Option (Int × Bool)) (c : Nat → List α → Int → τ → Option Int)
    (hL : ∀ k xs x n i j, L (k + 1) xs x n i j = if i < j then (if 0 ≤ (wrap64 ((IntKind.u64.wrap (wrap64 (i + j))) / 2)) then (if (wrap64 ((IntKind.u64.wrap (wrap64 (i + j))) / 2)) < (xs.length : Int) then ((c k xs (wrap64 ((IntKind.u64.wrap (wrap64 (i + j))) / 2)) x).bind fun t => (if t < 0 then (L k xs x n (wrap64 ((wrap64 ((IntKind.u64.wrap (wrap64 (i + j))) / 2)) + 1)) j) else (L k xs x n i (wrap64 ((IntKind.u64.wrap (wrap64 (i + j))) / 2))))) else (none)) else (none)) else (if i < n then (if 0 ≤ i then (if i < (xs.length : Int) then ((c k xs i x).bind fun t => (some (i, (t == 0)))) else (none)) else (none)) else (some (i, false))))
    (xs : List α) (x : τ) (hl : xs.length ≤ 1048576) (C : Nat → Int) (hc : ∀ i : Nat, i < xs.length → Ev (fun k => c k xs (i : Int) x) (C i)) (hm : ∀ i j : Nat, i < j → j < xs.length → 0 ≤ C i → 0 < C j) :
    ∃ p : Nat, p ≤ xs.length ∧ (∀ i, i < p → C i < 0) ∧ (∀ i, p ≤ i → i < xs.length → 0 ≤ C i) ∧ Ev (fun k => L k xs x (xs.length : Int) 0 (xs.length : Int)) ((p : Int), decide (p < xs.length ∧ C p = 0)) := by
  have key : ∀ d lo hi : Nat, hi - lo ≤ d → lo ≤ hi → hi ≤ xs.length → (∀ i, i < lo → C i < 0) → (∀ i, hi ≤ i → i < xs.length → 0 ≤ C i) →
      ∃ p : Nat, p ≤ xs.length ∧ (∀ i, i < p → C i < 0) ∧ (∀ i, p ≤ i → i < xs.length → 0 ≤ C i) ∧ Ev (fun k => L k xs x (xs.length : Int) (lo : Int) (hi : Int)) ((p : Int), decide (p < xs.length ∧ C p = 0)) := by
    intro d
    induction d with
    | zero =>
      intro lo hi hd hle hhl h1 h2
      obtain rfl : lo = hi := by omega
      refine ⟨lo, hhl, h1, h2, Ev.step (fun k => hL k xs x _ _ _) (ev_neg (by omega) ?_)⟩
      by_cases hlt : lo < xs.length
      · refine ev_pos (by omega) (ev_pos (by omega) (ev_pos (by omega) (Ev.bind (hc lo hlt) (ev_some ?_))))
        by_cases h0 : C lo = 0 <;> simp [h0, hlt]
      · refine ev_neg (by omega) (ev_some ?_)
        simp [hlt]
    | succ d ih =>
      intro lo hi hd hle hhl h1 h2
      by_cases he : lo = hi
      · exact ih lo hi (by omega) hle hhl h1 h2
      · have em := mid_of lo hi (by omega) (by omega)
        have hm1 : (lo + hi) / 2 < hi := by omega
        have hm0 : lo ≤ (lo + hi) / 2 := by omega
        generalize (lo + hi) / 2 = m at em hm1 hm0
        by_cases hcm : C m < 0
        · obtain ⟨p, g1, g2, g3, g4⟩ := ih (m + 1) hi (by omega) (by omega) hhl (fun i hi' => by
            rcases Nat.lt_or_ge i m with hh | hh
            · rcases Classical.em (C i < 0) with h | h
              · exact h
              · have := hm i m hh (by omega) (by omega); omega
            · obtain rfl : i = m := by omega
              exact hcm) h2
          refine ⟨p, g1, g2, g3, Ev.step (fun k => hL k xs x _ _ _) (ev_pos (by omega) ?_)⟩
          rw [em]
          refine ev_pos (by omega) (ev_pos (by omega) (Ev.bind (hc m (by omega)) (ev_pos hcm ?_)))
          rw [w64s m (by omega)]
          exact g4
        · obtain ⟨p, g1, g2, g3, g4⟩ := ih lo m (by omega) (by omega) (by omega) h1 (fun i hi1 hi2 => by
            rcases Nat.lt_or_ge m i with hh | hh
            · have := hm m i hh hi2 (by omega); omega
            · obtain rfl : i = m := by omega
              omega)
          refine ⟨p, g1, g2, g3, Ev.step (fun k => hL k xs x _ _ _) (ev_pos (by omega) ?_)⟩
          rw [em]
          exact ev_pos (by omega) (ev_pos (by omega) (Ev.bind (hc m (by omega)) (ev_neg hcm g4)))
  exact key xs.length 0 xs.length (by omega) (by omega) (by omega) (fun i hi => by omega) (fun i h h' => by omega)
end Go.Proofs.YtjmcahjcgfflgaaO
namespace Go.Proofs.Ytjmcahjcgfflgaa.Pure
open Go.RowKit Go.Proofs.Ytjmcahjcgfflgaa.PFnExactAddTimer Go.Proofs.Ytjmcahjcgfflgaa.OFnExactAddTimer Go.Proofs.YtjmcahjcgfflgaaW.PrintWords Go.Proofs.YtjmcahjcgfflgaaW.PrintLast Go.Proofs.YtjmcahjcgfflgaaW.PrintMore Go.Proofs.YtjmcahjcgfflgaaO
set_option linter.unusedVariables false
set_option linter.unusedSimpArgs false
theorem st_laws_FnExactAddTimer_j0 {r : (Bool)} {x7 : Bool} {x10 : Bool} {x46 : Bool} {x217000 : Int} {x217001 : List (S26)} {x218000 : Int} {x218001 : Int} {x218002 : Int} {x218003 : Int} {x233000 : Int} {x233001 : List (S34)} {x238000 : Int} {x238001 : List (S34)} {x248000 : Int} {x248001 : List (S34)} (h : Ev (fun k => if x46 = true then (some false) else ((laws_toClock.f k x217000 x217001).bind fun bt249 => ((laws_eqClock.f k x238000 x238001 bt249.1 bt249.2).bind fun t253 => (if t253 = true then ((laws_markClock.f k x238000 x238001 1).bind fun bt254 => (if bt254.1 < 0 then (laws_FnExactAddTimer.j1 k x7 true x217000 x217001 x218000 x218001 x218002 x218003 x233000 x233001 x248000 x248001) else ((laws_eqClock.f k x248000 x248001 x233000 x233001).bind fun t256 => (if t256 = true then (laws_FnExactAddTimer.j1 k x7 (x10 != x7) x217000 x217001 x218000 x218001 x218002 x218003 x233000 x233001 x248000 x248001) else (laws_FnExactAddTimer.j1 k x7 true x217000 x217001 x218000 x218001 x218002 x218003 x233000 x233001 x248000 x248001))))) else (some false))))) r) : Ev (fun k => laws_FnExactAddTimer.j0 k x7 x10 x46 x217000 x217001 x218000 x218001 x218002 x218003 x233000 x233001 x238000 x238001 x248000 x248001) r := Ev.step (fun k => by rw [laws_FnExactAddTimer.j0]) h
theorem st_laws_FnExactAddTimer_j1 {r : (Bool)} {x7 : Bool} {x67 : Bool} {x217000 : Int} {x217001 : List (S26)} {x218000 : Int} {x218001 : Int} {x218002 : Int} {x218003 : Int} {x233000 : Int} {x233001 : List (S34)} {x248000 : Int} {x248001 : List (S34)} (h : Ev (fun k => if x67 = true then (some false) else ((laws_markClock.f k x248000 x248001 1).bind fun bt257 => ((laws_heldClock.f k x248000 bt257.2 1).bind fun t259 => (if t259 < 0 then (some false) else (if t259 = bt257.1 then ((laws_toClock.f k x217000 x217001).bind fun bt260 => ((laws_toTimer.f x218000 x218001 x218002 x218003).bind fun bt264 => ((impl_AddTimer.f k bt260.1 bt260.2 bt264.1 bt264.2.1 bt264.2.2.1 bt264.2.2.2).bind fun bt268 => ((laws_eqClock.f k bt268.1 bt268.2.1 x233000 x233001).bind fun t274 => (if t274 = true then (laws_FnExactAddTimer.j2 k bt257.1 (bt268.2.2 != x7) x248000 bt257.2) else (laws_FnExactAddTimer.j2 k bt257.1 true x248000 bt257.2)))))) else (some false)))))) r) : Ev (fun k => laws_FnExactAddTimer.j1 k x7 x67 x217000 x217001 x218000 x218001 x218002 x218003 x233000 x233001 x248000 x248001) r := Ev.step (fun k => by rw [laws_FnExactAddTimer.j1]) h
theorem st_laws_FnExactAddTimer_j2 {r : (Bool)} {x12 : Int} {x95 : Bool} {x248000 : Int} {x248001 : List (S34)} (h : Ev (fun k => if x95 = true then (some false) else ((laws_heldClock.f k x248000 x248001 1).bind fun t275 => (if t275 < 0 then (some false) else (if t275 = x12 then (some true) else (some false))))) r) : Ev (fun k => laws_FnExactAddTimer.j2 k x12 x95 x248000 x248001) r := Ev.step (fun k => by rw [laws_FnExactAddTimer.j2]) h
theorem st_spec_GoodClock_j0 {r : (Bool)} {x14 : Bool} {x104000 : Int} {x104001 : List (S34)} (h : Ev (fun k => if x14 = true then (some false) else (spec_GoodClock.l0 k x104001 (x104001.length : Int) 0 x104000 x104001)) r) : Ev (fun k => spec_GoodClock.j0 k x14 x104000 x104001) r := Ev.step (fun k => by rw [spec_GoodClock.j0]) h
theorem st_spec_GoodClock_l0 {r : (Bool)} {x16 : List (S34)} {x17 : Int} {x18 : Int} {x104000 : Int} {x104001 : List (S34)} (h : Ev (fun k => if x18 < x17 then (if 0 ≤ x18 then (if x18 < (x16.length : Int) then ((spec_l1In.f ((rd_T34 x16 x18).f0) 0 999).bind fun t107 => (if t107 = true then (if x18 > 0 then (if 0 ≤ (wrap64 (x18 - 1)) then (if (wrap64 (x18 - 1)) < (x104001.length : Int) then (if ((rd_T34 x104001 (wrap64 (x18 - 1))).f0) ≥ ((rd_T34 x16 x18).f0) then (some false) else ((spec_l1In.f ((rd_T34 x16 x18).f1) (wrap64 (x104000 + 1)) 200000).bind fun t109 => (if t109 = true then ((spec_l1In.f ((rd_T34 x16 x18).f2) 0 100000).bind fun t110 => (if t110 = true then ((spec_l1In.f ((rd_T34 x16 x18).f3) 1 1000).bind fun t111 => (if t111 = true then (if ((rd_T34 x16 x18).f2) = 0 then (if ((rd_T34 x16 x18).f3) = 1 then (spec_GoodClock.l0 k x16 x17 (wrap64 (x18 + 1)) x104000 x104001) else (some false)) else (spec_GoodClock.l0 k x16 x17 (wrap64 (x18 + 1)) x104000 x104001)) else (some false))) else (some false))) else (some false)))) else (none)) else (none)) else ((spec_l1In.f ((rd_T34 x16 x18).f1) (wrap64 (x104000 + 1)) 200000).bind fun t112 => (if t112 = true then ((spec_l1In.f ((rd_T34 x16 x18).f2) 0 100000).bind fun t113 => (if t113 = true then ((spec_l1In.f ((rd_T34 x16 x18).f3) 1 1000).bind fun t114 => (if t114 = true then (if ((rd_T34 x16 x18).f2) = 0 then (if ((rd_T34 x16 x18).f3) = 1 then (spec_GoodClock.l0 k x16 x17 (wrap64 (x18 + 1)) x104000 x104001) else (some false)) else (spec_GoodClock.l0 k x16 x17 (wrap64 (x18 + 1)) x104000 x104001)) else (some false))) else (some false))) else (some false)))) else (some false))) else (none)) else (none)) else (some true)) r) : Ev (fun k => spec_GoodClock.l0 k x16 x17 x18 x104000 x104001) r := Ev.step (fun k => by rw [spec_GoodClock.l0]) h
theorem st_spec_AddTimer_l0 {r : (Int × (List (S34)) × Bool)} {x6 : List (S34)} {x7 : Bool} {x16 : List (S34)} {x17 : Int} {x18 : Int} {x116000 : Int} {x116001 : List (S34)} {x117000 : Int} {x117001 : Int} {x117002 : Int} {x117003 : Int} (h : Ev (fun k => if x18 < x17 then (if 0 ≤ x18 then (if x18 < (x16.length : Int) then (if x7 = true then (spec_AddTimer.j1 k x6 x7 x16 x17 x18 false x116000 x116001 x117000 x117001 x117002 x117003 ((rd_T34 x16 x18).f0) ((rd_T34 x16 x18).f1) ((rd_T34 x16 x18).f2) ((rd_T34 x16 x18).f3)) else (spec_AddTimer.j1 k x6 x7 x16 x17 x18 (decide (((rd_T34 x16 x18).f0) ≥ x117000)) x116000 x116001 x117000 x117001 x117002 x117003 ((rd_T34 x16 x18).f0) ((rd_T34 x16 x18).f1) ((rd_T34 x16 x18).f2) ((rd_T34 x16 x18).f3))) else (none)) else (none)) else (if x7 = true then ((spec_GoodClock.f k x116000 x6).bind fun t131 => (if t131 = true then (some (x116000, x6, true)) else (some (0, ([] : List (S34)), false)))) else (if x6.length < 4398046511104 then ((some (x6 ++ [(⟨x117000, x117001, x117002, x117003⟩ : S34)] : List (S34))).bind fun y132 => ((spec_GoodClock.f k x116000 y132).bind fun t136 => (if t136 = true then (some (x116000, y132, true)) else (some (0, ([] : List (S34)), false))))) else (none)))) r) : Ev (fun k => spec_AddTimer.l0 k x6 x7 x16 x17 x18 x116000 x116001 x117000 x117001 x117002 x117003) r := Ev.step (fun k => by rw [spec_AddTimer.l0]) h
theorem st_spec_AddTimer_j1 {r : (Int × (List (S34)) × Bool)} {x6 : List (S34)} {x7 : Bool} {x16 : List (S34)} {x17 : Int} {x18 : Int} {x30 : Bool} {x116000 : Int} {x116001 : List (S34)} {x117000 : Int} {x117001 : Int} {x117002 : Int} {x117003 : Int} {x121000 : Int} {x121001 : Int} {x121002 : Int} {x121003 : Int} (h : Ev (fun k => if x30 = true then (if x6.length < 4398046511104 then ((some (x6 ++ [(⟨x117000, x117001, x117002, x117003⟩ : S34)] : List (S34))).bind fun y121 => (if x121000 = x117000 then (spec_AddTimer.l0 k y121 true x16 x17 (wrap64 (x18 + 1)) x116000 x116001 x117000 x117001 x117002 x117003) else (if y121.length < 4398046511104 then (spec_AddTimer.l0 k (y121 ++ [(⟨x121000, x121001, x121002, x121003⟩ : S34)]) true x16 x17 (wrap64 (x18 + 1)) x116000 x116001 x117000 x117001 x117002 x117003) else (none)))) else (none)) else (if x121000 = x117000 then (spec_AddTimer.l0 k x6 x7 x16 x17 (wrap64 (x18 + 1)) x116000 x116001 x117000 x117001 x117002 x117003) else (if x6.length < 4398046511104 then (spec_AddTimer.l0 k (x6 ++ [(⟨x121000, x121001, x121002, x121003⟩ : S34)]) x7 x16 x17 (wrap64 (x18 + 1)) x116000 x116001 x117000 x117001 x117002 x117003) else (none)))) r) : Ev (fun k => spec_AddTimer.j1 k x6 x7 x16 x17 x18 x30 x116000 x116001 x117000 x117001 x117002 x117003 x121000 x121001 x121002 x121003) r := Ev.step (fun k => by rw [spec_AddTimer.j1]) h
theorem st_impl_GoodClock_j0 {r : (Bool)} {x14 : Bool} {x162000 : Int} {x162001 : List (S34)} (h : Ev (fun k => if x14 = true then (some false) else (impl_GoodClock.l0 k x162001 (x162001.length : Int) 0 x162000 x162001)) r) : Ev (fun k => impl_GoodClock.j0 k x14 x162000 x162001) r := Ev.step (fun k => by rw [impl_GoodClock.j0]) h
theorem st_impl_GoodClock_l0 {r : (Bool)} {x16 : List (S34)} {x17 : Int} {x18 : Int} {x162000 : Int} {x162001 : List (S34)} (h : Ev (fun k => if x18 < x17 then (if 0 ≤ x18 then (if x18 < (x16.length : Int) then ((impl_isTimer.f ((rd_T34 x16 x18).f0) ((rd_T34 x16 x18).f1) ((rd_T34 x16 x18).f2) ((rd_T34 x16 x18).f3) x162000).bind fun t165 => (if t165 = true then (if x18 > 0 then (if 0 ≤ (wrap64 (x18 - 1)) then (if (wrap64 (x18 - 1)) < (x162001.length : Int) then (if ((rd_T34 x162001 (wrap64 (x18 - 1))).f0) ≥ ((rd_T34 x16 x18).f0) then (some false) else (impl_GoodClock.l0 k x16 x17 (wrap64 (x18 + 1)) x162000 x162001)) else (none)) else (none)) else (impl_GoodClock.l0 k x16 x17 (wrap64 (x18 + 1)) x162000 x162001)) else (some false))) else (none)) else (none)) else (some true)) r) : Ev (fun k => impl_GoodClock.l0 k x16 x17 x18 x162000 x162001) r := Ev.step (fun k => by rw [impl_GoodClock.l0]) h
theorem st_impl_AddTimer_j0 {r : (Int × (List (S34)) × Bool)} {x18 : Bool} {x176000 : Int} {x176001 : List (S34)} {x177000 : Int} {x177001 : Int} {x177002 : Int} {x177003 : Int} (h : Ev (fun k => if x18 = true then (some (0, ([] : List (S34)), false)) else ((impl_Timer_27.f x176001).bind fun t180 => ((impl_Clock_place.f k x176000 x176001 x177000).bind fun bt184 => (if bt184.2 = true then (if 0 ≤ bt184.1 then (if bt184.1 < (t180.length : Int) then ((some (t180.set (bt184.1 : Int).toNat (⟨x177000, x177001, x177002, x177003⟩ : S34) : List (S34))).bind fun y186 => ((impl_GoodClock.f k x176000 y186).bind fun t187 => (if t187 = true then (some (x176000, y186, true)) else (some (0, ([] : List (S34)), false))))) else (none)) else (none)) else ((impl_Timer_29.f t180 bt184.1 (([(⟨x177000, x177001, x177002, x177003⟩ : S34)] : List (S34)))).bind fun t191 => ((impl_GoodClock.f k x176000 t191).bind fun t194 => (if t194 = true then (some (x176000, t191, true)) else (some (0, ([] : List (S34)), false))))))))) r) : Ev (fun k => impl_AddTimer.j0 k x18 x176000 x176001 x177000 x177001 x177002 x177003) r := Ev.step (fun k => by rw [impl_AddTimer.j0]) h
theorem in_some (a b c : Int) : spec_l1In.f a b c = some (decide (b ≤ a ∧ a ≤ c)) := by
  unfold spec_l1In.f
  split <;> simp_all <;> omega
theorem in_same (a b c : Int) : impl_inRange.f a b c = spec_l1In.f a b c := rfl
theorem szTimerS_some (xs : List S26) (g : xs.length * 32 ≤ 140737488351232 ∧ ∀ y ∈ xs, Ok26 y) (left : Int) (h0 : 0 ≤ left) (h1 : left ≤ 1048576) : ∃ r, Ev (fun _ => laws_szTimerS.f xs left) r ∧ (r < 0 ∨ 0 ≤ r ∧ r ≤ left ∧ xs.length ≤ 1048576) := by
  have g1 := g.1
  unfold laws_szTimerS.f
  rw [w64 (n := left - (xs.length : Int)) (by omega) (by omega)]
  refine exev_ite (fun _ => exev_some (.inl (by omega))) fun hc => ?_
  exact exev_some (.inr ⟨by omega, by omega, by omega⟩)
theorem szClock_some (a0 : Int) (l1 : List S26) (ga0 : In64 a0) (gl1 : l1.length * 32 ≤ 140737488351232 ∧ ∀ y ∈ l1, Ok26 y) (left : Int) (h0 : 0 ≤ left) (h1 : left ≤ 1048576) : ∃ r, Ev (fun _ => laws_szClock.f a0 l1 left) r ∧ (r < 0 ∨ 0 ≤ r ∧ r ≤ left ∧ (l1.length ≤ 1048576)) := by
  unfold laws_szClock.f
  obtain ⟨r0, hr0, hq0⟩ := szTimerS_some l1 gl1 (left) (by omega) (by omega)
  refine exev_bind hr0 (exev_ite (fun _ => exev_some (.inl (by omega))) fun c0 => ?_)
  rcases hq0 with hq0 | ⟨u0, v0, w0⟩
  · omega
  exact exev_some (.inr ⟨by omega, by omega, w0⟩)
def cv26 (x : S26) : S34 := ⟨x.f0, x.f1, x.f2, x.f3⟩
theorem toTimerS_ev (xs : List S26) (h : xs.length ≤ 1048576) : Ev (fun k => laws_toTimerS.f k xs) (xs.map cv26) := by
  refine ev_pos (by omega) (ev_pos (by have := h; omega) ?_)
  refine ev_copy2 laws_toTimerS.l0 (fun k xs i => laws_toTimer.f ((rd_T26 xs i).f0) ((rd_T26 xs i).f1) ((rd_T26 xs i).f2) ((rd_T26 xs i).f3)) (fun t => (⟨t.1, t.2.1, t.2.2.1, t.2.2.2⟩ : S34)) cv26 (fun _ _ _ _ => rfl) xs (by have := h; omega) (fun i hi => ?_) _ (by simp)
  · have e : rd_T26 xs (i : Int) = xs[i] := getD_get hi
    rw [e]
    exact ⟨_, ev_eq rfl, rfl⟩
theorem toClock_ev (a0 : Int) (l1 : List S26) (hl1 : l1.length ≤ 1048576) : Ev (fun k => laws_toClock.f k a0 l1) (a0, (l1.map cv26)) := by
  unfold laws_toClock.f
  repeat (first | exact ev_some rfl | refine Ev.bind (toTimerS_ev _ hl1) ?_ | refine ev_bindc rfl ?_)
theorem eqTimer_self (a0 : Int) (a1 : Int) (a2 : Int) (a3 : Int) : laws_eqTimer.f a0 a1 a2 a3 a0 a1 a2 a3 = some true := by
  simp [laws_eqTimer.f]
theorem eqTimerS_ev (xs : List S34) (h : xs.length ≤ 1048576) : Ev (fun k => laws_eqTimerS.f k xs xs) true := by
  refine ev_pos rfl (ev_alike_self laws_eqTimerS.l0 (fun k xs ys i => laws_eqTimer.f ((rd_T34 xs i).f0) ((rd_T34 xs i).f1) ((rd_T34 xs i).f2) ((rd_T34 xs i).f3) ((rd_T34 ys i).f0) ((rd_T34 ys i).f1) ((rd_T34 ys i).f2) ((rd_T34 ys i).f3)) (fun _ _ _ _ => rfl) xs (by have := h; omega) (fun i hi => ?_))
  · exact ev_eq (eqTimer_self _ _ _ _)
theorem eqClock_ev (a0 : Int) (l1 : List S34) (hl1 : l1.length ≤ 1048576) : Ev (fun k => laws_eqClock.f k a0 l1 a0 l1) true := by
  unfold laws_eqClock.f
  repeat (first | exact ev_some rfl | refine Ev.bind (eqTimerS_ev l1 hl1) ?_ | refine ev_pos rfl ?_ | refine ev_neg (by simp) ?_)
def MarkTimerS (x : S34) (c d : Int) : Prop := x = (⟨c, c + 1, c + 1 + 1, c + 1 + 1 + 1⟩ : S34) ∧ d = c + 1 + 1 + 1 + 1
theorem rd_set34 {xs : List S34} {i : Nat} (h : i < xs.length) (v : S34) : rd_T34 (xs.set i v) (i : Int) = v := by
  unfold rd_T34
  rw [getD_get (by simpa using h), List.getElem_set_self]
theorem markTimerS_ev (xs : List S34) (hl : xs.length ≤ 1048576) (c : Int) (hc0 : 0 ≤ c) (hc1 : c ≤ 1152921504606846976) :
    ∃ ys d, Chain MarkTimerS ys c d ∧ c ≤ d ∧ d ≤ c + 4 * xs.length ∧ ys.length = xs.length ∧ Ev (fun k => laws_markTimerS.f k xs c) (d, ys) := by
  refine ev_mark (fun k zs c i => laws_markTimerS.l0 k zs c (i : Int)) MarkTimerS (fun _ => True) 4 (by omega) (by omega) ?_ ?_ xs (fun _ _ => trivial) hl c hc0 hc1
  · intro zs c
    exact Ev.step (fun _ => rfl) (ev_neg (by omega) (ev_some rfl))
  · intro zs c i hi h20 _ h0 h1
    refine ⟨_, _, ⟨rfl, rfl⟩, by omega, by omega, fun r hr => Ev.step (fun _ => rfl) (ev_pos (by omega) (ev_pos (by omega) ?_))⟩
    simp only [Option.bind_some, Int.toNat_natCast, rd_set34 hi, List.set_set, w64s i (by omega), w64 (n := c + 1) (by omega) (by omega), w64 (n := c + 1 + 1) (by omega) (by omega), w64 (n := c + 1 + 1 + 1) (by omega) (by omega), w64 (n := c + 1 + 1 + 1 + 1) (by omega) (by omega)]
    exact hr
theorem heldTimerS_ev (ys : List S34) (hl : ys.length ≤ 1048576) (c d : Int) (hc : 0 ≤ c) (hd : d ≤ 2305843009213693952) (h : Chain MarkTimerS ys c d) : Ev (fun k => laws_heldTimerS.f k ys c) d := by
  refine ev_held (fun k zs c i => laws_heldTimerS.l0 k zs c (i : Int)) MarkTimerS (fun x c d h => by have := h.2; omega) ?_ ?_ ys hl c d hc hd h
  · intro zs c
    exact Ev.step (fun _ => rfl) (ev_neg (by omega) (ev_some rfl))
  · intro zs c c' i hi h20 hE h0 h1 r hr
    obtain ⟨hx, rfl⟩ := hE
    have hg : rd_T34 zs (i : Int) = (⟨c, c + 1, c + 1 + 1, c + 1 + 1 + 1⟩ : S34) := (getD_get hi).trans hx
    refine Ev.step (fun _ => rfl) (ev_pos (by omega) (ev_pos (by omega) ?_))
    rw [hg]
    simp only [w64s i (by omega), w64 (n := c + 1) (by omega) (by omega), w64 (n := c + 1 + 1) (by omega) (by omega), w64 (n := c + 1 + 1 + 1) (by omega) (by omega), w64 (n := c + 1 + 1 + 1 + 1) (by omega) (by omega)]
    exact ev_pos (by trivial) (ev_pos (by trivial) (ev_pos (by trivial) (ev_pos (by trivial) (hr))))
def TimerOk (a : Int) (l : List S34) (i : Nat) : Prop := (0 ≤ (rd_T34 l (i : Int)).f0 ∧ (rd_T34 l (i : Int)).f0 ≤ 999) ∧ (a + 1 ≤ (rd_T34 l (i : Int)).f1 ∧ (rd_T34 l (i : Int)).f1 ≤ 200000) ∧ (0 ≤ (rd_T34 l (i : Int)).f2 ∧ (rd_T34 l (i : Int)).f2 ≤ 100000) ∧ (1 ≤ (rd_T34 l (i : Int)).f3 ∧ (rd_T34 l (i : Int)).f3 ≤ 1000) ∧ ((rd_T34 l (i : Int)).f2 = 0 → (rd_T34 l (i : Int)).f3 = 1)
def StandOk (a : Int) (l : List S34) (i : Nat) : Prop := TimerOk a l i ∧ (0 < i → (rd_T34 l ((i : Int) - 1)).f0 < (rd_T34 l (i : Int)).f0)
def ClockOk (a : Int) (l : List S34) : Prop := (0 ≤ a ∧ a ≤ 100000) ∧ l.length ≤ 20 ∧ ∀ i, i < l.length → StandOk a l i
theorem clock_spec (a : Int) (l : List S34) (t : Bool) (ht : t = true ↔ ClockOk a l) : Ev (fun k => spec_GoodClock.f k a l) t := by
  have j0t : Ev (fun k => spec_GoodClock.j0 k true a l) false := st_spec_GoodClock_j0 (ev_pos rfl (ev_some rfl))
  have no : ¬ ClockOk a l → t = false := bool_false ht
  refine ev_bindc (in_some _ _ _) (ev_ite (fun ha => ?_) fun ha => by rw [no (fun h => ha (decide_eq_true h.1))]; exact j0t)
  have ha := of_decide_eq_true ha
  by_cases hn : (l.length : Int) > 20
  · rw [decide_eq_true hn, no (fun h => by have := h.2.1; omega)]; exact j0t
  rw [decide_eq_false hn]
  refine st_spec_GoodClock_j0 (ev_neg (by decide) ?_)
  refine ev_all l.length (fun k i => spec_GoodClock.l0 k l (l.length : Int) (i : Int) a l) (StandOk a l) true t ?_ ?_ ?_ ?_
  · rw [ht]; unfold ClockOk; exact ⟨fun h => ⟨rfl, h.2.2⟩, fun h => ⟨ha, by omega, h.2⟩⟩
  · exact st_spec_GoodClock_l0 (ev_neg (by omega) (ev_some rfl))
  · intro i hi _ ⟨⟨h0, h1, h2, h3, h4⟩, h5⟩ r hr
    have e1 : wrap64 (a + 1) = a + 1 := w64 (by omega) (by omega)
    have e2 : wrap64 ((i : Int) - 1) = (i : Int) - 1 := w64 (by omega) (by omega)
    refine st_spec_GoodClock_l0 (ev_pos (by omega) (ev_pos (by omega) (ev_pos (by omega) (ev_bindc (in_some _ _ _) (ev_pos (decide_eq_true h0) ?_)))))
    rw [e1, e2]
    refine ev_ite (fun hi0 => ev_pos (by omega) (ev_pos (by omega) (ev_neg (by have := h5 (by omega); omega) ?_))) fun hi0 => ?_
    all_goals
      refine ev_bindc (in_some _ _ _) (ev_pos (decide_eq_true h1) (ev_bindc (in_some _ _ _) (ev_pos (decide_eq_true h2) (ev_bindc (in_some _ _ _) (ev_pos (decide_eq_true h3) ?_)))))
      refine ev_ite (fun hz => ?_) fun hz => ?_
      · refine ev_pos (h4 hz) ?_
        rw [w64s i (by omega)]; exact hr
      · rw [w64s i (by omega)]; exact hr
  · intro i hi _ ho
    have e1 : wrap64 (a + 1) = a + 1 := w64 (by omega) (by omega)
    have e2 : wrap64 ((i : Int) - 1) = (i : Int) - 1 := w64 (by omega) (by omega)
    have bad : Ev (fun _ => some false) false := ev_some rfl
    refine st_spec_GoodClock_l0 (ev_pos (by omega) (ev_pos (by omega) (ev_pos (by omega) (ev_bindc (in_some _ _ _) (ev_ite (fun h0 => ?_) fun _ => bad)))))
    rw [e1, e2]
    refine ev_ite (fun hi0 => ev_pos (by omega) (ev_pos (by omega) (ev_ite (fun _ => bad) fun h5 => ?_))) fun hi0 => ?_
    all_goals
      refine ev_bindc (in_some _ _ _) (ev_ite (fun h1 => ?_) fun _ => bad)
      refine ev_bindc (in_some _ _ _) (ev_ite (fun h2 => ?_) fun _ => bad)
      refine ev_bindc (in_some _ _ _) (ev_ite (fun h3 => ?_) fun _ => bad)
      refine ev_ite (fun hz => ?_) fun hz => ?_
      · by_cases h4 : (rd_T34 l (i : Int)).f3 = 1
        · exact absurd ⟨⟨of_decide_eq_true h0, of_decide_eq_true h1, of_decide_eq_true h2, of_decide_eq_true h3, fun _ => h4⟩, fun _ => by omega⟩ ho
        · exact ev_neg h4 bad
      · exact absurd ⟨⟨of_decide_eq_true h0, of_decide_eq_true h1, of_decide_eq_true h2, of_decide_eq_true h3, fun h => absurd h hz⟩, fun _ => by omega⟩ ho
theorem timer_impl (a : Int) (ha : 0 ≤ a ∧ a ≤ 100000) (l : List S34) (i : Nat) : ∃ c : Bool, impl_isTimer.f (rd_T34 l (i : Int)).f0 (rd_T34 l (i : Int)).f1 (rd_T34 l (i : Int)).f2 (rd_T34 l (i : Int)).f3 a = some c ∧ (c = true ↔ TimerOk a l i) := by
  have e1 : wrap64 (a + 1) = a + 1 := w64 (by omega) (by omega)
  unfold impl_isTimer.f impl_isTime.f TimerOk
  rw [e1]
  simp only [in_same, in_some, Option.bind_some]
  generalize rd_T34 l (i : Int) = x
  by_cases h0 : 0 ≤ x.f0 ∧ x.f0 ≤ 999
  · by_cases h1 : a + 1 ≤ x.f1 ∧ x.f1 ≤ 200000
    · by_cases h2 : 0 ≤ x.f2 ∧ x.f2 ≤ 100000
      · by_cases h3 : 1 ≤ x.f3 ∧ x.f3 ≤ 1000
        · rw [decide_eq_true h0, if_pos rfl, decide_eq_true h1, if_pos rfl, decide_eq_true h2, if_pos rfl, decide_eq_true h3, if_pos rfl]
          by_cases hz : x.f2 > 0
          · rw [if_pos hz]; exact ⟨_, rfl, ⟨fun _ => ⟨h0, h1, h2, h3, fun h => by omega⟩, fun _ => rfl⟩⟩
          · rw [if_neg hz]
            refine ⟨_, rfl, ⟨fun h => ⟨h0, h1, h2, h3, fun _ => by simpa using h⟩, fun h => ?_⟩⟩
            rw [h.2.2.2.2 (by omega)]; rfl
        · rw [decide_eq_true h0, if_pos rfl, decide_eq_true h1, if_pos rfl, decide_eq_true h2, if_pos rfl, decide_eq_false h3, if_neg (by decide)]
          exact ⟨_, rfl, ⟨fun h => (by cases h), fun h => absurd h.2.2.2.1 h3⟩⟩
      · rw [decide_eq_true h0, if_pos rfl, decide_eq_true h1, if_pos rfl, decide_eq_false h2, if_neg (by decide)]
        exact ⟨_, rfl, ⟨fun h => (by cases h), fun h => absurd h.2.2.1 h2⟩⟩
    · rw [decide_eq_true h0, if_pos rfl, decide_eq_false h1, if_neg (by decide)]
      exact ⟨_, rfl, ⟨fun h => (by cases h), fun h => absurd h.2.1 h1⟩⟩
  · rw [decide_eq_false h0, if_neg (by decide)]
    exact ⟨_, rfl, ⟨fun h => (by cases h), fun h => absurd h.1 h0⟩⟩
theorem clock_impl (a : Int) (l : List S34) (t : Bool) (ht : t = true ↔ ClockOk a l) : Ev (fun k => impl_GoodClock.f k a l) t := by
  have j0t : Ev (fun k => impl_GoodClock.j0 k true a l) false := st_impl_GoodClock_j0 (ev_pos rfl (ev_some rfl))
  have no : ¬ ClockOk a l → t = false := bool_false ht
  have time : impl_isTime.f a = some (decide (0 ≤ a ∧ a ≤ 100000)) := by unfold impl_isTime.f; rw [in_same, in_some]; rfl
  refine ev_bindc time (ev_ite (fun ha => ?_) fun ha => by rw [no (fun h => ha (decide_eq_true h.1))]; exact j0t)
  have ha := of_decide_eq_true ha
  by_cases hn : (l.length : Int) > 20
  · rw [decide_eq_true hn, no (fun h => by have := h.2.1; omega)]; exact j0t
  rw [decide_eq_false hn]
  refine st_impl_GoodClock_j0 (ev_neg (by decide) ?_)
  refine ev_all l.length (fun k i => impl_GoodClock.l0 k l (l.length : Int) (i : Int) a l) (StandOk a l) true t ?_ ?_ ?_ ?_
  · rw [ht]; unfold ClockOk; exact ⟨fun h => ⟨rfl, h.2.2⟩, fun h => ⟨ha, by omega, h.2⟩⟩
  · exact st_impl_GoodClock_l0 (ev_neg (by omega) (ev_some rfl))
  · intro i hi _ ⟨h4, h5⟩ r hr
    obtain ⟨c, hc, hc'⟩ := timer_impl a ha l i
    obtain rfl := hc'.2 h4
    have e2 : wrap64 ((i : Int) - 1) = (i : Int) - 1 := w64 (by omega) (by omega)
    refine st_impl_GoodClock_l0 (ev_pos (by omega) (ev_pos (by omega) (ev_pos (by omega) (ev_bindc hc (ev_pos rfl ?_)))))
    rw [e2]
    refine ev_ite (fun hi0 => ev_pos (by omega) (ev_pos (by omega) ?_)) fun hi0 => ?_
    · refine ev_neg (by have := h5 (by omega); omega) ?_
      rw [w64s i (by omega)]; exact hr
    · rw [w64s i (by omega)]; exact hr
  · intro i hi _ ho
    obtain ⟨c, hc, hc'⟩ := timer_impl a ha l i
    have e2 : wrap64 ((i : Int) - 1) = (i : Int) - 1 := w64 (by omega) (by omega)
    have bad : Ev (fun _ => some false) false := ev_some rfl
    refine st_impl_GoodClock_l0 (ev_pos (by omega) (ev_pos (by omega) (ev_pos (by omega) (ev_bindc hc (ev_ite (fun h0 => ?_) fun _ => bad)))))
    rw [e2]
    refine ev_ite (fun hi0 => ev_pos (by omega) (ev_pos (by omega) ?_)) fun hi0 => ?_
    · by_cases h5 : (rd_T34 l ((i : Int) - 1)).f0 ≥ (rd_T34 l (i : Int)).f0
      · exact ev_pos h5 bad
      · exact absurd ⟨hc'.1 h0, fun _ => by omega⟩ ho
    · exact absurd ⟨hc'.1 h0, fun h => by omega⟩ ho
theorem clock_rise {a : Int} {l : List S34} (h : ClockOk a l) : ∀ d i : Nat, i + d + 1 < l.length → (rd_T34 l (i : Int)).f0 < (rd_T34 l ((i + d + 1 : Nat) : Int)).f0 := by
  intro d
  induction d with
  | zero =>
    intro i hi
    have := (h.2.2 (i + 1) (by omega)).2 (by omega)
    have e : (((i + 1 : Nat) : Int) - 1) = (i : Int) := by omega
    rw [e] at this
    exact this
  | succ d ih =>
    intro i hi
    have h1 := ih i (by omega)
    have h2 := (h.2.2 (i + d + 1 + 1) (by omega)).2 (by omega)
    have e : (((i + d + 1 + 1 : Nat) : Int) - 1) = ((i + d + 1 : Nat) : Int) := by omega
    rw [e] at h2
    exact Int.lt_trans h1 h2
theorem clock_rises {a : Int} {l : List S34} (h : ClockOk a l) (i j : Nat) (hij : i < j) (hj : j < l.length) : (rd_T34 l (i : Int)).f0 < (rd_T34 l (j : Int)).f0 := by
  obtain ⟨d, rfl⟩ : ∃ d, j = i + d + 1 := ⟨j - i - 1, by omega⟩
  exact clock_rise h d i hj
theorem rd_timer (l : List S34) (i : Nat) (h : i < l.length) : rd_T34 l (i : Int) = l[i] := by
  simp [rd_T34, List.getD_eq_getElem?_getD, h]
theorem place_ev (a : Int) (l : List S34) (h : ClockOk a l) (id : Int) (hid : 0 ≤ id ∧ id ≤ 999) :
    ∃ p : Nat, p ≤ l.length ∧ (∀ i : Nat, i < p → i < l.length → (rd_T34 l (i : Int)).f0 < id) ∧ (∀ i : Nat, p ≤ i → i < l.length → id ≤ (rd_T34 l (i : Int)).f0) ∧
      Ev (fun k => impl_Clock_place.f k a l id) ((p : Int), decide (p < l.length ∧ (rd_T34 l (p : Int)).f0 = id)) := by
  have hl := h.2.1
  have hr : ∀ i : Nat, i < l.length → 0 ≤ (rd_T34 l (i : Int)).f0 ∧ (rd_T34 l (i : Int)).f0 ≤ 999 := fun i hi => (h.2.2 i hi).1.1
  have hw : ∀ i : Nat, i < l.length → wrap64 ((rd_T34 l (i : Int)).f0 - id) = (rd_T34 l (i : Int)).f0 - id := fun i hi => by have := hr i hi; exact w64 (by omega) (by omega)
  obtain ⟨p, h1, h2, h3, h4⟩ := ev_search slices_BinarySearchFunc_w55.l0 (fun _ xs i x => impl_Clock_place_1.f ((rd_T34 xs i).f0) ((rd_T34 xs i).f1) ((rd_T34 xs i).f2) ((rd_T34 xs i).f3) x) (fun _ _ _ _ _ _ => rfl) l id (by omega)
    (fun i => wrap64 ((rd_T34 l (i : Int)).f0 - id)) (fun i _ => ev_some rfl) (fun i j hij hj h0 => by
      have q := clock_rises h i j hij hj
      have g1 := hw i (by omega)
      have g2 := hw j hj
      omega)
  refine ⟨p, h1, fun i hi hi' => by have := h2 i hi; have g := hw i hi'; omega, fun i hi hi' => by have := h3 i hi hi'; have g := hw i hi'; omega, ?_⟩
  refine Ev.bind h4 (ev_some ?_)
  simp only [Prod.mk.injEq, true_and]
  by_cases hp : p < l.length
  · have g := hw p hp
    rw [g]
    have : ((rd_T34 l (p : Int)).f0 - id = 0) ↔ ((rd_T34 l (p : Int)).f0 = id) := by omega
    simp only [this]
  · simp [hp]
theorem markClock_ev (a : Int) {l ys : List S34} {c d : Int} (h : Ev (fun k => laws_markTimerS.f k l c) (d, ys)) : Ev (fun k => laws_markClock.f k a l c) (d, ys) := Ev.bind h (ev_some rfl)
theorem heldClock_ev (a : Int) {l : List S34} {c d : Int} (hd : 0 ≤ d) (h : Ev (fun k => laws_heldTimerS.f k l c) d) : Ev (fun k => laws_heldClock.f k a l c) d := Ev.bind h (ev_neg (by omega) (ev_some rfl))
theorem spot (l : List S34) (id : Int) : ∃ p : Nat, p ≤ l.length ∧ (∀ i : Nat, i < p → (rd_T34 l (i : Int)).f0 < id) ∧ (p < l.length → id ≤ (rd_T34 l (p : Int)).f0) := by
  have h : ∀ n : Nat, n ≤ l.length → (∀ i : Nat, i < n → (rd_T34 l (i : Int)).f0 < id) ∨ ∃ p : Nat, p < n ∧ (∀ i : Nat, i < p → (rd_T34 l (i : Int)).f0 < id) ∧ id ≤ (rd_T34 l (p : Int)).f0 := by
    intro n
    induction n with
    | zero => intro _; exact .inl (fun i hi => by omega)
    | succ n ih =>
      intro hn
      rcases ih (by omega) with h | ⟨p, hp, h1, h2⟩
      · by_cases hc : (rd_T34 l (n : Int)).f0 < id
        · refine .inl (fun i hi => ?_)
          rcases Nat.lt_or_ge i n with h' | h'
          · exact h i h'
          · obtain rfl : i = n := by omega
            exact hc
        · exact .inr ⟨n, by omega, h, by omega⟩
      · exact .inr ⟨p, by omega, h1, h2⟩
  rcases h l.length (Nat.le_refl _) with h | ⟨p, hp, h1, h2⟩
  · exact ⟨l.length, Nat.le_refl _, h, fun hh => by omega⟩
  · exact ⟨p, by omega, h1, fun _ => h2⟩
def put (l : List S34) (p e : Nat) (x : S34) : List S34 := l.take p ++ [x] ++ l.drop (p + e)
def same1 (l : List S34) (p : Nat) (id : Int) : Nat := if p < l.length ∧ (rd_T34 l (p : Int)).f0 = id then 1 else 0
theorem put_length (l : List S34) (p e : Nat) (x : S34) (hp : p ≤ l.length) : (put l p e x).length ≤ l.length + 1 := by
  simp only [put, List.length_append, List.length_take, List.length_drop, List.length_singleton]; omega
theorem put_at (l : List S34) (p e : Nat) (x : S34) (hp : p ≤ l.length) : p < (put l p e x).length ∧ rd_T34 (put l p e x) (p : Int) = x := by
  have hl : (l.take p).length = p := by rw [List.length_take]; omega
  have h1 : p < (put l p e x).length := by simp only [put, List.length_append, hl, List.length_singleton]; omega
  refine ⟨h1, ?_⟩
  rw [rd_timer _ p h1]
  simp only [put, List.append_assoc]
  rw [List.getElem_append_right (by omega)]
  simp [hl]
def outOf (a : Int) (l : List S34) (t : Bool) : Int × List S34 × Bool := if t = true then (a, l, true) else (0, [], false)
theorem add_spec (a : Int) (l : List S34) (hok : ClockOk a l) (x : S34) (p : Nat) (hp : p ≤ l.length) (h1 : ∀ i : Nat, i < p → (rd_T34 l (i : Int)).f0 < x.f0) (h2 : p < l.length → x.f0 ≤ (rd_T34 l (p : Int)).f0) (t : Bool) (ht : t = true ↔ ClockOk a (put l p (same1 l p x.f0) x)) :
    Ev (fun k => spec_AddTimer.l0 k [] false l (l.length : Int) 0 a l x.f0 x.f1 x.f2 x.f3) (outOf a (put l p (same1 l p x.f0) x) t) := by
  have hl := hok.2.1
  have hpl := put_length l p (same1 l p x.f0) x hp
  have hgood := clock_spec a (put l p (same1 l p x.f0) x) t ht
  refine ev_for1 l.length (fun k i (s : List S34 × Bool) => spec_AddTimer.l0 k s.1 s.2 l (l.length : Int) (i : Int) a l x.f0 x.f1 x.f2 x.f3) (fun i s => s = if i ≤ p then (l.take i, false) else (l.take p ++ [x] ++ (l.take i).drop (p + same1 l p x.f0), true)) _ ?_ ?_ 0 ([], false) (Nat.zero_le _) (by rw [if_pos (Nat.zero_le _)]; rfl)
  · intro s hs
    have hfin : ∀ r : Bool, Ev (fun k => (spec_GoodClock.f k a (put l p (same1 l p x.f0) x)).bind fun t131 => (if t131 = true then (some (a, put l p (same1 l p x.f0) x, true)) else (some (0, ([] : List (S34)), false)))) (outOf a (put l p (same1 l p x.f0) x) t) := fun _ => by
      refine Ev.bind hgood ?_
      unfold outOf
      cases t
      · exact ev_neg (by decide) (ev_some rfl)
      · exact ev_pos rfl (ev_some rfl)
    by_cases hpl' : l.length ≤ p
    · obtain rfl : p = l.length := by omega
      rw [if_pos (Nat.le_refl _), List.take_length] at hs
      subst hs
      have e : put l l.length (same1 l l.length x.f0) x = l ++ [x] := by
        unfold put
        rw [List.take_length, List.drop_eq_nil_of_le (by omega), List.append_nil]
      have hfin := hfin true
      rw [e] at hfin ⊢
      exact st_spec_AddTimer_l0 (ev_neg (by omega) (ev_neg (by simp) (ev_pos (by show l.length < _; omega) (ev_bindc rfl hfin))))
    · rw [if_neg hpl', List.take_length] at hs
      subst hs
      exact st_spec_AddTimer_l0 (ev_neg (by omega) (ev_pos rfl (hfin true)))
  · intro i s hi hs
    subst hs
    have hx := rd_timer l i hi
    have ei : (⟨(rd_T34 l (i : Int)).f0, (rd_T34 l (i : Int)).f1, (rd_T34 l (i : Int)).f2, (rd_T34 l (i : Int)).f3⟩ : S34) = l[i] := by rw [hx]
    have htk : l.take (i + 1) = l.take i ++ [l[i]] := List.take_succ_eq_append_getElem hi
    refine .inr ⟨_, rfl, fun r hr => ?_⟩
    rcases Nat.lt_trichotomy i p with hip | hip | hip
    · rw [if_pos (show i + 1 ≤ p by omega)] at hr
      rw [if_pos (show i ≤ p by omega)]
      have hlt := h1 i hip
      refine st_spec_AddTimer_l0 (ev_pos (by omega) (ev_pos (by omega) (ev_pos (by omega) (ev_neg (by simp) ?_))))
      rw [decide_eq_false (by omega)]
      show Ev (fun k => spec_AddTimer.j1 k (l.take i) false l (l.length : Int) (i : Int) false a l x.f0 x.f1 x.f2 x.f3 _ _ _ _) r
      refine st_spec_AddTimer_j1 (ev_neg (by decide) (ev_neg (by omega) (ev_pos (by rw [List.length_take]; omega) ?_)))
      rw [w64s i (by omega), ei, ← htk]
      exact hr
    · subst hip
      rw [if_neg (show ¬ i + 1 ≤ i by omega)] at hr
      rw [if_pos (Nat.le_refl i)]
      have hge := h2 hi
      refine st_spec_AddTimer_l0 (ev_pos (by omega) (ev_pos (by omega) (ev_pos (by omega) (ev_neg (by simp) ?_))))
      rw [decide_eq_true (by omega)]
      show Ev (fun k => spec_AddTimer.j1 k (l.take i) false l (l.length : Int) (i : Int) true a l x.f0 x.f1 x.f2 x.f3 _ _ _ _) r
      refine st_spec_AddTimer_j1 (ev_pos rfl (ev_pos (by rw [List.length_take]; omega) (ev_bindc rfl ?_)))
      by_cases he : (rd_T34 l (i : Int)).f0 = x.f0
      · refine ev_pos he ?_
        have e1 : same1 l i x.f0 = 1 := if_pos ⟨hi, he⟩
        rw [e1, List.drop_eq_nil_of_le (by rw [List.length_take]; omega), List.append_nil] at hr
        rw [w64s i (by omega)]
        exact hr
      · refine ev_neg he (ev_pos (by rw [List.length_append, List.length_take]; simp; omega) ?_)
        have e1 : same1 l i x.f0 = 0 := if_neg (fun h => he h.2)
        rw [e1, Nat.add_zero, htk, List.drop_left' (by rw [List.length_take]; omega)] at hr
        rw [w64s i (by omega), ei]
        exact hr
    · rw [if_neg (show ¬ i + 1 ≤ p by omega)] at hr
      rw [if_neg (show ¬ i ≤ p by omega)]
      have hr1 := clock_rises hok p i hip hi
      have hge := h2 (by omega)
      have e2 : same1 l p x.f0 ≤ 1 := by unfold same1; split <;> omega
      refine st_spec_AddTimer_l0 (ev_pos (by omega) (ev_pos (by omega) (ev_pos (by omega) (ev_pos rfl ?_))))
      show Ev (fun k => spec_AddTimer.j1 k (l.take p ++ [x] ++ (l.take i).drop (p + same1 l p x.f0)) true l (l.length : Int) (i : Int) false a l x.f0 x.f1 x.f2 x.f3 _ _ _ _) r
      refine st_spec_AddTimer_j1 (ev_neg (by decide) (ev_neg (by omega) (ev_pos (by simp only [List.length_append, List.length_take, List.length_drop, List.length_singleton]; omega) ?_)))
      rw [htk, List.drop_append_of_le_length (by rw [List.length_take]; omega), ← List.append_assoc] at hr
      rw [w64s i (by omega), ei]
      exact hr
theorem same (a : Int) (l : List S34) (hl : l.length ≤ 1048576) (x : S34) : ∃ (b : Int) (m : List S34) (t : Bool), Ev (fun k => spec_AddTimer.f k a l x.f0 x.f1 x.f2 x.f3) (b, m, t) ∧ Ev (fun k => impl_AddTimer.f k a l x.f0 x.f1 x.f2 x.f3) (b, m, t) ∧ m.length ≤ 21 := by
  obtain ⟨t, ht⟩ := bool_of (ClockOk a l)
  cases t with
  | false => exact ⟨0, [], false, Ev.bind (clock_spec a l false ht) (ev_neg (by decide) (ev_some rfl)), Ev.bind (clock_impl a l false ht) (ev_neg (by decide) (st_impl_AddTimer_j0 (ev_pos rfl (ev_some rfl)))), by simp⟩
  | true =>
    have hok := ht.1 rfl
    have hl20 := hok.2.1
    have e0 : rd_T34 [x] ((0 : Nat) : Int) = x := rd_timer [x] 0 (by simp)
    obtain ⟨c, hc, hcT⟩ := timer_impl a hok.1 [x] 0
    rw [e0] at hc
    cases c with
    | false =>
      obtain ⟨p, hp, h1, h2⟩ := spot l x.f0
      have hpa := put_at l p (same1 l p x.f0) x hp
      have hno : ¬ ClockOk a (put l p (same1 l p x.f0) x) := fun h => by
        have h3 := (h.2.2 p hpa.1).1
        have : TimerOk a [x] 0 := by
          unfold TimerOk at h3 ⊢
          rw [hpa.2] at h3
          rw [e0]
          exact h3
        have := hcT.2 this
        cases this
      have hs := add_spec a l hok x p hp h1 h2 false ⟨fun h => (by cases h), fun h => absurd h hno⟩
      exact ⟨0, [], false, Ev.bind (clock_spec a l true ht) (ev_pos rfl hs), Ev.bind (clock_impl a l true ht) (ev_pos rfl (ev_bindc hc (st_impl_AddTimer_j0 (ev_pos rfl (ev_some rfl))))), by simp⟩
    | true =>
      have hT := hcT.1 rfl
      unfold TimerOk at hT
      rw [e0] at hT
      obtain ⟨p, hp, h1, h2, h4⟩ := place_ev a l hok x.f0 hT.1
      obtain ⟨t2, ht2⟩ := bool_of (ClockOk a (put l p (same1 l p x.f0) x))
      have hs := add_spec a l hok x p hp (fun i hi => h1 i hi (by omega)) (fun h => h2 p (Nat.le_refl _) h) t2 ht2
      have hgood := clock_impl a _ t2 ht2
      have hlen := put_length l p (same1 l p x.f0) x hp
      have hfin : Ev (fun k => (impl_GoodClock.f k a (put l p (same1 l p x.f0) x)).bind fun t187 => (if t187 = true then (some (a, put l p (same1 l p x.f0) x, true)) else (some (0, ([] : List (S34)), false)))) (outOf a (put l p (same1 l p x.f0) x) t2) := by
        refine Ev.bind hgood ?_
        unfold outOf
        cases t2
        · exact ev_neg (by decide) (ev_some rfl)
        · exact ev_pos rfl (ev_some rfl)
      have c1 : impl_Timer_27.f l = some l := if_pos (by omega)
      have hi : Ev (fun k => impl_AddTimer.f k a l x.f0 x.f1 x.f2 x.f3) (outOf a (put l p (same1 l p x.f0) x) t2) := by
        refine Ev.bind (clock_impl a l true ht) (ev_pos rfl (ev_bindc hc (st_impl_AddTimer_j0 (ev_neg (by decide) (ev_bindc c1 (Ev.bind h4 ?_))))))
        by_cases he : p < l.length ∧ (rd_T34 l (p : Int)).f0 = x.f0
        · have e1 : same1 l p x.f0 = 1 := if_pos he
          rw [e1] at hfin ⊢
          have e2 : l.set p x = put l p 1 x := by rw [List.set_eq_take_append_cons_drop, if_pos he.1]; simp [put]
          rw [← e2] at hfin ⊢
          exact ev_pos (decide_eq_true he) (ev_pos (by omega) (ev_pos (by omega) (ev_bindc rfl hfin)))
        · have e1 : same1 l p x.f0 = 0 := if_neg he
          rw [e1] at hfin hlen ⊢
          have c2 : impl_Timer_29.f l (p : Int) [x] = some (put l p 0 x) := by
            unfold impl_Timer_29.f
            rw [if_pos (by omega), if_pos (by omega), if_pos (by simp), if_pos (by omega)]
            rfl
          exact ev_neg (by simpa using he) (ev_bindc c2 hfin)
      cases t2 with
      | false => exact ⟨0, [], false, Ev.bind (clock_spec a l true ht) (ev_pos rfl hs), hi, by simp⟩
      | true => exact ⟨a, _, true, Ev.bind (clock_spec a l true ht) (ev_pos rfl hs), hi, by omega⟩
theorem FnExactAddTimer : ∀ (a0_0 : Int) (l0_1 : List (S26)) (a1_0 : Int) (a1_1 : Int) (a1_2 : Int) (a1_3 : Int), (In64 a0_0) → (l0_1.length * 32 ≤ 140737488351232 ∧ ∀ y ∈ l0_1, Ok26 y) → (In64 a1_0) → (In64 a1_1) → (In64 a1_2) → (In64 a1_3) → ∃ k, laws_FnExactAddTimer.f k a0_0 l0_1 a1_0 a1_1 a1_2 a1_3 = some true := by
  intro a xs i0 i1 i2 i3 ga gl _ _ _ _
  refine Ev.rounds (g := fun k => laws_FnExactAddTimer.f k a xs i0 i1 i2 i3) ?_
  obtain ⟨r, hr, h | ⟨h0, h1, hx⟩⟩ := szClock_some a xs ga gl 1048576 (by omega) (by omega)
  · exact Ev.bind hr (ev_pos h (ev_some rfl))
  · have tx := toClock_ev a xs hx
    have hx' : (xs.map cv26).length ≤ 1048576 := by rw [List.length_map]; exact hx
    obtain ⟨b, m, t, hs, hi, hm⟩ := same a (xs.map cv26) hx' ⟨i0, i1, i2, i3⟩
    obtain ⟨y1, d1, _, p0, _, _, hm1⟩ := markTimerS_ev (xs.map cv26) hx' 1 (by omega) (by omega)
    obtain ⟨y2, d2, hch, q0, q1, ml, hm2⟩ := markTimerS_ev m (by omega) 1 (by omega) (by omega)
    have hh := heldClock_ev b (by omega) (heldTimerS_ev y2 (by omega) 1 d2 (by omega) (by omega) hch)
    have hm1 := markClock_ev a hm1
    have hm2 := markClock_ev b hm2
    have ee := eqClock_ev b m (by omega)
    have ex := eqClock_ev a (xs.map cv26) hx'
    have et : (t != t) = false := by simp
    refine Ev.bind hr (ev_neg (by omega) (Ev.bind tx (ev_bindc rfl (Ev.bind hs (Ev.bind tx (ev_bindc rfl (Ev.bind hi (Ev.bind ee (ev_pos rfl ?_)))))))))
    simp only [et]
    refine st_laws_FnExactAddTimer_j0 (ev_neg (by decide) (Ev.bind tx (Ev.bind ex (ev_pos rfl (Ev.bind hm1 (ev_neg (by omega) (Ev.bind ee (ev_pos rfl ?_))))))))
    simp only [et]
    refine st_laws_FnExactAddTimer_j1 (ev_neg (by decide) (Ev.bind hm2 (Ev.bind hh (ev_neg (by omega) (ev_pos rfl (Ev.bind tx (ev_bindc rfl (Ev.bind hi (Ev.bind ee (ev_pos rfl ?_))))))))))
    simp only [et]
    exact st_laws_FnExactAddTimer_j2 (ev_neg (by decide) (Ev.bind hh (ev_neg (by omega) (ev_pos rfl (ev_some rfl)))))
end Go.Proofs.Ytjmcahjcgfflgaa.Pure
