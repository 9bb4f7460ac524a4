/- Texts of the row of the law FnExactSparksAt, laid together. -/
import Derived.Test.YthgfobcckoedaaaZFnExactSparksAt3
import Derived.Test.YthgfobcckoedaaaZFnExactSparksAt4
import Derived.Test.YthgfobcckoedaaaZFnExactSparksAt5
import Derived.Test.YthgfobcckoedaaaZFnExactSparksAt0
import Derived.SizedLaws
import Derived.ChangeArms
import Derived.OpenShut
import Derived.WideShapes
import Derived.WalkKit
import Derived.KernelRfl
import Derived.Laws.BitsLemmas
namespace Go.Proofs.Ythgfobcckoedaaa.PFnExactSparksAt
open Go.RowKit Go.Proofs.YthgfobcckoedaaaW.PrintWords Go.Proofs.YthgfobcckoedaaaW.PrintLast Go.Proofs.YthgfobcckoedaaaW.PrintMore
attribute [local go_sem] max2_int min2_int max_two min_two max_three min_three max_four min_four   -- for this text's walks alone
set_option linter.unusedVariables false
set_option linter.unusedSimpArgs false
mutual
def impl_RunCloud.j0 : Nat → Int → Bool → Int → Int → Int → Int → Int → Int → Int → Int → Int → List (S48) → Option (Int × Int × (List (S48)) × Bool)
 | 0, _, _, _, _, _, _, _, _, _, _, _, _ => none
 | k + 1, x2, x25, x289000, x289001, x289002, x289003, x289004, x289005, x289006, x290000, x290001, x290002 => if x25 = true then (some (0, 0, ([] : List (S48)), false)) else ((impl_Spark_33.f x290002).bind fun t294 => (impl_RunCloud.l0 k x2 0 x289000 x289001 x289002 x289003 x289004 x289005 x289006 x290000 x290001 t294))
def impl_RunCloud.l0 : Nat → Int → Int → Int → Int → Int → Int → Int → Int → Int → Int → Int → List (S48) → Option (Int × Int × (List (S48)) × Bool)
 | 0, _, _, _, _, _, _, _, _, _, _, _, _ => none
 | k + 1, x35, x36, x289000, x289001, x289002, x289003, x289004, x289005, x289006, x298000, x298001, x298002 => if x36 < x35 then ((impl_Emitter_step.f k x289000 x289001 x289002 x289003 x289004 x289005 x289006 x298000 x298001 x298002).bind fun bt298 => (if bt298.2.2.2 = true then (impl_RunCloud.l0 k x35 (wrap64 (x36 + 1)) x289000 x289001 x289002 x289003 x289004 x289005 x289006 bt298.1 bt298.2.1 bt298.2.2.1) else (some (0, 0, ([] : List (S48)), false)))) else (some (x298000, x298001, x298002, true))
end
def impl_RunCloud.f (k : Nat) (a0_0 : Int) (a0_1 : Int) (a0_2 : Int) (a0_3 : Int) (a0_4 : Int) (a0_5 : Int) (a0_6 : Int) (a1_0 : Int) (a1_1 : Int) (l1_2 : List (S48)) (a2 : Int) : Option (Int × Int × (List (S48)) × Bool) := (impl_GoodEmitter.f a0_0 a0_1 a0_2 a0_3 a0_4 a0_5 a0_6).bind fun t291 => (if t291 = true then ((impl_GoodCloud.f k a1_0 a1_1 l1_2).bind fun t292 => (if t292 = true then ((impl_inRange.f a2 0 (wrap64 (200 - a1_1))).bind fun t293 => (impl_RunCloud.j0 k a2 (!t293) a0_0 a0_1 a0_2 a0_3 a0_4 a0_5 a0_6 a1_0 a1_1 l1_2)) else (impl_RunCloud.j0 k a2 true a0_0 a0_1 a0_2 a0_3 a0_4 a0_5 a0_6 a1_0 a1_1 l1_2))) else (impl_RunCloud.j0 k a2 true a0_0 a0_1 a0_2 a0_3 a0_4 a0_5 a0_6 a1_0 a1_1 l1_2))
theorem impl_RunCloud.mono_l : ∀ k, (∀ y0 y1 y2 y3 y4 y5 y6 y7 y8 y9 y10 y11, LeO (impl_RunCloud.j0 k y0 y1 y2 y3 y4 y5 y6 y7 y8 y9 y10 y11) (impl_RunCloud.j0 (k + 1) y0 y1 y2 y3 y4 y5 y6 y7 y8 y9 y10 y11)) ∧ (∀ y0 y1 y2 y3 y4 y5 y6 y7 y8 y9 y10 y11, LeO (impl_RunCloud.l0 k y0 y1 y2 y3 y4 y5 y6 y7 y8 y9 y10 y11) (impl_RunCloud.l0 (k + 1) y0 y1 y2 y3 y4 y5 y6 y7 y8 y9 y10 y11))
 | 0 => ⟨fun _ _ _ _ _ _ _ _ _ _ _ _ r h => by simp [impl_RunCloud.j0] at h, fun _ _ _ _ _ _ _ _ _ _ _ _ r h => by simp [impl_RunCloud.l0] at h⟩
 | k + 1 => by
  obtain ⟨ih0, ih1⟩ := impl_RunCloud.mono_l k
  refine ⟨?_, ?_⟩
  ·intro y0 y1 y2 y3 y4 y5 y6 y7 y8 y9 y10 y11
   unfold impl_RunCloud.j0
   repeat' first
   | (with_reducible exact ih0 _ _ _ _ _ _ _ _ _ _ _ _)
   | (with_reducible exact ih1 _ _ _ _ _ _ _ _ _ _ _ _)
   | (with_reducible exact impl_Emitter_step.mono _ _ _ _ _ _ _ _ _ _ _)
   | (with_reducible exact impl_GoodCloud.mono _ _ _ _)
   | (with_reducible exact LeO.refl _)
   | (with_reducible exact LeO.none _)
   | (with_reducible refine LeO.ite ?_ ?_)
   | (with_reducible refine LeO.bind ?_ (fun _ => ?_))
   | exact ih0 _ _ _ _ _ _ _ _ _ _ _ _
   | exact ih1 _ _ _ _ _ _ _ _ _ _ _ _
   | exact impl_Emitter_step.mono _ _ _ _ _ _ _ _ _ _ _
   | exact impl_GoodCloud.mono _ _ _ _
   | exact LeO.none _
   | refine LeO.ite ?_ ?_
   | refine LeO.bind ?_ (fun _ => ?_)
  ·intro y0 y1 y2 y3 y4 y5 y6 y7 y8 y9 y10 y11
   unfold impl_RunCloud.l0
   repeat' first
   | (with_reducible exact ih0 _ _ _ _ _ _ _ _ _ _ _ _)
   | (with_reducible exact ih1 _ _ _ _ _ _ _ _ _ _ _ _)
   | (with_reducible exact impl_Emitter_step.mono _ _ _ _ _ _ _ _ _ _ _)
   | (with_reducible exact impl_GoodCloud.mono _ _ _ _)
   | (with_reducible exact LeO.refl _)
   | (with_reducible exact LeO.none _)
   | (with_reducible refine LeO.ite ?_ ?_)
   | (with_reducible refine LeO.bind ?_ (fun _ => ?_))
   | exact ih0 _ _ _ _ _ _ _ _ _ _ _ _
   | exact ih1 _ _ _ _ _ _ _ _ _ _ _ _
   | exact impl_Emitter_step.mono _ _ _ _ _ _ _ _ _ _ _
   | exact impl_GoodCloud.mono _ _ _ _
   | exact LeO.none _
   | refine LeO.ite ?_ ?_
   | refine LeO.bind ?_ (fun _ => ?_)
theorem impl_RunCloud.mono : ∀ a0 a1 a2 a3 a4 a5 a6 a7 a8 a9 a10 k, LeO (impl_RunCloud.f k a0 a1 a2 a3 a4 a5 a6 a7 a8 a9 a10) (impl_RunCloud.f (k + 1) a0 a1 a2 a3 a4 a5 a6 a7 a8 a9 a10) := by
 intro a0 a1 a2 a3 a4 a5 a6 a7 a8 a9 a10 k
 obtain ⟨ih0, ih1⟩ := impl_RunCloud.mono_l k
 unfold impl_RunCloud.f
 repeat' first
   | (with_reducible exact ih0 _ _ _ _ _ _ _ _ _ _ _ _)
   | (with_reducible exact ih1 _ _ _ _ _ _ _ _ _ _ _ _)
   | (with_reducible exact impl_Emitter_step.mono _ _ _ _ _ _ _ _ _ _ _)
   | (with_reducible exact impl_GoodCloud.mono _ _ _ _)
   | (with_reducible exact LeO.refl _)
   | (with_reducible exact LeO.none _)
   | (with_reducible refine LeO.ite ?_ ?_)
   | (with_reducible refine LeO.bind ?_ (fun _ => ?_))
   | exact ih0 _ _ _ _ _ _ _ _ _ _ _ _
   | exact ih1 _ _ _ _ _ _ _ _ _ _ _ _
   | exact impl_Emitter_step.mono _ _ _ _ _ _ _ _ _ _ _
   | exact impl_GoodCloud.mono _ _ _ _
   | exact LeO.none _
   | refine LeO.ite ?_ ?_
   | refine LeO.bind ?_ (fun _ => ?_)
def impl_RunCloud.T3 : Bool × List (List Nat × List Nat) := (true, [([], []), ([0], [0]), ([], []), ([2], [2]), ([], []), ([4], [4]), ([5], [5]), ([1, 3, 6], [1, 3, 6]), ([], []), ([8, 7, 6, 0, 1, 2, 3, 4, 5, 6, 7, 8], [7, 8]), ([9, 0, 1, 2, 3, 4, 5, 6, 7, 8, 9], [])])
def impl_RunCloud.B3 : List Nat := [0, 1, 0, 4, 0, 16, 48, 127, 0, 511, 1023]
theorem impl_RunCloud.tab3 : rtab .any (opsOf Try.f17 3) = impl_RunCloud.T3 := by kernel_rfl
theorem impl_RunCloud.bits3 : waitsOk impl_RunCloud.T3.2 impl_RunCloud.B3 = true := by kernel_rfl
set_option maxHeartbeats 8000000 in
set_option maxRecDepth 100000 in
theorem impl_RunCloud.calls (k : Nat) (a0_0 : Int) (a0_1 : Int) (a0_2 : Int) (a0_3 : Int) (a0_4 : Int) (a0_5 : Int) (a0_6 : Int) (a1_0 : Int) (a1_1 : Int) (A1_2 : Option Addr) (c1_2 : Nat) (l1_2 : List (S48)) (a2 : Int) (r1 : Int) (r2 : Int) (r3 : List (S48)) (r4 : Bool) (w : World) (hr1_2 : Kd.C k48 w A1_2 l1_2.length l1_2) (hc1_2 : l1_2.length ≤ c1_2) (h : impl_RunCloud.f k a0_0 a0_1 a0_2 a0_3 a0_4 a0_5 a0_6 a1_0 a1_1 l1_2 a2 = some (r1, r2, r3, r4)) :
  Calls Try.prog 17 #[.agg #[.int .i64 a0_0, .int .i64 a0_1, .int .i64 a0_2, .int .i64 a0_3, .int .i64 a0_4, .int .i64 a0_5, .int .i64 a0_6], .agg #[.int .i64 a1_0, .int .i64 a1_1, .slice A1_2 l1_2.length c1_2], .int .i64 a2] w fun e w' => ∃ v2_ : Value, e = .returned (.tuple #[.agg #[.int .i64 r1, .int .i64 r2, v2_], .bool r4]) ∧ Kd.R k48 48 w' w.heap.size (fun _ => True) v2_ r3 ∧ Below w.heap.size w w' := by
 have hu26 := Try.underlying26
 have hu35 := Try.underlying35
 have HR1_2 := Aside0.mk hr1_2
 have HC1_2 := Aside0.mk hc1_2
 clear hr1_2 hc1_2
 have HB := Aside0.mk (Below.refl w.heap.size w)
 have H : ((impl_GoodEmitter.f a0_0 a0_1 a0_2 a0_3 a0_4 a0_5 a0_6).bind fun t291 => (if t291 = true then ((impl_GoodCloud.f k a1_0 a1_1 l1_2).bind fun t292 => (if t292 = true then ((impl_inRange.f a2 0 (wrap64 (200 - a1_1))).bind fun t293 => (impl_RunCloud.j0 k a2 (!t293) a0_0 a0_1 a0_2 a0_3 a0_4 a0_5 a0_6 a1_0 a1_1 l1_2)) else (impl_RunCloud.j0 k a2 true a0_0 a0_1 a0_2 a0_3 a0_4 a0_5 a0_6 a1_0 a1_1 l1_2))) else (impl_RunCloud.j0 k a2 true a0_0 a0_1 a0_2 a0_3 a0_4 a0_5 a0_6 a1_0 a1_1 l1_2))) = some (r1, r2, r3, r4) := h
 clear h
 have HC4 := Aside0.mk H
 clear H
 go_enter Try.func17, Try.ntmps17
 go_upto_region 1 with (first | ((with_reducible refine gate_dst (N := 3) rfl ?_); refine box_event rfl (N := 3) rfl (cs := #[.int .i64 a0_0, .int .i64 a0_1, .int .i64 a0_2, .int .i64 a0_3, .int .i64 a0_4, .int .i64 a0_5, .int .i64 a0_6]) (t := 26) sE ?_; intro gb288 hg w5 hbox hb; have BK288 := Aside0.mk hbox; have GW288 := gS w hg (lU); have GE288 := gS w hg (lU); replace HB := bH (lU) hb; clear hb hbox hg) | ((with_reducible refine gate_dst (N := 4) rfl ?_); refine box_event rfl (N := 4) rfl (cs := #[.int .i64 a1_0, .int .i64 a1_1, .slice A1_2 l1_2.length c1_2]) (t := 35) sE ?_; intro gb289 hg w6 hbox hb; have BK289 := Aside0.mk hbox; have GW289 := gS w hg (lV1 GE288); have GE289 := gS w hg (lV1 GE288); replace HB := bH (lV1 GE288) hb; have NB288_289 := nL hg (bV BK288); have NB289_288 := nG hg (bV BK288); replace BK288 := bB (bV BK288) hb; clear hb hbox hg) | ((with_reducible refine gate_dst (N := 6) rfl ?_); refine box_event rfl (N := 6) rfl (cs := #[.int .i64 0, .int .i64 0, .slice none 0 0]) (t := 35) sE ?_; intro gb290 hg w7 hbox hb; have BK290 := Aside0.mk hbox; have GW290 := gS w hg (lV2 GE288 GE289); have GE290 := gS w hg (lV2 GE288 GE289); replace HB := bH (lV2 GE288 GE289) hb; have NB288_290 := nL hg (bV BK288); have NB290_288 := nG hg (bV BK288); replace BK288 := bB (bV BK288) hb; have NB289_290 := nL hg (bV BK289); have NB290_289 := nG hg (bV BK289); replace BK289 := bB (bV BK289) hb; clear hb hbox hg))
 (try simp only [Act.put, List.setIfInBounds_toArray, List.set_cons_zero, List.set_cons_succ])
 go_cut [25] (fun v25 wc => ∃ (kq : Nat) (x25_3 : Bool), v25 = .bool x25_3 ∧ Aside0 (impl_RunCloud.j0 kq a2 x25_3 a0_0 a0_1 a0_2 a0_3 a0_4 a0_5 a0_6 a1_0 a1_1 l1_2 = some (r1, r2, r3, r4)) ∧ Aside0 (kq ≤ k) ∧ Aside0 (wc.heap[gb288]? = some (.cells #[.int .i64 a0_0, .int .i64 a0_1, .int .i64 a0_2, .int .i64 a0_3, .int .i64 a0_4, .int .i64 a0_5, .int .i64 a0_6] 26 (0, 0))) ∧ Aside0 (wc.heap[gb289]? = some (.cells #[.int .i64 a1_0, .int .i64 a1_1, (.slice A1_2 l1_2.length c1_2)] 35 (0, 0))) ∧ Aside0 (wc.heap[gb290]? = some (.cells #[.int .i64 0, .int .i64 0, (.slice none 0 0)] 35 (0, 0))) ∧ Aside0 (Below w.heap.size w wc))
 case first =>
  have H := HC4.out
  clear HC4
  replace H := Option.bind_eq_some_iff.mp H
  obtain ⟨t291, A80, H⟩ := H
  replace H : (if t291 = true then ((impl_GoodCloud.f k a1_0 a1_1 l1_2).bind fun t292 => (if t292 = true then ((impl_inRange.f a2 0 (wrap64 (200 - a1_1))).bind fun t293 => (impl_RunCloud.j0 k a2 (!t293) a0_0 a0_1 a0_2 a0_3 a0_4 a0_5 a0_6 a1_0 a1_1 l1_2)) else (impl_RunCloud.j0 k a2 true a0_0 a0_1 a0_2 a0_3 a0_4 a0_5 a0_6 a1_0 a1_1 l1_2))) else (impl_RunCloud.j0 k a2 true a0_0 a0_1 a0_2 a0_3 a0_4 a0_5 a0_6 a1_0 a1_1 l1_2)) = some (r1, r2, r3, r4) := H
  have A8 := Aside0.mk A80
  clear A80
  by_cases c9 : t291 = true
  ·subst c9
   have H1 : ((impl_GoodCloud.f k a1_0 a1_1 l1_2).bind fun t292 => (if t292 = true then ((impl_inRange.f a2 0 (wrap64 (200 - a1_1))).bind fun t293 => (impl_RunCloud.j0 k a2 (!t293) a0_0 a0_1 a0_2 a0_3 a0_4 a0_5 a0_6 a1_0 a1_1 l1_2)) else (impl_RunCloud.j0 k a2 true a0_0 a0_1 a0_2 a0_3 a0_4 a0_5 a0_6 a1_0 a1_1 l1_2))) = some (r1, r2, r3, r4) := by rw [if_pos rfl] at H; exact H
   clear H
   have H := H1
   clear H1
   replace H := Option.bind_eq_some_iff.mp H
   obtain ⟨t292, A100, H⟩ := H
   replace H : (if t292 = true then ((impl_inRange.f a2 0 (wrap64 (200 - a1_1))).bind fun t293 => (impl_RunCloud.j0 k a2 (!t293) a0_0 a0_1 a0_2 a0_3 a0_4 a0_5 a0_6 a1_0 a1_1 l1_2)) else (impl_RunCloud.j0 k a2 true a0_0 a0_1 a0_2 a0_3 a0_4 a0_5 a0_6 a1_0 a1_1 l1_2)) = some (r1, r2, r3, r4) := H
   have A10 := Aside0.mk A100
   clear A100
   by_cases c11 : t292 = true
   ·subst c11
    have H1 : ((impl_inRange.f a2 0 (wrap64 (200 - a1_1))).bind fun t293 => (impl_RunCloud.j0 k a2 (!t293) a0_0 a0_1 a0_2 a0_3 a0_4 a0_5 a0_6 a1_0 a1_1 l1_2)) = some (r1, r2, r3, r4) := by rw [if_pos rfl] at H; exact H
    clear H
    have H := H1
    clear H1
    replace H := Option.bind_eq_some_iff.mp H
    obtain ⟨t293, A120, H⟩ := H
    replace H : (impl_RunCloud.j0 k a2 (!t293) a0_0 a0_1 a0_2 a0_3 a0_4 a0_5 a0_6 a1_0 a1_1 l1_2) = some (r1, r2, r3, r4) := H
    have A12 := Aside0.mk A120
    clear A120
    have H' := Aside0.mk H
    clear H
    have hnb13 := NB288_289.out
    have hnc13 := NB289_288.out
    have hnb14 := NB288_290.out
    have hnc14 := NB290_288.out
    have hcz15_0 := cz BK288 0 (.int .i64 a0_0)
    have hcz15_1 := cz BK288 1 (.int .i64 a0_1)
    have hcz15_2 := cz BK288 2 (.int .i64 a0_2)
    have hcz15_3 := cz BK288 3 (.int .i64 a0_3)
    have hcz15_4 := cz BK288 4 (.int .i64 a0_4)
    have hcz15_5 := cz BK288 5 (.int .i64 a0_5)
    have hcz15_6 := cz BK288 6 (.int .i64 a0_6)
    have hfz15_0 := fz BK288 0
    have hfz15_1 := fz BK288 1
    have hfz15_2 := fz BK288 2
    have hfz15_3 := fz BK288 3
    have hfz15_4 := fz BK288 4
    have hfz15_5 := fz BK288 5
    have hfz15_6 := fz BK288 6
    go_wp2_with (first | ((with_reducible refine gate_callee (f := 30) rfl ?_); refine goesL_ (some 11) rfl rfl Try.func30 (by kernel_rfl) rfl #[.agg #[.int .i64 a0_0, .int .i64 a0_1, .int .i64 a0_2, .int .i64 a0_3, .int .i64 a0_4, .int .i64 a0_5, .int .i64 a0_6]] rfl aE ?_; (with_reducible refine (impl_GoodEmitter.calls a0_0 a0_1 a0_2 a0_3 a0_4 a0_5 a0_6 true _ A8.out).mono ?_); rintro e w16 ⟨rfl, hb⟩; refine ⟨_, rfl, ?_⟩; replace BK288 := bB (bV BK288) hb; replace BK289 := bB (bV BK289) hb; replace BK290 := bB (bV BK290) hb; replace HB := bH (lV3 GE288 GE289 GE290) hb; (try clear hb); have hnb17 := NB289_290.out; have hnc17 := NB290_289.out; have hcz18_0 := cz BK289 0 (.int .i64 a1_0); have hcz18_1 := cz BK289 1 (.int .i64 a1_1); have hcz18_2 := cz BK289 2 (.slice A1_2 l1_2.length c1_2); have hfz18_0 := fz BK289 0; have hfz18_1 := fz BK289 1; have hfz18_2 := fz BK289 2) | (go_at_call 31; (with_reducible refine (impl_GoodCloud.calls k a1_0 a1_1 _ _ l1_2 true _ ?side1 ?side2 A10.out).mono ?_); (case side1 => exact cU (Kd.C_below HR1_2.out HB.out)); (case side2 => exact HC1_2.out); rintro e w19 ⟨rfl, hb⟩; replace BK288 := bB (bV BK288) hb; replace BK289 := bB (bV BK289) hb; replace BK290 := bB (bV BK290) hb; replace HB := bH (lV3 GE288 GE289 GE290) hb; (try clear hb); have hcz20_0 := cz BK289 0 (.int .i64 a1_0); have hcz20_1 := cz BK289 1 (.int .i64 a1_1); have hcz20_2 := cz BK289 2 (.slice A1_2 l1_2.length c1_2); have hfz20_0 := fz BK289 0; have hfz20_1 := fz BK289 1; have hfz20_2 := fz BK289 2) | (go_at_call 32; (with_reducible refine (impl_inRange.calls a2 0 (wrap64 (200 - a1_1)) t293 _ A12.out).mono ?_); rintro e w' ⟨rfl, ⟨nd, rfl⟩⟩))
    go_meet
    case rel => exact ⟨_, (!t293), tE, H', ⟨by first | omega | exact Nat.le_refl _⟩, ⟨by refine bU ?_; exact BK288.out⟩, ⟨by refine bU ?_; exact BK289.out⟩, ⟨by refine bU ?_; exact BK290.out⟩, ⟨by repeat (first | (with_reducible first | exact HB.out | apply below_alloc | apply pw_below_drewN | apply below_drew1 | refine below_set ?_ GE288.out | refine below_set ?_ GE289.out | refine below_set ?_ GE290.out) | exact HB.out)⟩⟩
   ·replace c11 := Bool.eq_false_iff.mpr c11
    subst c11
    have H1 : (impl_RunCloud.j0 k a2 true a0_0 a0_1 a0_2 a0_3 a0_4 a0_5 a0_6 a1_0 a1_1 l1_2) = some (r1, r2, r3, r4) := by rw [if_neg (show ¬ (false = true) by decide)] at H; exact H
    clear H
    have H := H1
    clear H1
    have H' := Aside0.mk H
    clear H
    have hnb21 := NB288_289.out
    have hnc21 := NB289_288.out
    have hnb22 := NB288_290.out
    have hnc22 := NB290_288.out
    have hcz23_0 := cz BK288 0 (.int .i64 a0_0)
    have hcz23_1 := cz BK288 1 (.int .i64 a0_1)
    have hcz23_2 := cz BK288 2 (.int .i64 a0_2)
    have hcz23_3 := cz BK288 3 (.int .i64 a0_3)
    have hcz23_4 := cz BK288 4 (.int .i64 a0_4)
    have hcz23_5 := cz BK288 5 (.int .i64 a0_5)
    have hcz23_6 := cz BK288 6 (.int .i64 a0_6)
    have hfz23_0 := fz BK288 0
    have hfz23_1 := fz BK288 1
    have hfz23_2 := fz BK288 2
    have hfz23_3 := fz BK288 3
    have hfz23_4 := fz BK288 4
    have hfz23_5 := fz BK288 5
    have hfz23_6 := fz BK288 6
    go_wp2_with (first | ((with_reducible refine gate_callee (f := 30) rfl ?_); refine goesL_ (some 11) rfl rfl Try.func30 (by kernel_rfl) rfl #[.agg #[.int .i64 a0_0, .int .i64 a0_1, .int .i64 a0_2, .int .i64 a0_3, .int .i64 a0_4, .int .i64 a0_5, .int .i64 a0_6]] rfl aE ?_; (with_reducible refine (impl_GoodEmitter.calls a0_0 a0_1 a0_2 a0_3 a0_4 a0_5 a0_6 true _ A8.out).mono ?_); rintro e w24 ⟨rfl, hb⟩; refine ⟨_, rfl, ?_⟩; replace BK288 := bB (bV BK288) hb; replace BK289 := bB (bV BK289) hb; replace BK290 := bB (bV BK290) hb; replace HB := bH (lV3 GE288 GE289 GE290) hb; (try clear hb); have hnb25 := NB289_290.out; have hnc25 := NB290_289.out; have hcz26_0 := cz BK289 0 (.int .i64 a1_0); have hcz26_1 := cz BK289 1 (.int .i64 a1_1); have hcz26_2 := cz BK289 2 (.slice A1_2 l1_2.length c1_2); have hfz26_0 := fz BK289 0; have hfz26_1 := fz BK289 1; have hfz26_2 := fz BK289 2) | (go_at_call 31; (with_reducible refine (impl_GoodCloud.calls k a1_0 a1_1 _ _ l1_2 false _ ?side1 ?side2 A10.out).mono ?_); (case side1 => exact cU (Kd.C_below HR1_2.out HB.out)); (case side2 => exact HC1_2.out); rintro e w27 ⟨rfl, hb⟩; replace BK288 := bB (bV BK288) hb; replace BK289 := bB (bV BK289) hb; replace BK290 := bB (bV BK290) hb; replace HB := bH (lV3 GE288 GE289 GE290) hb; (try clear hb)))
    go_meet
    case rel => exact ⟨_, (true), tE, H', ⟨by first | omega | exact Nat.le_refl _⟩, ⟨by refine bU ?_; exact BK288.out⟩, ⟨by refine bU ?_; exact BK289.out⟩, ⟨by refine bU ?_; exact BK290.out⟩, ⟨by repeat (first | (with_reducible first | exact HB.out | apply below_alloc | apply pw_below_drewN | apply below_drew1 | refine below_set ?_ GE288.out | refine below_set ?_ GE289.out | refine below_set ?_ GE290.out) | exact HB.out)⟩⟩
  ·replace c9 := Bool.eq_false_iff.mpr c9
   subst c9
   have H1 : (impl_RunCloud.j0 k a2 true a0_0 a0_1 a0_2 a0_3 a0_4 a0_5 a0_6 a1_0 a1_1 l1_2) = some (r1, r2, r3, r4) := by rw [if_neg (show ¬ (false = true) by decide)] at H; exact H
   clear H
   have H := H1
   clear H1
   have H' := Aside0.mk H
   clear H
   have hnb28 := NB288_289.out
   have hnc28 := NB289_288.out
   have hnb29 := NB288_290.out
   have hnc29 := NB290_288.out
   have hcz30_0 := cz BK288 0 (.int .i64 a0_0)
   have hcz30_1 := cz BK288 1 (.int .i64 a0_1)
   have hcz30_2 := cz BK288 2 (.int .i64 a0_2)
   have hcz30_3 := cz BK288 3 (.int .i64 a0_3)
   have hcz30_4 := cz BK288 4 (.int .i64 a0_4)
   have hcz30_5 := cz BK288 5 (.int .i64 a0_5)
   have hcz30_6 := cz BK288 6 (.int .i64 a0_6)
   have hfz30_0 := fz BK288 0
   have hfz30_1 := fz BK288 1
   have hfz30_2 := fz BK288 2
   have hfz30_3 := fz BK288 3
   have hfz30_4 := fz BK288 4
   have hfz30_5 := fz BK288 5
   have hfz30_6 := fz BK288 6
   go_wp2_with (first | ((with_reducible refine gate_callee (f := 30) rfl ?_); refine goesL_ (some 11) rfl rfl Try.func30 (by kernel_rfl) rfl #[.agg #[.int .i64 a0_0, .int .i64 a0_1, .int .i64 a0_2, .int .i64 a0_3, .int .i64 a0_4, .int .i64 a0_5, .int .i64 a0_6]] rfl aE ?_; (with_reducible refine (impl_GoodEmitter.calls a0_0 a0_1 a0_2 a0_3 a0_4 a0_5 a0_6 false _ A8.out).mono ?_); rintro e w31 ⟨rfl, hb⟩; refine ⟨_, rfl, ?_⟩; replace BK288 := bB (bV BK288) hb; replace BK289 := bB (bV BK289) hb; replace BK290 := bB (bV BK290) hb; replace HB := bH (lV3 GE288 GE289 GE290) hb; (try clear hb)))
   go_meet
   case rel => exact ⟨_, (true), tE, H', ⟨by first | omega | exact Nat.le_refl _⟩, ⟨by refine bU ?_; exact BK288.out⟩, ⟨by refine bU ?_; exact BK289.out⟩, ⟨by refine bU ?_; exact BK290.out⟩, ⟨by repeat (first | (with_reducible first | exact HB.out | apply below_alloc | apply pw_below_drewN | apply below_drew1 | refine below_set ?_ GE288.out | refine below_set ?_ GE289.out | refine below_set ?_ GE290.out) | exact HB.out)⟩⟩
 case rest =>
  clear HC4
  try clear c1
  try clear c2
  try clear p2
  try clear c3
  try clear p6
  try clear c9
  try clear c11
  try clear c13
  try clear c14
  try clear c17
  try clear c21
  try clear c22
  try clear c25
  try clear c28
  try clear c29
  try clear c30
  try clear hcz15_0
  try clear hcz15_1
  try clear hcz15_2
  try clear hcz15_3
  try clear hcz15_4
  try clear hcz15_5
  try clear hcz15_6
  try clear hcz18_0
  try clear hcz18_1
  try clear hcz18_2
  try clear hcz20_0
  try clear hcz20_1
  try clear hcz20_2
  try clear hcz23_0
  try clear hcz23_1
  try clear hcz23_2
  try clear hcz23_3
  try clear hcz23_4
  try clear hcz23_5
  try clear hcz23_6
  try clear hcz26_0
  try clear hcz26_1
  try clear hcz26_2
  try clear hcz30_0
  try clear hcz30_1
  try clear hcz30_2
  try clear hcz30_3
  try clear hcz30_4
  try clear hcz30_5
  try clear hcz30_6
  try clear hfz15_0
  try clear hfz15_1
  try clear hfz15_2
  try clear hfz15_3
  try clear hfz15_4
  try clear hfz15_5
  try clear hfz15_6
  try clear hfz18_0
  try clear hfz18_1
  try clear hfz18_2
  try clear hfz20_0
  try clear hfz20_1
  try clear hfz20_2
  try clear hfz23_0
  try clear hfz23_1
  try clear hfz23_2
  try clear hfz23_3
  try clear hfz23_4
  try clear hfz23_5
  try clear hfz23_6
  try clear hfz26_0
  try clear hfz26_1
  try clear hfz26_2
  try clear hfz30_0
  try clear hfz30_1
  try clear hfz30_2
  try clear hfz30_3
  try clear hfz30_4
  try clear hfz30_5
  try clear hfz30_6
  obtain ⟨kq, x25_3, rfl, HA, HJ3, BK288, BK289, BK290, HB⟩ := hcut
  cases kq with
  | zero => exact absurd HA.out (by simp [impl_RunCloud.j0])
  | succ kj3 =>
   have H := HA.out
   clear HA
   simp only [impl_RunCloud.j0] at H
   by_cases c32 : x25_3 = true
   ·subst c32
    have H1 : (some (0, 0, ([] : List (S48)), false)) = some (r1, r2, r3, r4) := by rw [if_pos rfl] at H; exact H
    clear H
    have H := H1
    clear H1
    simp only [Option.some.injEq, Prod.mk.injEq] at H
    obtain ⟨rfl, rfl, rfl, rfl⟩ := H
    have hnb33 := NB290_288.out
    have hnc33 := NB288_290.out
    have hnb34 := NB290_289.out
    have hnc34 := NB289_290.out
    have hcz35_0 := cz BK290 0 (.int .i64 0)
    have hcz35_1 := cz BK290 1 (.int .i64 0)
    have hcz35_2 := cz BK290 2 (.slice none 0 0)
    have hfz35_0 := fz BK290 0
    have hfz35_1 := fz BK290 1
    have hfz35_2 := fz BK290 2
    go_wp2_with (first | ((with_reducible refine gate_store (t := 35) (p := 6) rfl ?_); refine store_event (t := 35) (p := 6) (v := ?vo_w36) (w1 := (((wc.setCell ⟨gb290, 0, none⟩ (.int .i64 0)).setCell ⟨gb290, 1, none⟩ (.int .i64 0)).setCell ⟨gb290, 2, none⟩ (.slice none 0 0))) ?hg ?ho ?hn ?hr ?_; (case ho => rfl); (case hg => rfl); (case hn => rfl); (case hr => first | (go_simp; done) | (go_simp; rfl) | (have hq0_ := (blk_cell BK290.out 0).trans (show _ = some _ from rfl); have hf0_ := blk_frozen BK290.out 0; have hq1_ := (blk_cell BK290.out 1).trans (show _ = some _ from rfl); have hf1_ := blk_frozen BK290.out 1; have hq2_ := (blk_cell BK290.out 2).trans (show _ = some _ from rfl); have hf2_ := blk_frozen BK290.out 2; first | (go_simp; done) | (go_simp; rfl))); intro w36 hw; replace BK288 : Aside0 (w36.heap[gb288]? = some (.cells #[.int .i64 a0_0, .int .i64 a0_1, .int .i64 a0_2, .int .i64 a0_3, .int .i64 a0_4, .int .i64 a0_5, .int .i64 a0_6] 26 (0, 0))) := ⟨(by rw [hw]; exact (bG NB288_290 BK288))⟩; replace BK289 : Aside0 (w36.heap[gb289]? = some (.cells #[.int .i64 a1_0, .int .i64 a1_1, .slice A1_2 l1_2.length c1_2] 35 (0, 0))) := ⟨(by rw [hw]; exact (bG NB289_290 BK289))⟩; replace BK290 : Aside0 (w36.heap[gb290]? = some (.cells #[.int .i64 0, .int .i64 0, .slice none 0 0] 35 (0, 0))) := ⟨(by rw [hw]; exact (by refine bU ?_; refine blk_put (cs := #[.int .i64 0, .int .i64 0, .slice none 0 0]) ?_ 2 _ rfl; refine bU ?_; refine blk_put (cs := #[.int .i64 0, .int .i64 0, .slice none 0 0]) ?_ 1 _ rfl; refine bU ?_; refine blk_put (cs := #[.int .i64 0, .int .i64 0, .slice none 0 0]) ?_ 0 _ rfl; refine bU ?_; exact BK290.out))⟩; replace HB : Aside0 (Below w.heap.size w w36) := ⟨(by rw [hw]; exact (lV3 GE288 GE289 GE290))⟩; clear hw))
    refine bodyPost_ret (results_ct rfl _ _ gb290 35 #[.int .i64 0, .int .i64 0, .slice none 0 0] (0, 0) _ rfl (bV BK290) Try.underlying35 rfl (by kernel_rfl)) rfl ?_
    exact ⟨_, eE, by first | exact Kd.R_nil _ _ _ _ _ | exact Kd.N_nil _ _ _ _ _ | exact Kd.V_nil _ _ _ _ _ | exact Kd.Q_nil _ _ _ _ _ | exact Kd.S_nil _ _ _ _ _, lV3 GE288 GE289 GE290⟩
   ·replace c32 := Bool.eq_false_iff.mpr c32
    subst c32
    have H1 : ((impl_Spark_33.f l1_2).bind fun t294 => (impl_RunCloud.l0 kj3 a2 0 a0_0 a0_1 a0_2 a0_3 a0_4 a0_5 a0_6 a1_0 a1_1 t294)) = some (r1, r2, r3, r4) := by rw [if_neg (show ¬ (false = true) by decide)] at H; exact H
    clear H
    have H := H1
    clear H1
    replace H := Option.bind_eq_some_iff.mp H
    obtain ⟨t294, A370, H⟩ := H
    replace H : (impl_RunCloud.l0 kj3 a2 0 a0_0 a0_1 a0_2 a0_3 a0_4 a0_5 a0_6 a1_0 a1_1 t294) = some (r1, r2, r3, r4) := H
    have A37 := Aside0.mk A370
    clear A370
    have H' := Aside0.mk H
    clear H
    try go_wp2
    replace BK288 := Aside0.mk (blk_drew BK288.out)
    replace BK289 := Aside0.mk (blk_drew BK289.out)
    replace BK290 := Aside0.mk (blk_drew BK290.out)
    replace HB := Aside0.mk (below_drew1 HB.out)
    refine start_ (n := 11) (S := fun w' => w'.cell? ⟨gb289, 0, none⟩ = some (.int .i64 a1_0) ∧ w'.cell? ⟨gb289, 1, none⟩ = some (.int .i64 a1_1) ∧ w'.cell? ⟨gb289, 2, none⟩ = some (.slice A1_2 l1_2.length c1_2)) (ds := []) #[false, false, false, false, false, false, false, false, false, false, false] (by kernel_rfl) rfl rfl ⟨cz BK289 0 _, cz BK289 1 _, cz BK289 2 _⟩ (fun hHeld => ?_); refine with_tabW impl_RunCloud.tab3 impl_RunCloud.bits3 (fun HT_ HW_ => ?_)
    generalize wc.drew = w38 at BK288 BK289 BK290 HB hHeld ⊢
    refine pureA 0 27 (bz 11 1) rfl rfl (any_of HT_.out (by kernel_rfl)) ?_
    refine pureA 2 29 (bz 11 5) rfl rfl (any_of HT_.out (by kernel_rfl)) ?_
    refine pureA 4 31 (bz 11 21) rfl rfl (any_of HT_.out (by kernel_rfl)) ?_
    refine takeA 1 28 (bz 11 23) rfl rfl (take_ofW HT_.out HW_.out (by kernel_rfl)) hHeld (by rintro w' ⟨s0, s1, s2⟩; go_simp; with_reducible rfl) ?_
    refine takeA 3 30 (bz 11 31) rfl rfl (take_ofW HT_.out HW_.out (by kernel_rfl)) hHeld (by rintro w' ⟨s0, s1, s2⟩; go_simp; with_reducible rfl) ?_
    refine takeA 5 32 (bz 11 63) rfl rfl (take_ofW HT_.out HW_.out (by kernel_rfl)) hHeld (by rintro w' ⟨s0, s1, s2⟩; go_simp; with_reducible rfl) ?_
    refine join_ (σ := Value × Nat) 2 #[true, true, true, true, true, true, true, true, true, false, false] (fun s_ => [(33, s_.1), (8, .pointer (some ⟨s_.2, 0, none⟩)), (34, .agg #[.int .i64 a1_0, .int .i64 a1_1, s_.1])]) (fun s_ w' => (w'.cell? ⟨gb289, 0, none⟩ = some (.int .i64 a1_0) ∧ w'.cell? ⟨gb289, 1, none⟩ = some (.int .i64 a1_1) ∧ w'.cell? ⟨gb289, 2, none⟩ = some (.slice A1_2 l1_2.length c1_2)) ∧ (Kd.R k48 48 w' w.heap.size (fun _ => True) s_.1 t294) ∧ (w'.heap[gb288]? = some (.cells #[.int .i64 a0_0, .int .i64 a0_1, .int .i64 a0_2, .int .i64 a0_3, .int .i64 a0_4, .int .i64 a0_5, .int .i64 a0_6] 26 (0, 0))) ∧ (w'.heap[gb289]? = some (.cells #[.int .i64 a1_0, .int .i64 a1_1, .slice A1_2 l1_2.length c1_2] 35 (0, 0))) ∧ (w'.heap[gb290]? = some (.cells #[.int .i64 0, .int .i64 0, .slice none 0 0] 35 (0, 0))) ∧ (w'.heap[s_.2]? = some (.cells #[.int .i64 0, .int .i64 0, .slice none 0 0] 35 (0, 0))) ∧ (w.heap.size ≤ s_.2) ∧ (w.heap.size ≤ s_.2) ∧ (gb288 ≠ s_.2) ∧ (s_.2 ≠ gb288) ∧ (gb289 ≠ s_.2) ∧ (s_.2 ≠ gb289) ∧ (gb290 ≠ s_.2) ∧ (s_.2 ≠ gb290) ∧ (Below w.heap.size w w')) ?_ ?_
    rotate_left
    ·intro hCont
     refine two_ (i := 6) (j := 8) (Ni := some 33) (Nj := some 8) #[true, true, true, true, true, true, true, false, false, false, false] #[true, true, true, true, true, true, false, false, true, false, false] rfl rfl rfl rfl (two_of HT_.out (by kernel_rfl)) (by decide) (by decide) (fun K hK => ?_) (fun K hK => ?_)
     ·skip
      refine goes_ Try.func33 (by kernel_rfl) rfl #[.slice A1_2 l1_2.length c1_2] (by rfl) rfl rfl aE ?_
      with_reducible refine (impl_Spark_33.calls _ _ l1_2 t294 _ ?side1 ?side2 A37.out).mono ?_
      (case side1 => exact cU (Kd.C_below HR1_2.out HB.out))
      (case side2 => exact HC1_2.out)
      rintro e w39 ⟨v295, rfl, ho0, hb⟩
      refine ⟨_, rfl, ?_⟩
      have HO296 := Aside0.mk (Kd.R_lower ho0 (below_size (lV3 GE288 GE289 GE290)))
      replace BK288 := bB (bV BK288) hb
      replace BK289 := bB (bV BK289) hb
      replace BK290 := bB (bV BK290) hb
      replace HB := bH (lV3 GE288 GE289 GE290) hb
      (try clear hb)
      (try clear hb2)
      (try clear hk)
      (try clear hi)
      (try clear ho0)
      obtain ⟨Ao40, co40, eo40⟩ := Kd.R_slice HO296.out
      (first | subst eo40 | (injection eo40 with f1_ f2_ f3_; have f4_ := f1_.symm; have f5_ := f3_.symm; clear f1_ f2_ f3_; subst f4_; subst f5_))
      refine hK.out _ _ ⟨cz BK289 0 _, cz BK289 1 _, cz BK289 2 _⟩ (fun hHeld => ?_)
      clear hK K
      refine norm_ (a' := ?_) ?_ ?_
      rotate_left
      ·show Act.put _ (some 33) _ = _
       simp only [Act.put, List.setIfInBounds_toArray, List.set_cons_zero, List.set_cons_succ, i64_w, i32_w]
       rfl
      refine pureA 7 34 (bz 11 255) rfl rfl (any_of HT_.out (by kernel_rfl)) ?_
      refine one_ (i := 8) (N := some 8) (bz 11 511) rfl rfl (one_of HT_.out (by kernel_rfl)) (by decide) (fun K hK => ?_)
      refine box_step ?hg (N := 8) ?hd (cs := #[.int .i64 0, .int .i64 0, .slice none 0 0]) (t := 35) ?hr ?_; (case hd => rfl); (case hg => rfl); (case hr => exact sE)
      intro gb297 hg w41 hbox hb
      replace HO296 := Aside0.mk (Kd.R_below (rU HO296.out) hb)
      have BK297 := Aside0.mk hbox
      have GW297 := gS w hg (lV3 GE288 GE289 GE290)
      have GE297 := gS w hg (lV3 GE288 GE289 GE290)
      replace HB := bH (lV3 GE288 GE289 GE290) hb
      have NB288_297 := nL hg (bV BK288)
      have NB297_288 := nG hg (bV BK288)
      replace BK288 := bB (bV BK288) hb
      have NB289_297 := nL hg (bV BK289)
      have NB297_289 := nG hg (bV BK289)
      replace BK289 := bB (bV BK289) hb
      have NB290_297 := nL hg (bV BK290)
      have NB297_290 := nG hg (bV BK290)
      replace BK290 := bB (bV BK290) hb
      clear hb hbox hg
      refine hK.out _ _ ⟨cz BK289 0 _, cz BK289 1 _, cz BK289 2 _⟩ (fun hHeld => ?_)
      clear hK K
      refine norm_ (a' := ?_) ?_ ?_
      rotate_left
      ·show Act.put _ (some 8) _ = _
       simp only [Act.put, List.setIfInBounds_toArray, List.set_cons_zero, List.set_cons_succ, i64_w, i32_w]
       rfl
      exact norm_ (by simp only [putAll, Act.put, List.setIfInBounds_toArray, List.set_cons_zero, List.set_cons_succ]) (hCont (.slice Ao40 t294.length co40, gb297) _ ⟨hHeld, (rU HO296.out), (bV BK288), (bV BK289), (bV BK290), (bV BK297), GW297.out, GE297.out, NB288_297.out, NB297_288.out, NB289_297.out, NB297_289.out, NB290_297.out, NB297_290.out, (lV4 GE288 GE289 GE290 GE297)⟩)
     ·skip
      refine box_step ?hg (N := 8) ?hd (cs := #[.int .i64 0, .int .i64 0, .slice none 0 0]) (t := 35) ?hr ?_; (case hd => rfl); (case hg => rfl); (case hr => exact sE)
      intro gb297 hg w39 hbox hb
      have BK297 := Aside0.mk hbox
      have GW297 := gS w hg (lV3 GE288 GE289 GE290)
      have GE297 := gS w hg (lV3 GE288 GE289 GE290)
      replace HB := bH (lV3 GE288 GE289 GE290) hb
      have NB288_297 := nL hg (bV BK288)
      have NB297_288 := nG hg (bV BK288)
      replace BK288 := bB (bV BK288) hb
      have NB289_297 := nL hg (bV BK289)
      have NB297_289 := nG hg (bV BK289)
      replace BK289 := bB (bV BK289) hb
      have NB290_297 := nL hg (bV BK290)
      have NB297_290 := nG hg (bV BK290)
      replace BK290 := bB (bV BK290) hb
      clear hb hbox hg
      refine hK.out _ _ ⟨cz BK289 0 _, cz BK289 1 _, cz BK289 2 _⟩ (fun hHeld => ?_)
      clear hK K
      refine norm_ (a' := ?_) ?_ ?_
      rotate_left
      ·show Act.put _ (some 8) _ = _
       simp only [Act.put, List.setIfInBounds_toArray, List.set_cons_zero, List.set_cons_succ, i64_w, i32_w]
       rfl
      refine one_ (i := 6) (N := some 33) (bz 11 383) rfl rfl (one_of HT_.out (by kernel_rfl)) (by decide) (fun K hK => ?_)
      refine goes_ Try.func33 (by kernel_rfl) rfl #[.slice A1_2 l1_2.length c1_2] (by rfl) rfl rfl aE ?_
      with_reducible refine (impl_Spark_33.calls _ _ l1_2 t294 _ ?side1 ?side2 A37.out).mono ?_
      (case side1 => exact cU (Kd.C_below HR1_2.out HB.out))
      (case side2 => exact HC1_2.out)
      rintro e w40 ⟨v295, rfl, ho0, hb⟩
      refine ⟨_, rfl, ?_⟩
      have HO296 := Aside0.mk (Kd.R_lower ho0 (below_size (lV4 GE288 GE289 GE290 GE297)))
      replace BK288 := bB (bV BK288) hb
      replace BK289 := bB (bV BK289) hb
      replace BK290 := bB (bV BK290) hb
      replace BK297 := bB (bV BK297) hb
      replace HB := bH (lV4 GE288 GE289 GE290 GE297) hb
      (try clear hb)
      (try clear hb2)
      (try clear hk)
      (try clear hi)
      (try clear ho0)
      obtain ⟨Ao41, co41, eo41⟩ := Kd.R_slice HO296.out
      (first | subst eo41 | (injection eo41 with f1_ f2_ f3_; have f4_ := f1_.symm; have f5_ := f3_.symm; clear f1_ f2_ f3_; subst f4_; subst f5_))
      refine hK.out _ _ ⟨cz BK289 0 _, cz BK289 1 _, cz BK289 2 _⟩ (fun hHeld => ?_)
      clear hK K
      refine norm_ (a' := ?_) ?_ ?_
      rotate_left
      ·show Act.put _ (some 33) _ = _
       simp only [Act.put, List.setIfInBounds_toArray, List.set_cons_zero, List.set_cons_succ, i64_w, i32_w]
       rfl
      refine pureA 7 34 (bz 11 511) rfl rfl (any_of HT_.out (by kernel_rfl)) ?_
      exact norm_ (by simp only [putAll, Act.put, List.setIfInBounds_toArray, List.set_cons_zero, List.set_cons_succ]) (hCont (.slice Ao41 t294.length co41, gb297) _ ⟨hHeld, (rU HO296.out), (bV BK288), (bV BK289), (bV BK290), (bV BK297), GW297.out, GE297.out, NB288_297.out, NB297_288.out, NB289_297.out, NB297_289.out, NB290_297.out, NB297_290.out, (lV4 GE288 GE289 GE290 GE297)⟩)
    rintro ⟨v295, gb297⟩ w42 ⟨hS_, h0_, h1_, h2_, h3_, h4_, h5_, h6_, h7_, h8_, h9_, h10_, h11_, h12_, h13_⟩
    have HO296 : Aside0 (Kd.R k48 48 w42 w.heap.size (fun _ => True) v295 t294) := ⟨h0_⟩
    replace BK288 : Aside0 (w42.heap[gb288]? = some (.cells #[.int .i64 a0_0, .int .i64 a0_1, .int .i64 a0_2, .int .i64 a0_3, .int .i64 a0_4, .int .i64 a0_5, .int .i64 a0_6] 26 (0, 0))) := ⟨h1_⟩
    replace BK289 : Aside0 (w42.heap[gb289]? = some (.cells #[.int .i64 a1_0, .int .i64 a1_1, .slice A1_2 l1_2.length c1_2] 35 (0, 0))) := ⟨h2_⟩
    replace BK290 : Aside0 (w42.heap[gb290]? = some (.cells #[.int .i64 0, .int .i64 0, .slice none 0 0] 35 (0, 0))) := ⟨h3_⟩
    have BK297 : Aside0 (w42.heap[gb297]? = some (.cells #[.int .i64 0, .int .i64 0, .slice none 0 0] 35 (0, 0))) := ⟨h4_⟩
    have GW297 : Aside0 (w.heap.size ≤ gb297) := ⟨h5_⟩
    have GE297 : Aside0 (w.heap.size ≤ gb297) := ⟨h6_⟩
    have NB288_297 : Aside0 (gb288 ≠ gb297) := ⟨h7_⟩
    have NB297_288 : Aside0 (gb297 ≠ gb288) := ⟨h8_⟩
    have NB289_297 : Aside0 (gb289 ≠ gb297) := ⟨h9_⟩
    have NB297_289 : Aside0 (gb297 ≠ gb289) := ⟨h10_⟩
    have NB290_297 : Aside0 (gb290 ≠ gb297) := ⟨h11_⟩
    have NB297_290 : Aside0 (gb297 ≠ gb290) := ⟨h12_⟩
    replace HB : Aside0 (Below w.heap.size w w42) := ⟨h13_⟩
    clear h0_ h1_ h2_ h3_ h4_ h5_ h6_ h7_ h8_ h9_ h10_ h11_ h12_ h13_
    have hHeld : w42.cell? ⟨gb289, 0, none⟩ = some (.int .i64 a1_0) ∧ w42.cell? ⟨gb289, 1, none⟩ = some (.int .i64 a1_1) ∧ w42.cell? ⟨gb289, 2, none⟩ = some (.slice A1_2 l1_2.length c1_2) := hS_
    obtain ⟨Ao43, co43, eo43⟩ := Kd.R_slice HO296.out
    (first | subst eo43 | (injection eo43 with f1_ f2_ f3_; have f4_ := f1_.symm; have f5_ := f3_.symm; clear f1_ f2_ f3_; subst f4_; subst f5_))
    refine norm_ (a' := ?_) ?_ ?_
    rotate_left
    ·simp only [putAll, Act.put, List.setIfInBounds_toArray, List.set_cons_zero, List.set_cons_succ]
     rfl
    refine one_ (i := 9) (N := none) (bz 11 1023) rfl rfl (one_of HT_.out (by kernel_rfl)) (by decide) (fun K hK => ?_)
    have hs44 : w42.cell? ⟨gb297, 0, none⟩ = some (.int .i64 0) := (blk_cell BK297.out 0).trans rfl
    have hfs44 := blk_frozen BK297.out 0
    have hns44_0 := NB288_297.out
    have hns44_1 := NB289_297.out
    have hns44_2 := NB290_297.out
    have hms44_0 := NB297_288.out
    have hms44_1 := NB297_289.out
    have hms44_2 := NB297_290.out
    have hs45 : w42.cell? ⟨gb297, 1, none⟩ = some (.int .i64 0) := (blk_cell BK297.out 1).trans rfl
    have hfs45 := blk_frozen BK297.out 1
    have hns45_0 := NB288_297.out
    have hns45_1 := NB289_297.out
    have hns45_2 := NB290_297.out
    have hms45_0 := NB297_288.out
    have hms45_1 := NB297_289.out
    have hms45_2 := NB297_290.out
    have hs46 : w42.cell? ⟨gb297, 2, none⟩ = some (.slice none 0 0) := (blk_cell BK297.out 2).trans rfl
    have hfs46 := blk_frozen BK297.out 2
    have hns46_0 := NB288_297.out
    have hns46_1 := NB289_297.out
    have hns46_2 := NB290_297.out
    have hms46_0 := NB297_288.out
    have hms46_1 := NB297_289.out
    have hms46_2 := NB297_290.out
    refine skip_ (w1 := ?_) (by rfl) rfl ?_ ?_
    rotate_left
    ·go_simp
     rfl
    refine hK.out _ _ ⟨((cell_far (p := ⟨gb297, _, none⟩) NB289_297.out _).trans (((cell_far (p := ⟨gb297, _, none⟩) NB289_297.out _).trans (((cell_far (p := ⟨gb297, _, none⟩) NB289_297.out _).trans (hHeld.1)))))), ((cell_far (p := ⟨gb297, _, none⟩) NB289_297.out _).trans (((cell_far (p := ⟨gb297, _, none⟩) NB289_297.out _).trans (((cell_far (p := ⟨gb297, _, none⟩) NB289_297.out _).trans (hHeld.2.1)))))), ((cell_far (p := ⟨gb297, _, none⟩) NB289_297.out _).trans (((cell_far (p := ⟨gb297, _, none⟩) NB289_297.out _).trans (((cell_far (p := ⟨gb297, _, none⟩) NB289_297.out _).trans (hHeld.2.2))))))⟩ (fun hHeld => ?_)
    clear hK K
    refine pureA 10 9 (bz 11 2047) rfl rfl (any_of HT_.out (by kernel_rfl)) ?_
    refine done_ (done_of HT_.out (by kernel_rfl)) ?_
    try go_wp2
    go_loopg [36] kj3 (fun kq v36 w' => ∃ (x36_2 : Int) (x291000_2 : Int) (x291001_2 : Int) (x298000_2 : Int) (x298001_2 : Int) (x298002_2 : List (S48)) (u298002 : Value), v36 = .int .i64 x36_2 ∧ Aside0 (impl_RunCloud.l0 kq a2 x36_2 a0_0 a0_1 a0_2 a0_3 a0_4 a0_5 a0_6 x298000_2 x298001_2 x298002_2 = some (r1, r2, r3, r4)) ∧ Aside0 (kq ≤ kj3) ∧ Aside0 (Kd.R k48 48 w' w.heap.size (fun _ => True) u298002 x298002_2) ∧ Aside0 (w'.heap[gb288]? = some (.cells #[.int .i64 a0_0, .int .i64 a0_1, .int .i64 a0_2, .int .i64 a0_3, .int .i64 a0_4, .int .i64 a0_5, .int .i64 a0_6] 26 (0, 0))) ∧ Aside0 (w'.heap[gb289]? = some (.cells #[.int .i64 a1_0, .int .i64 a1_1, (.slice A1_2 l1_2.length c1_2)] 35 (0, 0))) ∧ Aside0 (w'.heap[gb290]? = some (.cells #[.int .i64 x291000_2, .int .i64 x291001_2, (.slice none 0 0)] 35 (0, 0))) ∧ Aside0 (w'.heap[gb297]? = some (.cells #[.int .i64 x298000_2, .int .i64 x298001_2, u298002] 35 (0, 0))) ∧ Aside0 (Below w.heap.size w w'))
    case atStart => exact ⟨(0), (0), (0), (a1_0), (a1_1), (t294), (.slice Ao43 t294.length co43), tE, H', ⟨Nat.le_refl _⟩, ⟨by (with_reducible repeat (first | apply Kd.R_alloc | apply Kd.R_drewN | apply Kd.R_drew)); exact Kd.R_mono (Kd.R_far (p := ⟨gb297, 2, none⟩) (Kd.R_far (p := ⟨gb297, 1, none⟩) (Kd.R_far (p := ⟨gb297, 0, none⟩) (Kd.R_types HO296.out BK297.out (by decide)) (fun _ hk => hk.2) (.int .i64 a1_0)) (fun _ hk => hk.2) (.int .i64 a1_1)) (fun _ hk => hk.2) (.slice Ao43 t294.length co43)) (fun _ hk => trivial)⟩, ⟨by refine bU ?_; refine blk_far ?_ NB288_297.out _; refine bU ?_; refine blk_far ?_ NB288_297.out _; refine bU ?_; refine blk_far ?_ NB288_297.out _; refine bU ?_; exact BK288.out⟩, ⟨by refine bU ?_; refine blk_far ?_ NB289_297.out _; refine bU ?_; refine blk_far ?_ NB289_297.out _; refine bU ?_; refine blk_far ?_ NB289_297.out _; refine bU ?_; exact BK289.out⟩, ⟨by refine bU ?_; refine blk_far ?_ NB290_297.out _; refine bU ?_; refine blk_far ?_ NB290_297.out _; refine bU ?_; refine blk_far ?_ NB290_297.out _; refine bU ?_; exact BK290.out⟩, ⟨by refine bU ?_; refine blk_put (cs := #[.int .i64 a1_0, .int .i64 a1_1, .slice none 0 0]) ?_ 2 _ rfl; refine bU ?_; refine blk_put (cs := #[.int .i64 a1_0, .int .i64 0, .slice none 0 0]) ?_ 1 _ rfl; refine bU ?_; refine blk_put (cs := #[.int .i64 0, .int .i64 0, .slice none 0 0]) ?_ 0 _ rfl; refine bU ?_; exact BK297.out⟩, ⟨by repeat (first | (with_reducible first | exact HB.out | apply below_alloc | apply pw_below_drewN | apply below_drew1 | refine below_set ?_ GE288.out | refine below_set ?_ GE289.out | refine below_set ?_ GE290.out | refine below_set ?_ GE297.out) | exact HB.out)⟩⟩
    case round =>
     clear H'
     try clear c1
     try clear q1
     try clear c2
     try clear p2
     try clear q2
     try clear c3
     try clear p6
     try clear c9
     try clear c11
     try clear c13
     try clear c14
     try clear c17
     try clear c21
     try clear c22
     try clear c25
     try clear c28
     try clear c29
     try clear c30
     try clear c32
     try clear c33
     try clear c34
     try clear hcz15_0
     try clear hcz15_1
     try clear hcz15_2
     try clear hcz15_3
     try clear hcz15_4
     try clear hcz15_5
     try clear hcz15_6
     try clear hcz18_0
     try clear hcz18_1
     try clear hcz18_2
     try clear hcz20_0
     try clear hcz20_1
     try clear hcz20_2
     try clear hcz23_0
     try clear hcz23_1
     try clear hcz23_2
     try clear hcz23_3
     try clear hcz23_4
     try clear hcz23_5
     try clear hcz23_6
     try clear hcz26_0
     try clear hcz26_1
     try clear hcz26_2
     try clear hcz30_0
     try clear hcz30_1
     try clear hcz30_2
     try clear hcz30_3
     try clear hcz30_4
     try clear hcz30_5
     try clear hcz30_6
     try clear hcz35_0
     try clear hcz35_1
     try clear hcz35_2
     try clear hfz15_0
     try clear hfz15_1
     try clear hfz15_2
     try clear hfz15_3
     try clear hfz15_4
     try clear hfz15_5
     try clear hfz15_6
     try clear hfz18_0
     try clear hfz18_1
     try clear hfz18_2
     try clear hfz20_0
     try clear hfz20_1
     try clear hfz20_2
     try clear hfz23_0
     try clear hfz23_1
     try clear hfz23_2
     try clear hfz23_3
     try clear hfz23_4
     try clear hfz23_5
     try clear hfz23_6
     try clear hfz26_0
     try clear hfz26_1
     try clear hfz26_2
     try clear hfz30_0
     try clear hfz30_1
     try clear hfz30_2
     try clear hfz30_3
     try clear hfz30_4
     try clear hfz30_5
     try clear hfz30_6
     try clear hfz35_0
     try clear hfz35_1
     try clear hfz35_2
     try clear p2
     try clear p6
     obtain ⟨x36_2, x291000_2, x291001_2, x298000_2, x298001_2, x298002_2, u298002, rfl, HA, HK2, HO_298002, BK288, BK289, BK290, BK297, HB⟩ := hrel
     cases gk with
     | zero => exact absurd HA.out (by simp [impl_RunCloud.l0])
     | succ k2 =>
      have H := HA.out
      clear HA
      simp only [impl_RunCloud.l0] at H
      by_cases c47 : x36_2 < a2
      ·rw [if_pos c47] at H
       have c47b0 : decide (x36_2 < a2) = true := decide_eq_true c47
       clear c47
       replace H := Option.bind_eq_some_iff.mp H
       obtain ⟨⟨t298, t299, t300, t303⟩, A480, H⟩ := H
       replace H : (if t303 = true then (impl_RunCloud.l0 k2 a2 (wrap64 (x36_2 + 1)) a0_0 a0_1 a0_2 a0_3 a0_4 a0_5 a0_6 t298 t299 t300) else (some (0, 0, ([] : List (S48)), false))) = some (r1, r2, r3, r4) := H
       have A48 := Aside0.mk A480
       clear A480
       by_cases c49 : t303 = true
       ·subst c49
        have H1 : (impl_RunCloud.l0 k2 a2 (wrap64 (x36_2 + 1)) a0_0 a0_1 a0_2 a0_3 a0_4 a0_5 a0_6 t298 t299 t300) = some (r1, r2, r3, r4) := by rw [if_pos rfl] at H; exact H
        clear H
        have H := H1
        clear H1
        have H' := Aside0.mk H
        clear H
        have hnb50 := NB288_289.out
        have hnc50 := NB289_288.out
        have hnb51 := NB288_290.out
        have hnc51 := NB290_288.out
        have hnb52 := NB288_297.out
        have hnc52 := NB297_288.out
        have hcz53_0 := cz BK288 0 (.int .i64 a0_0)
        have hcz53_1 := cz BK288 1 (.int .i64 a0_1)
        have hcz53_2 := cz BK288 2 (.int .i64 a0_2)
        have hcz53_3 := cz BK288 3 (.int .i64 a0_3)
        have hcz53_4 := cz BK288 4 (.int .i64 a0_4)
        have hcz53_5 := cz BK288 5 (.int .i64 a0_5)
        have hcz53_6 := cz BK288 6 (.int .i64 a0_6)
        have hfz53_0 := fz BK288 0
        have hfz53_1 := fz BK288 1
        have hfz53_2 := fz BK288 2
        have hfz53_3 := fz BK288 3
        have hfz53_4 := fz BK288 4
        have hfz53_5 := fz BK288 5
        have hfz53_6 := fz BK288 6
        have hnb54 := NB297_289.out
        have hnc54 := NB289_297.out
        have hnb55 := NB297_290.out
        have hnc55 := NB290_297.out
        have hcz56_0 := cz BK297 0 (.int .i64 x298000_2)
        have hcz56_1 := cz BK297 1 (.int .i64 x298001_2)
        have hcz56_2 := cz BK297 2 (u298002)
        have hfz56_0 := fz BK297 0
        have hfz56_1 := fz BK297 1
        have hfz56_2 := fz BK297 2
        obtain ⟨Ao57, co57, eo57⟩ := Kd.R_slice HO_298002.out
        subst eo57
        go_wp2_with (first | ((with_reducible refine gate_callee (f := 34) rfl ?_); refine goesL_ (some 41) rfl rfl Try.func34 (by kernel_rfl) rfl #[.agg #[.int .i64 a0_0, .int .i64 a0_1, .int .i64 a0_2, .int .i64 a0_3, .int .i64 a0_4, .int .i64 a0_5, .int .i64 a0_6], .agg #[.int .i64 x298000_2, .int .i64 x298001_2, .slice Ao57 x298002_2.length co57]] rfl aE ?_; (with_reducible refine (impl_Emitter_step.calls k2 a0_0 a0_1 a0_2 a0_3 a0_4 a0_5 a0_6 x298000_2 x298001_2 _ _ x298002_2 t298 t299 t300 true _ ?side1 ?side2 A48.out).mono ?_); (case side1 => exact cU (Kd.R_reads' HO_298002.out).2.2); (case side2 => exact (Kd.R_reads' HO_298002.out).2.1); rintro e w58 ⟨v301, rfl, ho0, hb⟩; refine ⟨_, rfl, ?_⟩; have HO302 := Aside0.mk (Kd.R_lower (Kd.R_new' ho0 (Kd.R_lt (rU HO_298002.out))) (below_size (lV4 GE288 GE289 GE290 GE297))); replace HO_298002 := Aside0.mk (Kd.R_elder' (rU HO_298002.out) (Kd.R_base ho0) hb); replace BK288 := bB (bV BK288) hb; replace BK289 := bB (bV BK289) hb; replace BK290 := bB (bV BK290) hb; replace BK297 := bB (bV BK297) hb; replace HB := bH (lV4 GE288 GE289 GE290 GE297) hb; (try clear hb); (try clear ho0); have hcz59_0 := cz BK297 0 (.int .i64 x298000_2); have hcz59_1 := cz BK297 1 (.int .i64 x298001_2); have hcz59_2 := cz BK297 2 (.slice Ao57 x298002_2.length co57); have hfz59_0 := fz BK297 0; have hfz59_1 := fz BK297 1; have hfz59_2 := fz BK297 2; obtain ⟨Ao60, co60, eo60⟩ := Kd.R_slice HO302.out; subst eo60) | ((with_reducible refine gate_store (t := 35) (p := 8) rfl ?_); refine store_event (t := 35) (p := 8) (v := ?vo_w61) (w1 := (((w58.setCell ⟨gb297, 0, none⟩ (.int .i64 t298)).setCell ⟨gb297, 1, none⟩ (.int .i64 t299)).setCell ⟨gb297, 2, none⟩ (.slice Ao60 t300.length co60))) ?hg ?ho ?hn ?hr ?_; (case ho => rfl); (case hg => rfl); (case hn => rfl); (case hr => first | (go_simp; done) | (go_simp; rfl) | (have hq0_ := (blk_cell BK297.out 0).trans (show _ = some _ from rfl); have hf0_ := blk_frozen BK297.out 0; have hq1_ := (blk_cell BK297.out 1).trans (show _ = some _ from rfl); have hf1_ := blk_frozen BK297.out 1; have hq2_ := (blk_cell BK297.out 2).trans (show _ = some _ from rfl); have hf2_ := blk_frozen BK297.out 2; first | (go_simp; done) | (go_simp; rfl))); intro w61 hw; replace HO_298002 : Aside0 (Kd.R k48 48 w61 w.heap.size (fun k_ => some k_ ≠ (.slice Ao60 t300.length co60 : Value).ownBlock) (.slice Ao57 x298002_2.length co57) x298002_2) := ⟨(by rw [hw]; exact (by (with_reducible repeat (first | apply Kd.R_alloc | apply Kd.R_drewN | apply Kd.R_drew)); exact Kd.R_mono (Kd.R_far (p := ⟨gb297, 2, none⟩) (Kd.R_far (p := ⟨gb297, 1, none⟩) (Kd.R_far (p := ⟨gb297, 0, none⟩) (Kd.R_types HO_298002.out BK297.out (by decide)) (fun _ hk => hk.2) (.int .i64 t298)) (fun _ hk => hk.2) (.int .i64 t299)) (fun _ hk => hk.2) (.slice Ao60 t300.length co60)) (fun _ hk => hk.1.2)))⟩; replace HO302 : Aside0 (Kd.R k48 48 w61 w.heap.size (fun k_ => some k_ ≠ (.slice Ao57 x298002_2.length co57 : Value).ownBlock) (.slice Ao60 t300.length co60) t300) := ⟨(by rw [hw]; exact (by (with_reducible repeat (first | apply Kd.R_alloc | apply Kd.R_drewN | apply Kd.R_drew)); exact Kd.R_mono (Kd.R_far (p := ⟨gb297, 2, none⟩) (Kd.R_far (p := ⟨gb297, 1, none⟩) (Kd.R_far (p := ⟨gb297, 0, none⟩) (Kd.R_types HO302.out BK297.out (by decide)) (fun _ hk => hk.2) (.int .i64 t298)) (fun _ hk => hk.2) (.int .i64 t299)) (fun _ hk => hk.2) (.slice Ao60 t300.length co60)) (fun _ hk => hk.1.2)))⟩; replace BK288 : Aside0 (w61.heap[gb288]? = some (.cells #[.int .i64 a0_0, .int .i64 a0_1, .int .i64 a0_2, .int .i64 a0_3, .int .i64 a0_4, .int .i64 a0_5, .int .i64 a0_6] 26 (0, 0))) := ⟨(by rw [hw]; exact (bG NB288_297 BK288))⟩; replace BK289 : Aside0 (w61.heap[gb289]? = some (.cells #[.int .i64 a1_0, .int .i64 a1_1, .slice A1_2 l1_2.length c1_2] 35 (0, 0))) := ⟨(by rw [hw]; exact (bG NB289_297 BK289))⟩; replace BK290 : Aside0 (w61.heap[gb290]? = some (.cells #[.int .i64 x291000_2, .int .i64 x291001_2, .slice none 0 0] 35 (0, 0))) := ⟨(by rw [hw]; exact (bG NB290_297 BK290))⟩; replace BK297 : Aside0 (w61.heap[gb297]? = some (.cells #[.int .i64 t298, .int .i64 t299, .slice Ao60 t300.length co60] 35 (0, 0))) := ⟨(by rw [hw]; exact (by refine bU ?_; refine blk_put (cs := #[.int .i64 t298, .int .i64 t299, .slice Ao57 x298002_2.length co57]) ?_ 2 _ rfl; refine bU ?_; refine blk_put (cs := #[.int .i64 t298, .int .i64 x298001_2, .slice Ao57 x298002_2.length co57]) ?_ 1 _ rfl; refine bU ?_; refine blk_put (cs := #[.int .i64 x298000_2, .int .i64 x298001_2, .slice Ao57 x298002_2.length co57]) ?_ 0 _ rfl; refine bU ?_; exact BK297.out))⟩; replace HB : Aside0 (Below w.heap.size w w61) := ⟨(by rw [hw]; exact (lV4 GE288 GE289 GE290 GE297))⟩; clear hw))
        go_roundg k2
        case measure => have := HJ3.out; have := HK2.out; omega
        case rel => exact ⟨(wrap64 (x36_2 + 1)), (x291000_2), (x291001_2), (t298), (t299), (t300), (.slice Ao60 t300.length co60), tE, H', ⟨by have := HJ3.out; have := HK2.out; omega⟩, ⟨by (with_reducible repeat (first | apply Kd.R_alloc | apply Kd.R_drewN | apply Kd.R_drew)); exact Kd.R_mono HO302.out (fun _ hk => trivial)⟩, ⟨by refine bU ?_; exact BK288.out⟩, ⟨by refine bU ?_; exact BK289.out⟩, ⟨by refine bU ?_; exact BK290.out⟩, ⟨by refine bU ?_; exact BK297.out⟩, ⟨by repeat (first | (with_reducible first | exact HB.out | apply below_alloc | apply pw_below_drewN | apply below_drew1 | refine below_set ?_ GE288.out | refine below_set ?_ GE289.out | refine below_set ?_ GE290.out | refine below_set ?_ GE297.out) | exact HB.out)⟩⟩
       ·replace c49 := Bool.eq_false_iff.mpr c49
        subst c49
        have H1 : (some (0, 0, ([] : List (S48)), false)) = some (r1, r2, r3, r4) := by rw [if_neg (show ¬ (false = true) by decide)] at H; exact H
        clear H
        have H := H1
        clear H1
        simp only [Option.some.injEq, Prod.mk.injEq] at H
        obtain ⟨rfl, rfl, rfl, rfl⟩ := H
        have hnb62 := NB288_289.out
        have hnc62 := NB289_288.out
        have hnb63 := NB288_290.out
        have hnc63 := NB290_288.out
        have hnb64 := NB288_297.out
        have hnc64 := NB297_288.out
        have hcz65_0 := cz BK288 0 (.int .i64 a0_0)
        have hcz65_1 := cz BK288 1 (.int .i64 a0_1)
        have hcz65_2 := cz BK288 2 (.int .i64 a0_2)
        have hcz65_3 := cz BK288 3 (.int .i64 a0_3)
        have hcz65_4 := cz BK288 4 (.int .i64 a0_4)
        have hcz65_5 := cz BK288 5 (.int .i64 a0_5)
        have hcz65_6 := cz BK288 6 (.int .i64 a0_6)
        have hfz65_0 := fz BK288 0
        have hfz65_1 := fz BK288 1
        have hfz65_2 := fz BK288 2
        have hfz65_3 := fz BK288 3
        have hfz65_4 := fz BK288 4
        have hfz65_5 := fz BK288 5
        have hfz65_6 := fz BK288 6
        have hnb66 := NB297_289.out
        have hnc66 := NB289_297.out
        have hnb67 := NB297_290.out
        have hnc67 := NB290_297.out
        have hcz68_0 := cz BK297 0 (.int .i64 x298000_2)
        have hcz68_1 := cz BK297 1 (.int .i64 x298001_2)
        have hcz68_2 := cz BK297 2 (u298002)
        have hfz68_0 := fz BK297 0
        have hfz68_1 := fz BK297 1
        have hfz68_2 := fz BK297 2
        obtain ⟨Ao69, co69, eo69⟩ := Kd.R_slice HO_298002.out
        subst eo69
        go_wp2_with (first | ((with_reducible refine gate_callee (f := 34) rfl ?_); refine goesL_ (some 41) rfl rfl Try.func34 (by kernel_rfl) rfl #[.agg #[.int .i64 a0_0, .int .i64 a0_1, .int .i64 a0_2, .int .i64 a0_3, .int .i64 a0_4, .int .i64 a0_5, .int .i64 a0_6], .agg #[.int .i64 x298000_2, .int .i64 x298001_2, .slice Ao69 x298002_2.length co69]] rfl aE ?_; (with_reducible refine (impl_Emitter_step.calls k2 a0_0 a0_1 a0_2 a0_3 a0_4 a0_5 a0_6 x298000_2 x298001_2 _ _ x298002_2 t298 t299 t300 false _ ?side1 ?side2 A48.out).mono ?_); (case side1 => exact cU (Kd.R_reads' HO_298002.out).2.2); (case side2 => exact (Kd.R_reads' HO_298002.out).2.1); rintro e w70 ⟨v301, rfl, ho0, hb⟩; refine ⟨_, rfl, ?_⟩; have HO302 := Aside0.mk (Kd.R_lower (Kd.R_new' ho0 (Kd.R_lt (rU HO_298002.out))) (below_size (lV4 GE288 GE289 GE290 GE297))); replace HO_298002 := Aside0.mk (Kd.R_elder' (rU HO_298002.out) (Kd.R_base ho0) hb); replace BK288 := bB (bV BK288) hb; replace BK289 := bB (bV BK289) hb; replace BK290 := bB (bV BK290) hb; replace BK297 := bB (bV BK297) hb; replace HB := bH (lV4 GE288 GE289 GE290 GE297) hb; (try clear hb); (try clear ho0); have hcz71_0 := cz BK297 0 (.int .i64 x298000_2); have hcz71_1 := cz BK297 1 (.int .i64 x298001_2); have hcz71_2 := cz BK297 2 (.slice Ao69 x298002_2.length co69); have hfz71_0 := fz BK297 0; have hfz71_1 := fz BK297 1; have hfz71_2 := fz BK297 2; obtain ⟨Ao72, co72, eo72⟩ := Kd.R_slice HO302.out; subst eo72) | ((with_reducible refine gate_store (t := 35) (p := 8) rfl ?_); refine store_event (t := 35) (p := 8) (v := ?vo_w73) (w1 := (((w70.setCell ⟨gb297, 0, none⟩ (.int .i64 t298)).setCell ⟨gb297, 1, none⟩ (.int .i64 t299)).setCell ⟨gb297, 2, none⟩ (.slice Ao72 t300.length co72))) ?hg ?ho ?hn ?hr ?_; (case ho => rfl); (case hg => rfl); (case hn => rfl); (case hr => first | (go_simp; done) | (go_simp; rfl) | (have hq0_ := (blk_cell BK297.out 0).trans (show _ = some _ from rfl); have hf0_ := blk_frozen BK297.out 0; have hq1_ := (blk_cell BK297.out 1).trans (show _ = some _ from rfl); have hf1_ := blk_frozen BK297.out 1; have hq2_ := (blk_cell BK297.out 2).trans (show _ = some _ from rfl); have hf2_ := blk_frozen BK297.out 2; first | (go_simp; done) | (go_simp; rfl))); intro w73 hw; replace HO_298002 : Aside0 (Kd.R k48 48 w73 w.heap.size (fun k_ => some k_ ≠ (.slice Ao72 t300.length co72 : Value).ownBlock) (.slice Ao69 x298002_2.length co69) x298002_2) := ⟨(by rw [hw]; exact (by (with_reducible repeat (first | apply Kd.R_alloc | apply Kd.R_drewN | apply Kd.R_drew)); exact Kd.R_mono (Kd.R_far (p := ⟨gb297, 2, none⟩) (Kd.R_far (p := ⟨gb297, 1, none⟩) (Kd.R_far (p := ⟨gb297, 0, none⟩) (Kd.R_types HO_298002.out BK297.out (by decide)) (fun _ hk => hk.2) (.int .i64 t298)) (fun _ hk => hk.2) (.int .i64 t299)) (fun _ hk => hk.2) (.slice Ao72 t300.length co72)) (fun _ hk => hk.1.2)))⟩; replace HO302 : Aside0 (Kd.R k48 48 w73 w.heap.size (fun k_ => some k_ ≠ (.slice Ao69 x298002_2.length co69 : Value).ownBlock) (.slice Ao72 t300.length co72) t300) := ⟨(by rw [hw]; exact (by (with_reducible repeat (first | apply Kd.R_alloc | apply Kd.R_drewN | apply Kd.R_drew)); exact Kd.R_mono (Kd.R_far (p := ⟨gb297, 2, none⟩) (Kd.R_far (p := ⟨gb297, 1, none⟩) (Kd.R_far (p := ⟨gb297, 0, none⟩) (Kd.R_types HO302.out BK297.out (by decide)) (fun _ hk => hk.2) (.int .i64 t298)) (fun _ hk => hk.2) (.int .i64 t299)) (fun _ hk => hk.2) (.slice Ao72 t300.length co72)) (fun _ hk => hk.1.2)))⟩; replace BK288 : Aside0 (w73.heap[gb288]? = some (.cells #[.int .i64 a0_0, .int .i64 a0_1, .int .i64 a0_2, .int .i64 a0_3, .int .i64 a0_4, .int .i64 a0_5, .int .i64 a0_6] 26 (0, 0))) := ⟨(by rw [hw]; exact (bG NB288_297 BK288))⟩; replace BK289 : Aside0 (w73.heap[gb289]? = some (.cells #[.int .i64 a1_0, .int .i64 a1_1, .slice A1_2 l1_2.length c1_2] 35 (0, 0))) := ⟨(by rw [hw]; exact (bG NB289_297 BK289))⟩; replace BK290 : Aside0 (w73.heap[gb290]? = some (.cells #[.int .i64 x291000_2, .int .i64 x291001_2, .slice none 0 0] 35 (0, 0))) := ⟨(by rw [hw]; exact (bG NB290_297 BK290))⟩; replace BK297 : Aside0 (w73.heap[gb297]? = some (.cells #[.int .i64 t298, .int .i64 t299, .slice Ao72 t300.length co72] 35 (0, 0))) := ⟨(by rw [hw]; exact (by refine bU ?_; refine blk_put (cs := #[.int .i64 t298, .int .i64 t299, .slice Ao69 x298002_2.length co69]) ?_ 2 _ rfl; refine bU ?_; refine blk_put (cs := #[.int .i64 t298, .int .i64 x298001_2, .slice Ao69 x298002_2.length co69]) ?_ 1 _ rfl; refine bU ?_; refine blk_put (cs := #[.int .i64 x298000_2, .int .i64 x298001_2, .slice Ao69 x298002_2.length co69]) ?_ 0 _ rfl; refine bU ?_; exact BK297.out))⟩; replace HB : Aside0 (Below w.heap.size w w73) := ⟨(by rw [hw]; exact (lV4 GE288 GE289 GE290 GE297))⟩; clear hw; have hnb74 := NB290_289.out; have hnc74 := NB289_290.out; have hcz75_0 := cz BK290 0 (.int .i64 x291000_2); have hcz75_1 := cz BK290 1 (.int .i64 x291001_2); have hcz75_2 := cz BK290 2 (.slice none 0 0); have hfz75_0 := fz BK290 0; have hfz75_1 := fz BK290 1; have hfz75_2 := fz BK290 2) | ((with_reducible refine gate_store (t := 35) (p := 6) rfl ?_); refine store_event (t := 35) (p := 6) (v := ?vo_w76) (w1 := (((w73.setCell ⟨gb290, 0, none⟩ (.int .i64 0)).setCell ⟨gb290, 1, none⟩ (.int .i64 0)).setCell ⟨gb290, 2, none⟩ (.slice none 0 0))) ?hg ?ho ?hn ?hr ?_; (case ho => rfl); (case hg => rfl); (case hn => rfl); (case hr => first | (go_simp; done) | (go_simp; rfl) | (have hq0_ := (blk_cell BK290.out 0).trans (show _ = some _ from rfl); have hf0_ := blk_frozen BK290.out 0; have hq1_ := (blk_cell BK290.out 1).trans (show _ = some _ from rfl); have hf1_ := blk_frozen BK290.out 1; have hq2_ := (blk_cell BK290.out 2).trans (show _ = some _ from rfl); have hf2_ := blk_frozen BK290.out 2; first | (go_simp; done) | (go_simp; rfl))); intro w76 hw; replace HO_298002 : Aside0 (Kd.R k48 48 w76 w.heap.size (fun k_ => some k_ ≠ (.slice Ao72 t300.length co72 : Value).ownBlock) (.slice Ao69 x298002_2.length co69) x298002_2) := ⟨(by rw [hw]; exact (by (with_reducible repeat (first | apply Kd.R_alloc | apply Kd.R_drewN | apply Kd.R_drew)); exact Kd.R_mono (Kd.R_far (p := ⟨gb290, 2, none⟩) (Kd.R_far (p := ⟨gb290, 1, none⟩) (Kd.R_far (p := ⟨gb290, 0, none⟩) (Kd.R_types HO_298002.out BK290.out (by decide)) (fun _ hk => hk.2) (.int .i64 0)) (fun _ hk => hk.2) (.int .i64 0)) (fun _ hk => hk.2) (.slice none 0 0)) (fun _ hk => hk.1)))⟩; replace HO302 : Aside0 (Kd.R k48 48 w76 w.heap.size (fun k_ => some k_ ≠ (.slice Ao69 x298002_2.length co69 : Value).ownBlock) (.slice Ao72 t300.length co72) t300) := ⟨(by rw [hw]; exact (by (with_reducible repeat (first | apply Kd.R_alloc | apply Kd.R_drewN | apply Kd.R_drew)); exact Kd.R_mono (Kd.R_far (p := ⟨gb290, 2, none⟩) (Kd.R_far (p := ⟨gb290, 1, none⟩) (Kd.R_far (p := ⟨gb290, 0, none⟩) (Kd.R_types HO302.out BK290.out (by decide)) (fun _ hk => hk.2) (.int .i64 0)) (fun _ hk => hk.2) (.int .i64 0)) (fun _ hk => hk.2) (.slice none 0 0)) (fun _ hk => hk.1)))⟩; replace BK288 : Aside0 (w76.heap[gb288]? = some (.cells #[.int .i64 a0_0, .int .i64 a0_1, .int .i64 a0_2, .int .i64 a0_3, .int .i64 a0_4, .int .i64 a0_5, .int .i64 a0_6] 26 (0, 0))) := ⟨(by rw [hw]; exact (bG NB288_290 BK288))⟩; replace BK289 : Aside0 (w76.heap[gb289]? = some (.cells #[.int .i64 a1_0, .int .i64 a1_1, .slice A1_2 l1_2.length c1_2] 35 (0, 0))) := ⟨(by rw [hw]; exact (bG NB289_290 BK289))⟩; replace BK290 : Aside0 (w76.heap[gb290]? = some (.cells #[.int .i64 0, .int .i64 0, .slice none 0 0] 35 (0, 0))) := ⟨(by rw [hw]; exact (by refine bU ?_; refine blk_put (cs := #[.int .i64 0, .int .i64 0, .slice none 0 0]) ?_ 2 _ rfl; refine bU ?_; refine blk_put (cs := #[.int .i64 0, .int .i64 x291001_2, .slice none 0 0]) ?_ 1 _ rfl; refine bU ?_; refine blk_put (cs := #[.int .i64 x291000_2, .int .i64 x291001_2, .slice none 0 0]) ?_ 0 _ rfl; refine bU ?_; exact BK290.out))⟩; replace BK297 : Aside0 (w76.heap[gb297]? = some (.cells #[.int .i64 t298, .int .i64 t299, .slice Ao72 t300.length co72] 35 (0, 0))) := ⟨(by rw [hw]; exact (bG NB297_290 BK297))⟩; replace HB : Aside0 (Below w.heap.size w w76) := ⟨(by rw [hw]; exact (lV4 GE288 GE289 GE290 GE297))⟩; clear hw))
        refine bodyPost_ret (results_ct rfl _ _ gb290 35 #[.int .i64 0, .int .i64 0, .slice none 0 0] (0, 0) _ rfl (bV BK290) Try.underlying35 rfl (by kernel_rfl)) rfl ?_
        exact ⟨_, eE, by first | exact Kd.R_nil _ _ _ _ _ | exact Kd.N_nil _ _ _ _ _ | exact Kd.V_nil _ _ _ _ _ | exact Kd.Q_nil _ _ _ _ _ | exact Kd.S_nil _ _ _ _ _, lV4 GE288 GE289 GE290 GE297⟩
      ·rw [if_neg c47] at H
       have c47b0 : decide (x36_2 < a2) = false := decide_eq_false c47
       clear c47
       simp only [Option.some.injEq, Prod.mk.injEq] at H
       obtain ⟨rfl, rfl, rfl, rfl⟩ := H
       have hnb77 := NB297_288.out
       have hnc77 := NB288_297.out
       have hnb78 := NB297_289.out
       have hnc78 := NB289_297.out
       have hnb79 := NB297_290.out
       have hnc79 := NB290_297.out
       have hcz80_0 := cz BK297 0 (.int .i64 x298000_2)
       have hcz80_1 := cz BK297 1 (.int .i64 x298001_2)
       have hcz80_2 := cz BK297 2 (u298002)
       have hfz80_0 := fz BK297 0
       have hfz80_1 := fz BK297 1
       have hfz80_2 := fz BK297 2
       have hnb81 := NB290_288.out
       have hnc81 := NB288_290.out
       have hnb82 := NB290_289.out
       have hnc82 := NB289_290.out
       have hcz83_0 := cz BK290 0 (.int .i64 x291000_2)
       have hcz83_1 := cz BK290 1 (.int .i64 x291001_2)
       have hcz83_2 := cz BK290 2 (.slice none 0 0)
       have hfz83_0 := fz BK290 0
       have hfz83_1 := fz BK290 1
       have hfz83_2 := fz BK290 2
       obtain ⟨Ao84, co84, eo84⟩ := Kd.R_slice HO_298002.out
       subst eo84
       go_wp2_with (first | ((with_reducible refine gate_store (t := 35) (p := 6) rfl ?_); refine store_event (t := 35) (p := 6) (v := ?vo_w85) (w1 := (((wr.setCell ⟨gb290, 0, none⟩ (.int .i64 x298000_2)).setCell ⟨gb290, 1, none⟩ (.int .i64 x298001_2)).setCell ⟨gb290, 2, none⟩ (.slice Ao84 x298002_2.length co84))) ?hg ?ho ?hn ?hr ?_; (case ho => rfl); (case hg => rfl); (case hn => rfl); (case hr => first | (go_simp; done) | (go_simp; rfl) | (have hq0_ := (blk_cell BK290.out 0).trans (show _ = some _ from rfl); have hf0_ := blk_frozen BK290.out 0; have hq1_ := (blk_cell BK290.out 1).trans (show _ = some _ from rfl); have hf1_ := blk_frozen BK290.out 1; have hq2_ := (blk_cell BK290.out 2).trans (show _ = some _ from rfl); have hf2_ := blk_frozen BK290.out 2; first | (go_simp; done) | (go_simp; rfl))); intro w85 hw; replace HO_298002 : Aside0 (Kd.R k48 48 w85 w.heap.size (fun _ => True) (.slice Ao84 x298002_2.length co84) x298002_2) := ⟨(by rw [hw]; exact (by (with_reducible repeat (first | apply Kd.R_alloc | apply Kd.R_drewN | apply Kd.R_drew)); exact Kd.R_mono (Kd.R_far (p := ⟨gb290, 2, none⟩) (Kd.R_far (p := ⟨gb290, 1, none⟩) (Kd.R_far (p := ⟨gb290, 0, none⟩) (Kd.R_types HO_298002.out BK290.out (by decide)) (fun _ hk => hk.2) (.int .i64 x298000_2)) (fun _ hk => hk.2) (.int .i64 x298001_2)) (fun _ hk => hk.2) (.slice Ao84 x298002_2.length co84)) (fun _ hk => trivial)))⟩; replace BK288 : Aside0 (w85.heap[gb288]? = some (.cells #[.int .i64 a0_0, .int .i64 a0_1, .int .i64 a0_2, .int .i64 a0_3, .int .i64 a0_4, .int .i64 a0_5, .int .i64 a0_6] 26 (0, 0))) := ⟨(by rw [hw]; exact (bG NB288_290 BK288))⟩; replace BK289 : Aside0 (w85.heap[gb289]? = some (.cells #[.int .i64 a1_0, .int .i64 a1_1, .slice A1_2 l1_2.length c1_2] 35 (0, 0))) := ⟨(by rw [hw]; exact (bG NB289_290 BK289))⟩; replace BK290 : Aside0 (w85.heap[gb290]? = some (.cells #[.int .i64 x298000_2, .int .i64 x298001_2, .slice Ao84 x298002_2.length co84] 35 (0, 0))) := ⟨(by rw [hw]; exact (by refine bU ?_; refine blk_put (cs := #[.int .i64 x298000_2, .int .i64 x298001_2, .slice none 0 0]) ?_ 2 _ rfl; refine bU ?_; refine blk_put (cs := #[.int .i64 x298000_2, .int .i64 x291001_2, .slice none 0 0]) ?_ 1 _ rfl; refine bU ?_; refine blk_put (cs := #[.int .i64 x291000_2, .int .i64 x291001_2, .slice none 0 0]) ?_ 0 _ rfl; refine bU ?_; exact BK290.out))⟩; replace BK297 : Aside0 (w85.heap[gb297]? = some (.cells #[.int .i64 x298000_2, .int .i64 x298001_2, .slice Ao84 x298002_2.length co84] 35 (0, 0))) := ⟨(by rw [hw]; exact (bG NB297_290 BK297))⟩; replace HB : Aside0 (Below w.heap.size w w85) := ⟨(by rw [hw]; exact (lV4 GE288 GE289 GE290 GE297))⟩; clear hw))
       refine bodyPost_ret (results_ct rfl _ _ gb290 35 #[.int .i64 x298000_2, .int .i64 x298001_2, .slice Ao84 x298002_2.length co84] (0, 0) _ rfl (bV BK290) Try.underlying35 rfl (by kernel_rfl)) rfl ?_
       exact ⟨_, eE, by (with_reducible repeat (first | apply Kd.R_alloc | apply Kd.R_drewN | apply Kd.R_drew)); exact HO_298002.out, lV4 GE288 GE289 GE290 GE297⟩
end Go.Proofs.Ythgfobcckoedaaa.PFnExactSparksAt
namespace Go.Proofs.Ythgfobcckoedaaa.PFnExactSparksAt
open Go.RowKit Go.Proofs.YthgfobcckoedaaaW.PrintWords Go.Proofs.YthgfobcckoedaaaW.PrintLast Go.Proofs.YthgfobcckoedaaaW.PrintMore
attribute [local go_sem] max2_int min2_int max_two min_two max_three min_three max_four min_four   -- for this text's walks alone
set_option linter.unusedVariables false
set_option linter.unusedSimpArgs false
def impl_SparksAt.f (k : Nat) (a0_0 : Int) (a0_1 : Int) (a0_2 : Int) (a0_3 : Int) (a0_4 : Int) (a0_5 : Int) (a0_6 : Int) (a1 : Int) (a2 : Int) : Option (Int × Bool) := (impl_RunCloud.f k a0_0 a0_1 a0_2 a0_3 a0_4 a0_5 a0_6 a1 0 ([] : List (S48)) a2).bind fun bt305 => (some ((bt305.2.2.1.length : Int), bt305.2.2.2))
theorem impl_SparksAt.mono : ∀ a0 a1 a2 a3 a4 a5 a6 a7 a8 k, LeO (impl_SparksAt.f k a0 a1 a2 a3 a4 a5 a6 a7 a8) (impl_SparksAt.f (k + 1) a0 a1 a2 a3 a4 a5 a6 a7 a8) := by
 intro a0 a1 a2 a3 a4 a5 a6 a7 a8 k
 unfold impl_SparksAt.f
 repeat' first
   | (with_reducible exact impl_RunCloud.mono _ _ _ _ _ _ _ _ _ _ _ _)
   | (with_reducible exact LeO.refl _)
   | (with_reducible exact LeO.none _)
   | (with_reducible refine LeO.ite ?_ ?_)
   | (with_reducible refine LeO.bind ?_ (fun _ => ?_))
   | exact impl_RunCloud.mono _ _ _ _ _ _ _ _ _ _ _ _
   | exact LeO.none _
   | refine LeO.ite ?_ ?_
   | refine LeO.bind ?_ (fun _ => ?_)
set_option maxHeartbeats 8000000 in
set_option maxRecDepth 100000 in
theorem impl_SparksAt.calls (k : Nat) (a0_0 : Int) (a0_1 : Int) (a0_2 : Int) (a0_3 : Int) (a0_4 : Int) (a0_5 : Int) (a0_6 : Int) (a1 : Int) (a2 : Int) (r1 : Int) (r2 : Bool) (w : World) (h : impl_SparksAt.f k a0_0 a0_1 a0_2 a0_3 a0_4 a0_5 a0_6 a1 a2 = some (r1, r2)) :
  Calls Try.prog 8 #[.agg #[.int .i64 a0_0, .int .i64 a0_1, .int .i64 a0_2, .int .i64 a0_3, .int .i64 a0_4, .int .i64 a0_5, .int .i64 a0_6], .int .i64 a1, .int .i64 a2] w fun e w' => e = .returned (.tuple #[.int .i64 r1, .bool r2]) ∧ Below w.heap.size w w' := by
 have hu26 := Try.underlying26
 have hu35 := Try.underlying35
 have HB := Aside0.mk (Below.refl w.heap.size w)
 have H : ((impl_RunCloud.f k a0_0 a0_1 a0_2 a0_3 a0_4 a0_5 a0_6 a1 0 ([] : List (S48)) a2).bind fun bt305 => (some ((bt305.2.2.1.length : Int), bt305.2.2.2))) = some (r1, r2) := h
 clear h
 replace H := Option.bind_eq_some_iff.mp H
 obtain ⟨⟨t305, t306, t307, t310⟩, A40, H⟩ := H
 replace H : (some ((t307.length : Int), t310)) = some (r1, r2) := H
 have A4 := Aside0.mk A40
 clear A40
 simp only [Option.some.injEq, Prod.mk.injEq] at H
 obtain ⟨rfl, rfl⟩ := H
 go_enter Try.func8, Try.ntmps8
 go_wp2_with (first | ((with_reducible refine gate_dst (N := 3) rfl ?_); refine box_event rfl (N := 3) rfl (cs := #[.int .i64 a0_0, .int .i64 a0_1, .int .i64 a0_2, .int .i64 a0_3, .int .i64 a0_4, .int .i64 a0_5, .int .i64 a0_6]) (t := 26) sE ?_; intro gb304 hg w5 hbox hb; have BK304 := Aside0.mk hbox; have GW304 := gS w hg (lU); have GE304 := gS w hg (lU); replace HB := bH (lU) hb; clear hb hbox hg; have hcz6_0 := cz BK304 0 (.int .i64 a0_0); have hcz6_1 := cz BK304 1 (.int .i64 a0_1); have hcz6_2 := cz BK304 2 (.int .i64 a0_2); have hcz6_3 := cz BK304 3 (.int .i64 a0_3); have hcz6_4 := cz BK304 4 (.int .i64 a0_4); have hcz6_5 := cz BK304 5 (.int .i64 a0_5); have hcz6_6 := cz BK304 6 (.int .i64 a0_6); have hfz6_0 := fz BK304 0; have hfz6_1 := fz BK304 1; have hfz6_2 := fz BK304 2; have hfz6_3 := fz BK304 3; have hfz6_4 := fz BK304 4; have hfz6_5 := fz BK304 5; have hfz6_6 := fz BK304 6) | ((with_reducible refine gate_callee (f := 17) rfl ?_); refine goesL_ (some 15) rfl rfl Try.func17 (by kernel_rfl) rfl #[.agg #[.int .i64 a0_0, .int .i64 a0_1, .int .i64 a0_2, .int .i64 a0_3, .int .i64 a0_4, .int .i64 a0_5, .int .i64 a0_6], .agg #[.int .i64 a1, .int .i64 0, .slice none 0 0], .int .i64 a2] rfl aE ?_; (refine (impl_RunCloud.calls k a0_0 a0_1 a0_2 a0_3 a0_4 a0_5 a0_6 a1 0 _ _ ([] : List (S48)) a2 t305 t306 t307 t310 _ ?side1 ?side2 A4.out).mono ?_); (case side1 => exact Kd.C_nil _ _); (case side2 => exact Nat.le_refl _); rintro e w7 ⟨v308, rfl, ho0, hb⟩; refine ⟨_, rfl, ?_⟩; have HO309 := Aside0.mk (Kd.R_lower ho0 (below_size (lV1 GE304))); replace BK304 := bB (bV BK304) hb; replace HB := bH (lV1 GE304) hb; (try clear hb); (try clear ho0)) | ((with_reducible refine gate_dst (N := 8) rfl ?_); refine box_event rfl (N := 8) rfl (cs := #[.int .i64 0, .int .i64 0, .slice none 0 0]) (t := 35) sE ?_; intro gb311 hg w8 hbox hb; replace HO309 := Aside0.mk (Kd.R_below (rU HO309.out) hb); have BK311 := Aside0.mk hbox; have GW311 := gS w hg (lV1 GE304); have GE311 := gS w hg (lV1 GE304); replace HB := bH (lV1 GE304) hb; have NB304_311 := nL hg (bV BK304); have NB311_304 := nG hg (bV BK304); replace BK304 := bB (bV BK304) hb; clear hb hbox hg; have hnb9 := NB311_304.out; have hnc9 := NB304_311.out; have hcz10_0 := cz BK311 0 (.int .i64 0); have hcz10_1 := cz BK311 1 (.int .i64 0); have hcz10_2 := cz BK311 2 (.slice none 0 0); have hfz10_0 := fz BK311 0; have hfz10_1 := fz BK311 1; have hfz10_2 := fz BK311 2; obtain ⟨Ao11, co11, eo11⟩ := Kd.R_slice HO309.out; subst eo11) | ((with_reducible refine gate_store (t := 35) (p := 8) rfl ?_); refine store_event (t := 35) (p := 8) (v := ?vo_w12) (w1 := (((w8.setCell ⟨gb311, 0, none⟩ (.int .i64 t305)).setCell ⟨gb311, 1, none⟩ (.int .i64 t306)).setCell ⟨gb311, 2, none⟩ (.slice Ao11 t307.length co11))) ?hg ?ho ?hn ?hr ?_; (case ho => rfl); (case hg => rfl); (case hn => rfl); (case hr => first | (go_simp; done) | (go_simp; rfl) | (have hq0_ := (blk_cell BK311.out 0).trans (show _ = some _ from rfl); have hf0_ := blk_frozen BK311.out 0; have hq1_ := (blk_cell BK311.out 1).trans (show _ = some _ from rfl); have hf1_ := blk_frozen BK311.out 1; have hq2_ := (blk_cell BK311.out 2).trans (show _ = some _ from rfl); have hf2_ := blk_frozen BK311.out 2; first | (go_simp; done) | (go_simp; rfl))); intro w12 hw; replace HO309 : Aside0 (Kd.R k48 48 w12 w.heap.size (fun _ => True) (.slice Ao11 t307.length co11) t307) := ⟨(by rw [hw]; exact (by (with_reducible repeat (first | apply Kd.R_alloc | apply Kd.R_drewN | apply Kd.R_drew)); exact Kd.R_mono (Kd.R_far (p := ⟨gb311, 2, none⟩) (Kd.R_far (p := ⟨gb311, 1, none⟩) (Kd.R_far (p := ⟨gb311, 0, none⟩) (Kd.R_types HO309.out BK311.out (by decide)) (fun _ hk => hk.2) (.int .i64 t305)) (fun _ hk => hk.2) (.int .i64 t306)) (fun _ hk => hk.2) (.slice Ao11 t307.length co11)) (fun _ hk => trivial)))⟩; replace BK304 : Aside0 (w12.heap[gb304]? = some (.cells #[.int .i64 a0_0, .int .i64 a0_1, .int .i64 a0_2, .int .i64 a0_3, .int .i64 a0_4, .int .i64 a0_5, .int .i64 a0_6] 26 (0, 0))) := ⟨(by rw [hw]; exact (bG NB304_311 BK304))⟩; replace BK311 : Aside0 (w12.heap[gb311]? = some (.cells #[.int .i64 t305, .int .i64 t306, .slice Ao11 t307.length co11] 35 (0, 0))) := ⟨(by rw [hw]; exact (by refine bU ?_; refine blk_put (cs := #[.int .i64 t305, .int .i64 t306, .slice none 0 0]) ?_ 2 _ rfl; refine bU ?_; refine blk_put (cs := #[.int .i64 t305, .int .i64 0, .slice none 0 0]) ?_ 1 _ rfl; refine bU ?_; refine blk_put (cs := #[.int .i64 0, .int .i64 0, .slice none 0 0]) ?_ 0 _ rfl; refine bU ?_; exact BK311.out))⟩; replace HB : Aside0 (Below w.heap.size w w12) := ⟨(by rw [hw]; exact (lV2 GE304 GE311))⟩; clear hw; have hcz13_0 := cz BK311 0 (.int .i64 t305); have hcz13_1 := cz BK311 1 (.int .i64 t306); have hcz13_2 := cz BK311 2 (.slice Ao11 t307.length co11); have hfz13_0 := fz BK311 0; have hfz13_1 := fz BK311 1; have hfz13_2 := fz BK311 2))
 go_ret2
 exact ⟨eE, lV2 GE304 GE311⟩
def laws_FnExactSparksAt.f (k : Nat) (a0_0 : Int) (a0_1 : Int) (a0_2 : Int) (a0_3 : Int) (a0_4 : Int) (a0_5 : Int) (a0_6 : Int) (a1 : Int) (a2 : Int) : Option (Bool) := (laws_toEmitter.f a0_0 a0_1 a0_2 a0_3 a0_4 a0_5 a0_6).bind fun bt313 => ((spec_SparksAt.f k bt313.1 bt313.2.1 bt313.2.2.1 bt313.2.2.2.1 bt313.2.2.2.2.1 bt313.2.2.2.2.2.1 bt313.2.2.2.2.2.2 a1 a2).bind fun bt320 => ((laws_toEmitter.f a0_0 a0_1 a0_2 a0_3 a0_4 a0_5 a0_6).bind fun bt322 => ((impl_SparksAt.f k bt322.1 bt322.2.1 bt322.2.2.1 bt322.2.2.2.1 bt322.2.2.2.2.1 bt322.2.2.2.2.2.1 bt322.2.2.2.2.2.2 a1 a2).bind fun bt329 => (if bt329.1 = bt320.1 then (if (bt329.2 != bt320.2) = true then (some false) else (some true)) else (some false)))))
theorem laws_FnExactSparksAt.mono : ∀ a0 a1 a2 a3 a4 a5 a6 a7 a8 k, LeO (laws_FnExactSparksAt.f k a0 a1 a2 a3 a4 a5 a6 a7 a8) (laws_FnExactSparksAt.f (k + 1) a0 a1 a2 a3 a4 a5 a6 a7 a8) := by
 intro a0 a1 a2 a3 a4 a5 a6 a7 a8 k
 unfold laws_FnExactSparksAt.f
 repeat' first
   | (with_reducible exact impl_SparksAt.mono _ _ _ _ _ _ _ _ _ _)
   | (with_reducible exact spec_SparksAt.mono _ _ _ _ _ _ _ _ _ _)
   | (with_reducible exact LeO.refl _)
   | (with_reducible exact LeO.none _)
   | (with_reducible refine LeO.ite ?_ ?_)
   | (with_reducible refine LeO.bind ?_ (fun _ => ?_))
   | exact impl_SparksAt.mono _ _ _ _ _ _ _ _ _ _
   | exact spec_SparksAt.mono _ _ _ _ _ _ _ _ _ _
   | exact LeO.none _
   | refine LeO.ite ?_ ?_
   | refine LeO.bind ?_ (fun _ => ?_)
set_option maxHeartbeats 8000000 in
set_option maxRecDepth 100000 in
theorem laws_FnExactSparksAt.calls (k : Nat) (a0_0 : Int) (a0_1 : Int) (a0_2 : Int) (a0_3 : Int) (a0_4 : Int) (a0_5 : Int) (a0_6 : Int) (a1 : Int) (a2 : Int) (r : Bool) (w : World) (h : laws_FnExactSparksAt.f k a0_0 a0_1 a0_2 a0_3 a0_4 a0_5 a0_6 a1 a2 = some r) :
  Calls Try.prog 3 #[.agg #[.int .i64 a0_0, .int .i64 a0_1, .int .i64 a0_2, .int .i64 a0_3, .int .i64 a0_4, .int .i64 a0_5, .int .i64 a0_6], .int .i64 a1, .int .i64 a2] w fun e w' => e = .returned (.bool r) ∧ Below w.heap.size w w' := by
 have hu23 := Try.underlying23
 have HB := Aside0.mk (Below.refl w.heap.size w)
 have H : ((laws_toEmitter.f a0_0 a0_1 a0_2 a0_3 a0_4 a0_5 a0_6).bind fun bt313 => ((spec_SparksAt.f k bt313.1 bt313.2.1 bt313.2.2.1 bt313.2.2.2.1 bt313.2.2.2.2.1 bt313.2.2.2.2.2.1 bt313.2.2.2.2.2.2 a1 a2).bind fun bt320 => ((laws_toEmitter.f a0_0 a0_1 a0_2 a0_3 a0_4 a0_5 a0_6).bind fun bt322 => ((impl_SparksAt.f k bt322.1 bt322.2.1 bt322.2.2.1 bt322.2.2.2.1 bt322.2.2.2.2.1 bt322.2.2.2.2.2.1 bt322.2.2.2.2.2.2 a1 a2).bind fun bt329 => (if bt329.1 = bt320.1 then (if (bt329.2 != bt320.2) = true then (some false) else (some true)) else (some false)))))) = some r := h
 clear h
 replace H := Option.bind_eq_some_iff.mp H
 obtain ⟨⟨t313, t314, t315, t316, t317, t318, t319⟩, A40, H⟩ := H
 replace H : ((spec_SparksAt.f k t313 t314 t315 t316 t317 t318 t319 a1 a2).bind fun bt320 => ((laws_toEmitter.f a0_0 a0_1 a0_2 a0_3 a0_4 a0_5 a0_6).bind fun bt322 => ((impl_SparksAt.f k bt322.1 bt322.2.1 bt322.2.2.1 bt322.2.2.2.1 bt322.2.2.2.2.1 bt322.2.2.2.2.2.1 bt322.2.2.2.2.2.2 a1 a2).bind fun bt329 => (if bt329.1 = bt320.1 then (if (bt329.2 != bt320.2) = true then (some false) else (some true)) else (some false))))) = some r := H
 have A4 := Aside0.mk A40
 clear A40
 replace H := Option.bind_eq_some_iff.mp H
 obtain ⟨⟨t320, t321⟩, A50, H⟩ := H
 replace H : ((laws_toEmitter.f a0_0 a0_1 a0_2 a0_3 a0_4 a0_5 a0_6).bind fun bt322 => ((impl_SparksAt.f k bt322.1 bt322.2.1 bt322.2.2.1 bt322.2.2.2.1 bt322.2.2.2.2.1 bt322.2.2.2.2.2.1 bt322.2.2.2.2.2.2 a1 a2).bind fun bt329 => (if bt329.1 = t320 then (if (bt329.2 != t321) = true then (some false) else (some true)) else (some false)))) = some r := H
 have A5 := Aside0.mk A50
 clear A50
 replace H := Option.bind_eq_some_iff.mp H
 obtain ⟨⟨t322, t323, t324, t325, t326, t327, t328⟩, A60, H⟩ := H
 replace H : ((impl_SparksAt.f k t322 t323 t324 t325 t326 t327 t328 a1 a2).bind fun bt329 => (if bt329.1 = t320 then (if (bt329.2 != t321) = true then (some false) else (some true)) else (some false))) = some r := H
 have A6 := Aside0.mk A60
 clear A60
 replace H := Option.bind_eq_some_iff.mp H
 obtain ⟨⟨t329, t330⟩, A70, H⟩ := H
 replace H : (if t329 = t320 then (if (t330 != t321) = true then (some false) else (some true)) else (some false)) = some r := H
 have A7 := Aside0.mk A70
 clear A70
 by_cases c8 : t329 = t320
 ·rw [if_pos c8] at H
  have c8b0 : (t329 == t320) = true := beq_iff_eq.mpr c8
  have c8b1 : (t329 != t320) = false := bne_eq_false_iff_eq.mpr c8
  clear c8
  by_cases c9 : (t330 != t321) = true
  ·rw [if_pos c9] at H
   have c9b0 : (t330 != t321) = true := c9
   (try (have c9b1 : decide (t330 = t321) = false := by simpa using c9))
   (try (have c9b2 : (t330 == t321) = false := by simpa using c9))
   (try (have c9b3 : ¬ (t330 = t321) := by simpa using c9))
   clear c9
   obtain rfl := Option.some.inj H
   go_enter Try.func3, Try.ntmps3
   go_wp2_with (first | ((with_reducible refine gate_dst (N := 3) rfl ?_); refine box_event rfl (N := 3) rfl (cs := #[.int .i64 a0_0, .int .i64 a0_1, .int .i64 a0_2, .int .i64 a0_3, .int .i64 a0_4, .int .i64 a0_5, .int .i64 a0_6]) (t := 23) sE ?_; intro gb312 hg w10 hbox hb; have BK312 := Aside0.mk hbox; have GW312 := gS w hg (lU); have GE312 := gS w hg (lU); replace HB := bH (lU) hb; clear hb hbox hg; have hcz11_0 := cz BK312 0 (.int .i64 a0_0); have hcz11_1 := cz BK312 1 (.int .i64 a0_1); have hcz11_2 := cz BK312 2 (.int .i64 a0_2); have hcz11_3 := cz BK312 3 (.int .i64 a0_3); have hcz11_4 := cz BK312 4 (.int .i64 a0_4); have hcz11_5 := cz BK312 5 (.int .i64 a0_5); have hcz11_6 := cz BK312 6 (.int .i64 a0_6); have hfz11_0 := fz BK312 0; have hfz11_1 := fz BK312 1; have hfz11_2 := fz BK312 2; have hfz11_3 := fz BK312 3; have hfz11_4 := fz BK312 4; have hfz11_5 := fz BK312 5; have hfz11_6 := fz BK312 6) | ((with_reducible refine gate_callee (f := 7) rfl ?_); refine goesL_ (some 13) rfl rfl Try.func7 (by kernel_rfl) rfl #[.agg #[.int .i64 a0_0, .int .i64 a0_1, .int .i64 a0_2, .int .i64 a0_3, .int .i64 a0_4, .int .i64 a0_5, .int .i64 a0_6]] rfl aE ?_; (with_reducible refine (laws_toEmitter.calls a0_0 a0_1 a0_2 a0_3 a0_4 a0_5 a0_6 t313 t314 t315 t316 t317 t318 t319 _ A4.out).mono ?_); rintro e w12 ⟨rfl, hb⟩; refine ⟨_, rfl, ?_⟩; replace BK312 := bB (bV BK312) hb; replace HB := bH (lV1 GE312) hb; (try clear hb)) | ((with_reducible refine gate_callee (f := 6) rfl ?_); refine goesL_ (some 16) rfl rfl Try.func6 (by kernel_rfl) rfl #[.agg #[.int .i64 t313, .int .i64 t314, .int .i64 t315, .int .i64 t316, .int .i64 t317, .int .i64 t318, .int .i64 t319], .int .i64 a1, .int .i64 a2] rfl aE ?_; (with_reducible refine (spec_SparksAt.calls k t313 t314 t315 t316 t317 t318 t319 a1 a2 t320 t321 _ A5.out).mono ?_); rintro e w13 ⟨rfl, hb⟩; refine ⟨_, rfl, ?_⟩; replace BK312 := bB (bV BK312) hb; replace HB := bH (lV1 GE312) hb; (try clear hb); have hcz14_0 := cz BK312 0 (.int .i64 a0_0); have hcz14_1 := cz BK312 1 (.int .i64 a0_1); have hcz14_2 := cz BK312 2 (.int .i64 a0_2); have hcz14_3 := cz BK312 3 (.int .i64 a0_3); have hcz14_4 := cz BK312 4 (.int .i64 a0_4); have hcz14_5 := cz BK312 5 (.int .i64 a0_5); have hcz14_6 := cz BK312 6 (.int .i64 a0_6); have hfz14_0 := fz BK312 0; have hfz14_1 := fz BK312 1; have hfz14_2 := fz BK312 2; have hfz14_3 := fz BK312 3; have hfz14_4 := fz BK312 4; have hfz14_5 := fz BK312 5; have hfz14_6 := fz BK312 6) | ((with_reducible refine gate_callee (f := 7) rfl ?_); refine goesL_ (some 21) rfl rfl Try.func7 (by kernel_rfl) rfl #[.agg #[.int .i64 a0_0, .int .i64 a0_1, .int .i64 a0_2, .int .i64 a0_3, .int .i64 a0_4, .int .i64 a0_5, .int .i64 a0_6]] rfl aE ?_; (with_reducible refine (laws_toEmitter.calls a0_0 a0_1 a0_2 a0_3 a0_4 a0_5 a0_6 t322 t323 t324 t325 t326 t327 t328 _ A6.out).mono ?_); rintro e w15 ⟨rfl, hb⟩; refine ⟨_, rfl, ?_⟩; replace BK312 := bB (bV BK312) hb; replace HB := bH (lV1 GE312) hb; (try clear hb)) | ((with_reducible refine gate_callee (f := 8) rfl ?_); refine goesL_ (some 24) rfl rfl Try.func8 (by kernel_rfl) rfl #[.agg #[.int .i64 t322, .int .i64 t323, .int .i64 t324, .int .i64 t325, .int .i64 t326, .int .i64 t327, .int .i64 t328], .int .i64 a1, .int .i64 a2] rfl aE ?_; (with_reducible refine (impl_SparksAt.calls k t322 t323 t324 t325 t326 t327 t328 a1 a2 t329 t330 _ A7.out).mono ?_); rintro e w16 ⟨rfl, hb⟩; refine ⟨_, rfl, ?_⟩; replace BK312 := bB (bV BK312) hb; replace HB := bH (lV1 GE312) hb; (try clear hb)))
   go_ret
   exact ⟨eE, lV1 GE312⟩
  ·rw [if_neg c9] at H
   have c9b0 : (t330 != t321) = false := by simpa using c9
   (try (have c9b1 : decide (t330 = t321) = true := by simpa using c9))
   (try (have c9b2 : (t330 == t321) = true := by simpa using c9))
   clear c9
   obtain rfl := Option.some.inj H
   go_enter Try.func3, Try.ntmps3
   go_wp2_with (first | ((with_reducible refine gate_dst (N := 3) rfl ?_); refine box_event rfl (N := 3) rfl (cs := #[.int .i64 a0_0, .int .i64 a0_1, .int .i64 a0_2, .int .i64 a0_3, .int .i64 a0_4, .int .i64 a0_5, .int .i64 a0_6]) (t := 23) sE ?_; intro gb312 hg w17 hbox hb; have BK312 := Aside0.mk hbox; have GW312 := gS w hg (lU); have GE312 := gS w hg (lU); replace HB := bH (lU) hb; clear hb hbox hg; have hcz18_0 := cz BK312 0 (.int .i64 a0_0); have hcz18_1 := cz BK312 1 (.int .i64 a0_1); have hcz18_2 := cz BK312 2 (.int .i64 a0_2); have hcz18_3 := cz BK312 3 (.int .i64 a0_3); have hcz18_4 := cz BK312 4 (.int .i64 a0_4); have hcz18_5 := cz BK312 5 (.int .i64 a0_5); have hcz18_6 := cz BK312 6 (.int .i64 a0_6); have hfz18_0 := fz BK312 0; have hfz18_1 := fz BK312 1; have hfz18_2 := fz BK312 2; have hfz18_3 := fz BK312 3; have hfz18_4 := fz BK312 4; have hfz18_5 := fz BK312 5; have hfz18_6 := fz BK312 6) | ((with_reducible refine gate_callee (f := 7) rfl ?_); refine goesL_ (some 13) rfl rfl Try.func7 (by kernel_rfl) rfl #[.agg #[.int .i64 a0_0, .int .i64 a0_1, .int .i64 a0_2, .int .i64 a0_3, .int .i64 a0_4, .int .i64 a0_5, .int .i64 a0_6]] rfl aE ?_; (with_reducible refine (laws_toEmitter.calls a0_0 a0_1 a0_2 a0_3 a0_4 a0_5 a0_6 t313 t314 t315 t316 t317 t318 t319 _ A4.out).mono ?_); rintro e w19 ⟨rfl, hb⟩; refine ⟨_, rfl, ?_⟩; replace BK312 := bB (bV BK312) hb; replace HB := bH (lV1 GE312) hb; (try clear hb)) | ((with_reducible refine gate_callee (f := 6) rfl ?_); refine goesL_ (some 16) rfl rfl Try.func6 (by kernel_rfl) rfl #[.agg #[.int .i64 t313, .int .i64 t314, .int .i64 t315, .int .i64 t316, .int .i64 t317, .int .i64 t318, .int .i64 t319], .int .i64 a1, .int .i64 a2] rfl aE ?_; (with_reducible refine (spec_SparksAt.calls k t313 t314 t315 t316 t317 t318 t319 a1 a2 t320 t321 _ A5.out).mono ?_); rintro e w20 ⟨rfl, hb⟩; refine ⟨_, rfl, ?_⟩; replace BK312 := bB (bV BK312) hb; replace HB := bH (lV1 GE312) hb; (try clear hb); have hcz21_0 := cz BK312 0 (.int .i64 a0_0); have hcz21_1 := cz BK312 1 (.int .i64 a0_1); have hcz21_2 := cz BK312 2 (.int .i64 a0_2); have hcz21_3 := cz BK312 3 (.int .i64 a0_3); have hcz21_4 := cz BK312 4 (.int .i64 a0_4); have hcz21_5 := cz BK312 5 (.int .i64 a0_5); have hcz21_6 := cz BK312 6 (.int .i64 a0_6); have hfz21_0 := fz BK312 0; have hfz21_1 := fz BK312 1; have hfz21_2 := fz BK312 2; have hfz21_3 := fz BK312 3; have hfz21_4 := fz BK312 4; have hfz21_5 := fz BK312 5; have hfz21_6 := fz BK312 6) | ((with_reducible refine gate_callee (f := 7) rfl ?_); refine goesL_ (some 21) rfl rfl Try.func7 (by kernel_rfl) rfl #[.agg #[.int .i64 a0_0, .int .i64 a0_1, .int .i64 a0_2, .int .i64 a0_3, .int .i64 a0_4, .int .i64 a0_5, .int .i64 a0_6]] rfl aE ?_; (with_reducible refine (laws_toEmitter.calls a0_0 a0_1 a0_2 a0_3 a0_4 a0_5 a0_6 t322 t323 t324 t325 t326 t327 t328 _ A6.out).mono ?_); rintro e w22 ⟨rfl, hb⟩; refine ⟨_, rfl, ?_⟩; replace BK312 := bB (bV BK312) hb; replace HB := bH (lV1 GE312) hb; (try clear hb)) | ((with_reducible refine gate_callee (f := 8) rfl ?_); refine goesL_ (some 24) rfl rfl Try.func8 (by kernel_rfl) rfl #[.agg #[.int .i64 t322, .int .i64 t323, .int .i64 t324, .int .i64 t325, .int .i64 t326, .int .i64 t327, .int .i64 t328], .int .i64 a1, .int .i64 a2] rfl aE ?_; (with_reducible refine (impl_SparksAt.calls k t322 t323 t324 t325 t326 t327 t328 a1 a2 t329 t330 _ A7.out).mono ?_); rintro e w23 ⟨rfl, hb⟩; refine ⟨_, rfl, ?_⟩; replace BK312 := bB (bV BK312) hb; replace HB := bH (lV1 GE312) hb; (try clear hb)))
   go_ret
   exact ⟨eE, lV1 GE312⟩
 ·rw [if_neg c8] at H
  have c8b0 : (t329 == t320) = false := beq_eq_false_iff_ne.mpr c8
  have c8b1 : (t329 != t320) = true := bne_iff_ne.mpr c8
  obtain rfl := Option.some.inj H
  go_enter Try.func3, Try.ntmps3
  go_wp2_with (first | ((with_reducible refine gate_dst (N := 3) rfl ?_); refine box_event rfl (N := 3) rfl (cs := #[.int .i64 a0_0, .int .i64 a0_1, .int .i64 a0_2, .int .i64 a0_3, .int .i64 a0_4, .int .i64 a0_5, .int .i64 a0_6]) (t := 23) sE ?_; intro gb312 hg w24 hbox hb; have BK312 := Aside0.mk hbox; have GW312 := gS w hg (lU); have GE312 := gS w hg (lU); replace HB := bH (lU) hb; clear hb hbox hg; have hcz25_0 := cz BK312 0 (.int .i64 a0_0); have hcz25_1 := cz BK312 1 (.int .i64 a0_1); have hcz25_2 := cz BK312 2 (.int .i64 a0_2); have hcz25_3 := cz BK312 3 (.int .i64 a0_3); have hcz25_4 := cz BK312 4 (.int .i64 a0_4); have hcz25_5 := cz BK312 5 (.int .i64 a0_5); have hcz25_6 := cz BK312 6 (.int .i64 a0_6); have hfz25_0 := fz BK312 0; have hfz25_1 := fz BK312 1; have hfz25_2 := fz BK312 2; have hfz25_3 := fz BK312 3; have hfz25_4 := fz BK312 4; have hfz25_5 := fz BK312 5; have hfz25_6 := fz BK312 6) | ((with_reducible refine gate_callee (f := 7) rfl ?_); refine goesL_ (some 13) rfl rfl Try.func7 (by kernel_rfl) rfl #[.agg #[.int .i64 a0_0, .int .i64 a0_1, .int .i64 a0_2, .int .i64 a0_3, .int .i64 a0_4, .int .i64 a0_5, .int .i64 a0_6]] rfl aE ?_; (with_reducible refine (laws_toEmitter.calls a0_0 a0_1 a0_2 a0_3 a0_4 a0_5 a0_6 t313 t314 t315 t316 t317 t318 t319 _ A4.out).mono ?_); rintro e w26 ⟨rfl, hb⟩; refine ⟨_, rfl, ?_⟩; replace BK312 := bB (bV BK312) hb; replace HB := bH (lV1 GE312) hb; (try clear hb)) | ((with_reducible refine gate_callee (f := 6) rfl ?_); refine goesL_ (some 16) rfl rfl Try.func6 (by kernel_rfl) rfl #[.agg #[.int .i64 t313, .int .i64 t314, .int .i64 t315, .int .i64 t316, .int .i64 t317, .int .i64 t318, .int .i64 t319], .int .i64 a1, .int .i64 a2] rfl aE ?_; (with_reducible refine (spec_SparksAt.calls k t313 t314 t315 t316 t317 t318 t319 a1 a2 t320 t321 _ A5.out).mono ?_); rintro e w27 ⟨rfl, hb⟩; refine ⟨_, rfl, ?_⟩; replace BK312 := bB (bV BK312) hb; replace HB := bH (lV1 GE312) hb; (try clear hb); have hcz28_0 := cz BK312 0 (.int .i64 a0_0); have hcz28_1 := cz BK312 1 (.int .i64 a0_1); have hcz28_2 := cz BK312 2 (.int .i64 a0_2); have hcz28_3 := cz BK312 3 (.int .i64 a0_3); have hcz28_4 := cz BK312 4 (.int .i64 a0_4); have hcz28_5 := cz BK312 5 (.int .i64 a0_5); have hcz28_6 := cz BK312 6 (.int .i64 a0_6); have hfz28_0 := fz BK312 0; have hfz28_1 := fz BK312 1; have hfz28_2 := fz BK312 2; have hfz28_3 := fz BK312 3; have hfz28_4 := fz BK312 4; have hfz28_5 := fz BK312 5; have hfz28_6 := fz BK312 6) | ((with_reducible refine gate_callee (f := 7) rfl ?_); refine goesL_ (some 21) rfl rfl Try.func7 (by kernel_rfl) rfl #[.agg #[.int .i64 a0_0, .int .i64 a0_1, .int .i64 a0_2, .int .i64 a0_3, .int .i64 a0_4, .int .i64 a0_5, .int .i64 a0_6]] rfl aE ?_; (with_reducible refine (laws_toEmitter.calls a0_0 a0_1 a0_2 a0_3 a0_4 a0_5 a0_6 t322 t323 t324 t325 t326 t327 t328 _ A6.out).mono ?_); rintro e w29 ⟨rfl, hb⟩; refine ⟨_, rfl, ?_⟩; replace BK312 := bB (bV BK312) hb; replace HB := bH (lV1 GE312) hb; (try clear hb)) | ((with_reducible refine gate_callee (f := 8) rfl ?_); refine goesL_ (some 24) rfl rfl Try.func8 (by kernel_rfl) rfl #[.agg #[.int .i64 t322, .int .i64 t323, .int .i64 t324, .int .i64 t325, .int .i64 t326, .int .i64 t327, .int .i64 t328], .int .i64 a1, .int .i64 a2] rfl aE ?_; (with_reducible refine (impl_SparksAt.calls k t322 t323 t324 t325 t326 t327 t328 a1 a2 t329 t330 _ A7.out).mono ?_); rintro e w30 ⟨rfl, hb⟩; refine ⟨_, rfl, ?_⟩; replace BK312 := bB (bV BK312) hb; replace HB := bH (lV1 GE312) hb; (try clear hb)))
  go_ret
  exact ⟨eE, lV1 GE312⟩
end Go.Proofs.Ythgfobcckoedaaa.PFnExactSparksAt
namespace Go.Proofs.YthgfobcckoedaaaO
open Go.ChangeShapes Go.WideShapes Go.Proofs.YthgfobcckoedaaaW.PrintWords Go.RowKit
def In64 (n : Int) : Prop := -9223372036854775808 ≤ n ∧ n ≤ 9223372036854775807
def Opens {α : Type} (P : Program) (t : TypeId) (d : Kd α) (g : α → Prop) : Prop :=
  ∀ {H : Type} (enc : TypeId × Value → H) (w : World) (fuel : Nat) (cs : List Value) (y : DataW H) (ps : List MemPlace),
    DataW.trod enc P w 0 (fun _ => true) true fuel t cs = some (y, ps) → (∀ n ∈ y.weights P t, n ≤ reachBytes) → ∃ x, d.K w x cs ∧ g x
theorem Opens.imp {α : Type} {P : Program} {t : TypeId} {d : Kd α} {g g' : α → Prop} (h : Opens P t d g) (k : ∀ x, g x → g' x) : Opens P t d g' := by
  intro H enc w fuel cs y ps ht hw
  obtain ⟨x, hx, hg⟩ := h enc w fuel cs y ps ht hw
  exact ⟨x, hx, k x hg⟩
theorem opens_int {P : Program} {t : TypeId} {k : IntKind} (ht : P.underlying t = some (.int k)) : Opens P t (Kd.int k) (fun n => (Lit.int k n).wf = true) := by
  intro H enc w fuel cs y ps h _
  obtain ⟨n, rfl, _, hw⟩ := DataW.trod_int ht h
  exact ⟨n, rfl, hw⟩
theorem wf_i64 {n : Int} (h : (Lit.int .i64 n).wf = true) : In64 n := bounds_i64 h
theorem opens_i64 {P : Program} {t : TypeId} (ht : P.underlying t = some (.int .i64)) : Opens P t (Kd.int .i64) In64 := Opens.imp (opens_int ht) fun _ h => wf_i64 h
def OpensL {α : Type} (P : Program) (fs : List Field) (off : Nat) (d : Kd α) (g : α → Prop) : Prop :=
  ∀ {H : Type} (enc : TypeId × Value → H) (w : World) (n : Nat) (cs : List Value) (ys : List (DataW H × List MemPlace)), ys.length = fs.length →
    (∀ (i : Nat) (f : Field), fs[i]? = some f → DataW.trod enc P w 0 (fun _ => true) true n f.type ((cs.drop f.offset).take (P.cellsOf f.type)) = ys[i]?) →
    (∀ m ∈ DataW.weightsEach P (fs.map (·.type)) (ys.map (·.1)), m ≤ reachBytes) → ∃ x, d.K w x ((cs.drop off).take d.sz) ∧ g x
theorem opensL_one {α : Type} {P : Program} {f : Field} {off : Nat} {d : Kd α} {g : α → Prop} (ho : f.offset = off) (hs : P.cellsOf f.type = d.sz) (h : Opens P f.type d g) : OpensL P [f] off d g := by
  intro H enc w n cs ys hl hf hw
  match ys, hl with
  | [y], _ =>
    have h0 := hf 0 f rfl
    rw [ho, hs] at h0
    exact h enc w n _ y.1 y.2 h0 (fun m hm => hw m (by simp only [List.map_cons, DataW.weightsEach, List.mem_append]; exact .inl hm))
theorem opensL_cons {α β : Type} {P : Program} {f : Field} {fs : List Field} {off : Nat} {a : Kd α} {b : Kd β} {ga : α → Prop} {gb : β → Prop} (ho : f.offset = off) (hs : P.cellsOf f.type = a.sz) (h : Opens P f.type a ga) (hr : OpensL P fs (off + a.sz) b gb) :
    OpensL P (f :: fs) off (Kd.pair a b) (fun x => ga x.1 ∧ gb x.2) := by
  intro H enc w n cs ys hl hf hw
  match ys, hl with
  | y :: ys, hl =>
    have h0 := hf 0 f rfl
    rw [ho, hs] at h0
    obtain ⟨x, hx, hgx⟩ := h enc w n _ y.1 y.2 h0 (fun m hm => hw m (by simp only [List.map_cons, DataW.weightsEach, List.mem_append]; exact .inl hm))
    obtain ⟨x', hx', hgx'⟩ := hr enc w n cs ys (by simpa using hl) (fun i f' hf' => by have := hf (i + 1) f' (by simpa using hf'); simpa using this) (fun m hm => hw m (by simp only [List.map_cons, DataW.weightsEach, List.mem_append]; exact .inr hm))
    refine ⟨(x, x'), ⟨_, _, ?_, hx, hx'⟩, hgx, hgx'⟩
    show (cs.drop off).take (a.sz + b.sz) = _
    rw [List.take_add, List.drop_drop]
theorem opens_struct {α : Type} {P : Program} {t : TypeId} {fs : Array Field} {d : Kd α} {g : α → Prop} (ht : P.underlying t = some (.struct fs)) (hs : P.cellsOf t = d.sz) (h : OpensL P fs.toList 0 d g) : Opens P t d g := by
  intro H enc w fuel cs y ps hy hw
  obtain ⟨xs, n, rfl, hx, hl, hxl, hget⟩ := DataW.trod_struct ht hy
  obtain ⟨rfl, _⟩ := Prod.mk.inj hx
  simp only [DataW.weights, ht] at hw
  obtain ⟨x, hK, hg⟩ := h enc w n cs xs (by simpa using hxl) (fun i f hf => hget i f (by simpa using hf)) (by simpa using hw)
  rw [List.drop_zero, List.take_of_length_le (by omega)] at hK
  exact ⟨x, hK, hg⟩
theorem weights_of {H : Type} {P : Program} {ts : List TypeId} {ds : List (DataW H)} {j : Nat} {t : TypeId} {d : DataW H} (hsz : (DataW.weightsEach P ts ds).all (· ≤ reachBytes) = true) (ht : ts[j]? = some t) (hd : ds[j]? = some d) : ∀ n ∈ d.weights P t, n ≤ reachBytes := by
  intro n hn
  have := List.all_eq_true.1 hsz n (DataW.weights_mem_each ht hd n hn)
  simpa using this
theorem open_agg {α H : Type} {enc : TypeId × Value → H} {P : Program} {W : World} {t : TypeId} {d : Kd α} {g : α → Prop} {cs : Array Value} {y : DataW H} {ps : List MemPlace} (h : Opens P t d g)
    (hy : DataW.Trod enc P W 0 (fun _ => true) true t (.agg cs) y ps) (hw : ∀ n ∈ y.weights P t, n ≤ reachBytes) : ∃ x : α, d.K W x cs.toList ∧ g x := by
  obtain ⟨fuel, hf⟩ := hy
  exact h enc W fuel _ y ps (by simpa [Value.cells] using hf) hw
end Go.Proofs.YthgfobcckoedaaaO
namespace Go.Proofs.Ythgfobcckoedaaa.OFnExactSparksAt
open Go.RowKit Go.Proofs.Ythgfobcckoedaaa.PFnExactSparksAt Go.Proofs.YthgfobcckoedaaaW.PrintWords Go.Proofs.YthgfobcckoedaaaO
end Go.Proofs.Ythgfobcckoedaaa.OFnExactSparksAt
namespace Go.Proofs.YthgfobcckoedaaaO
open Go.RowKit Go.Proofs.YthgfobcckoedaaaW.PrintWords Go.Proofs.YthgfobcckoedaaaW.PrintLast Go.Proofs.YthgfobcckoedaaaW.PrintMore
theorem w64 {n : Int} (h : -9223372036854775808 ≤ n) (k : n ≤ 9223372036854775807) : wrap64 n = n := by unfold wrap64; omega
theorem w64s (i : Nat) (h : i < 4611686018427387904) : wrap64 ((i : Int) + 1) = ((i + 1 : Nat) : Int) := by unfold wrap64; omega
theorem ev_some {α : Type} {x r : α} (h : x = r) : Ev (fun _ => some x) r := ⟨0, fun _ _ => by rw [h]⟩
theorem ev_pos {α : Type} {c : Prop} [Decidable c] {f g : Nat → Option α} {r : α} (h : c) (k : Ev f r) : Ev (fun n => if c then f n else g n) r := by
  obtain ⟨K, hK⟩ := k
  exact ⟨K, fun n hn => (if_pos h).trans (hK n hn)⟩
theorem ev_neg {α : Type} {c : Prop} [Decidable c] {f g : Nat → Option α} {r : α} (h : ¬ c) (k : Ev g r) : Ev (fun n => if c then f n else g n) r := by
  obtain ⟨K, hK⟩ := k
  exact ⟨K, fun n hn => (if_neg h).trans (hK n hn)⟩
theorem ev_ite {α : Type} {c : Prop} [Decidable c] {f g : Nat → Option α} {r : α} (h : c → Ev f r) (k : ¬ c → Ev g r) : Ev (fun n => if c then f n else g n) r := by
  by_cases hc : c
  · exact ev_pos hc (h hc)
  · exact ev_neg hc (k hc)
theorem ev_bindc {α β : Type} {x : Option α} {f : Nat → α → Option β} {a : α} {r : β} (h : x = some a) (k : Ev (fun n => f n a) r) : Ev (fun n => x.bind (f n)) r := by
  subst h; exact k
theorem ev_for {σ ρ : Type} (n : Nat) (L : Nat → Nat → σ → Option ρ) (I : Nat → σ → Prop) (Q : ρ → Prop)
    (hend : ∀ s, I n s → ∃ r, Ev (fun k => L k n s) r ∧ Q r)
    (hstep : ∀ i s, i < n → I i s → (∃ r, Ev (fun k => L k i s) r ∧ Q r) ∨ ∃ s', I (i + 1) s' ∧ ∀ r, Ev (fun k => L k (i + 1) s') r → Ev (fun k => L k i s) r) :
    ∀ i s, i ≤ n → I i s → ∃ r, Ev (fun k => L k i s) r ∧ Q r := by
  have key : ∀ d i s, i + d = n → I i s → ∃ r, Ev (fun k => L k i s) r ∧ Q r := by
    intro d
    induction d with
    | zero => intro i s hi h; obtain rfl : i = n := by omega
              exact hend s h
    | succ d ih =>
      intro i s hi h
      rcases hstep i s (by omega) h with h' | ⟨s', hI, hr⟩
      · exact h'
      · obtain ⟨r, hr', hQ⟩ := ih (i + 1) s' (by omega) hI
        exact ⟨r, hr r hr', hQ⟩
  intro i s hi h
  exact key (n - i) i s (by omega) h
theorem ev_for1 {σ ρ : Type} (n : Nat) (L : Nat → Nat → σ → Option ρ) (I : Nat → σ → Prop) (a : ρ)
    (hend : ∀ s, I n s → Ev (fun k => L k n s) a)
    (hstep : ∀ i s, i < n → I i s → Ev (fun k => L k i s) a ∨ ∃ s', I (i + 1) s' ∧ ∀ r, Ev (fun k => L k (i + 1) s') r → Ev (fun k => L k i s) r) :
    ∀ i s, i ≤ n → I i s → Ev (fun k => L k i s) a := by
  intro i s hi h
  obtain ⟨r, hr, rfl⟩ := ev_for n L I (fun r => r = a) (fun s hs => ⟨a, hend s hs, rfl⟩) (fun i s hi hs => (hstep i s hi hs).imp (fun h => ⟨a, h, rfl⟩) id) i s hi h
  exact hr
theorem rd_get {xs : List Int} {i : Nat} (h : i < xs.length) : rd xs (i : Int) = xs[i] := by simp [rd, List.getD_eq_getElem?_getD, h]
theorem bool_false {P : Prop} {b : Bool} (h : b = true ↔ P) (k : ¬ P) : b = false := by
  cases b with
  | false => rfl
  | true => exact absurd (h.1 rfl) k
theorem ev_all (n : Nat) (L : Nat → Nat → Option Bool) (ok : Nat → Prop) (e b : Bool) (hb : b = true ↔ e = true ∧ ∀ i, i < n → ok i) (hend : Ev (fun k => L k n) e)
    (hyes : ∀ i, i < n → (∀ j, j < i → ok j) → ok i → ∀ r, Ev (fun k => L k (i + 1)) r → Ev (fun k => L k i) r) (hno : ∀ i, i < n → (∀ j, j < i → ok j) → ¬ ok i → Ev (fun k => L k i) false) : Ev (fun k => L k 0) b := by
  refine ev_for1 n (fun k i (_ : Unit) => L k i) (fun i _ => ∀ j, j < i → ok j) b ?_ ?_ 0 () (Nat.zero_le _) (fun j hj => by omega)
  · intro _ h
    have : b = e := by
      cases e with
      | false => exact bool_false hb (fun h => by simp at h)
      | true => exact hb.2 ⟨rfl, h⟩
    rw [this]
    exact hend
  · intro i _ hi h
    by_cases ho : ok i
    · refine .inr ⟨(), fun j hj => ?_, hyes i hi h ho⟩
      rcases Nat.lt_or_ge j i with h1 | h1
      · exact h j h1
      · obtain rfl : j = i := by omega
        exact ho
    · have : b = false := bool_false hb (fun h => ho (h.2 i hi))
      rw [this]
      exact .inl (hno i hi h ho)
theorem wrap_u64 {n : Int} (h0 : 0 ≤ n) (h1 : n ≤ 18446744073709551615) : IntKind.u64.wrap n = n := by
  have e : IntKind.u64.wrap n = n % 18446744073709551616 := by simp only [IntKind.wrap, IntKind.bits, IntKind.signed]; rfl
  rw [e]; omega
def Chain {α : Type} (E : α → Int → Int → Prop) : List α → Int → Int → Prop
  | [], c, d => c = d
  | x :: r, c, d => ∃ m, E x c m ∧ Chain E r m d
theorem Chain.snoc {α : Type} {E : α → Int → Int → Prop} : ∀ {l : List α} {c m d : Int} {x : α}, Chain E l c m → E x m d → Chain E (l ++ [x]) c d
  | [], _, _, _, _, h, k => by cases h; exact ⟨_, k, rfl⟩
  | _ :: _, _, _, _, _, ⟨q, h1, h2⟩, k => ⟨q, h1, Chain.snoc h2 k⟩
theorem ev_index {α : Type} (L : Nat → List α → Int → Int → Option Int) (p : Nat → List α → Int → Option Bool)
    (hL : ∀ k xs n i, L (k + 1) xs n i = if i < n then (if 0 ≤ i then (if i < (xs.length : Int) then ((p k xs i).bind fun t => if t = true then some i else L k xs n (wrap64 (i + 1))) else none) else none) else some (-1))
    (xs : List α) (hx : xs.length < 4611686018427387904) (P : Nat → Bool) (he : ∀ i : Nat, i < xs.length → Ev (fun k => p k xs (i : Int)) (P i)) :
    ∃ r, Ev (fun k => L k xs (xs.length : Int) 0) r ∧ ((r = -1 ∧ ∀ i, i < xs.length → P i = false) ∨ ∃ i : Nat, i < xs.length ∧ r = (i : Int) ∧ P i = true ∧ ∀ j, j < i → P j = false) := by
  refine ev_for xs.length (fun k i (_ : Unit) => L k xs (xs.length : Int) (i : Int)) (fun i _ => ∀ j, j < i → P j = false) (fun r => (r = -1 ∧ ∀ i, i < xs.length → P i = false) ∨ ∃ i : Nat, i < xs.length ∧ r = (i : Int) ∧ P i = true ∧ ∀ j, j < i → P j = false) ?_ ?_ 0 () (Nat.zero_le _) (fun j hj => by omega)
  · intro _ h
    exact ⟨-1, Ev.step (fun k => hL k xs _ _) (ev_neg (by omega) (ev_some rfl)), .inl ⟨rfl, h⟩⟩
  · intro i _ hi h
    cases hP : P i with
    | true =>
      refine .inl ⟨(i : Int), Ev.step (fun k => hL k xs _ _) (ev_pos (by omega) (ev_pos (by omega) (ev_pos (by omega) (Ev.bind (he i hi) (ev_pos hP (ev_some rfl)))))), .inr ⟨i, hi, rfl, hP, h⟩⟩
    | false =>
      refine .inr ⟨(), fun j hj => ?_, fun r hr => Ev.step (fun k => hL k xs _ _) (ev_pos (by omega) (ev_pos (by omega) (ev_pos (by omega) (Ev.bind (he i hi) (ev_neg (by rw [hP]; decide) ?_)))))⟩
      · rcases Nat.lt_or_ge j i with h1 | h1
        · exact h j h1
        · obtain rfl : j = i := by omega
          exact hP
      · rw [w64s i (by omega)]
        exact hr
theorem ev_contains {α : Type} (L : Nat → List α → Int → Int → Option Int) (p : Nat → List α → Int → Option Bool)
    (hL : ∀ k xs n i, L (k + 1) xs n i = if i < n then (if 0 ≤ i then (if i < (xs.length : Int) then ((p k xs i).bind fun t => if t = true then some i else L k xs n (wrap64 (i + 1))) else none) else none) else some (-1))
    (xs : List α) (hx : xs.length < 4611686018427387904) (P : Nat → Bool) (he : ∀ i : Nat, i < xs.length → Ev (fun k => p k xs (i : Int)) (P i)) (b : Bool) (hb : b = true ↔ ∃ i, i < xs.length ∧ P i = true) :
    Ev (fun k => (L k xs (xs.length : Int) 0).bind fun t => some (decide (t ≥ 0))) b := by
  obtain ⟨r, hr, h⟩ := ev_index L p hL xs hx P he
  refine Ev.bind hr (ev_some ?_)
  rw [Bool.eq_iff_iff, decide_eq_true_eq, hb]
  rcases h with ⟨rfl, h⟩ | ⟨i, hi, rfl, hP, _⟩
  · constructor
    · intro h'; omega
    · rintro ⟨i, hi, hP⟩; rw [h i hi] at hP; cases hP
  · exact ⟨fun _ => ⟨i, hi, hP⟩, fun _ => by omega⟩
end Go.Proofs.YthgfobcckoedaaaO
namespace Go.Proofs.Ythgfobcckoedaaa.Pure
open Go.RowKit Go.Proofs.Ythgfobcckoedaaa.PFnExactSparksAt Go.Proofs.Ythgfobcckoedaaa.OFnExactSparksAt Go.Proofs.YthgfobcckoedaaaW.PrintWords Go.Proofs.YthgfobcckoedaaaW.PrintLast Go.Proofs.YthgfobcckoedaaaW.PrintMore Go.Proofs.YthgfobcckoedaaaO
set_option linter.unusedVariables false
set_option linter.unusedSimpArgs false
theorem st_spec_GoodCloud_j0 {r : (Bool)} {x20 : Bool} {x112000 : Int} {x112001 : Int} {x112002 : List (S48)} (h : Ev (fun k => if x20 = true then (some false) else (spec_GoodCloud.l0 k x112002 (x112002.length : Int) 0)) r) : Ev (fun k => spec_GoodCloud.j0 k x20 x112000 x112001 x112002) r := Ev.step (fun k => by rw [spec_GoodCloud.j0]) h
theorem st_spec_GoodCloud_l0 {r : (Bool)} {x22 : List (S48)} {x23 : Int} {x24 : Int} (h : Ev (fun k => if x24 < x23 then (if 0 ≤ x24 then (if x24 < (x22.length : Int) then ((spec_GoodFixed.f ((rd_T48 x22 x24).f0)).bind fun t116 => (if t116 = true then ((spec_GoodFixed.f ((rd_T48 x22 x24).f1)).bind fun t117 => (if t117 = true then ((spec_GoodFixed.f ((rd_T48 x22 x24).f2)).bind fun t118 => (if t118 = true then ((spec_GoodFixed.f ((rd_T48 x22 x24).f3)).bind fun t119 => (if t119 = true then ((spec_l1In.f ((rd_T48 x22 x24).f4) 1 200).bind fun t120 => (if t120 = true then (spec_GoodCloud.l0 k x22 x23 (wrap64 (x24 + 1))) else (some false))) else (some false))) else (some false))) else (some false))) else (some false))) else (none)) else (none)) else (some true)) r) : Ev (fun k => spec_GoodCloud.l0 k x22 x23 x24) r := Ev.step (fun k => by rw [spec_GoodCloud.l0]) h
theorem st_spec_l1Near_j0 {r : (Int)} {x0 : Bool} {x2 : Int} {x139000 : Int} {x139001 : Int} (h : Ev (fun k => (spec_l1Over.f k x139000 x139001 (IntKind.u64.wrap (2 * x2)) 4398046511104).bind fun t141 => (if x0 = true then ((spec_l1Cut.f (wrap64 (-(wrap64 (t141))))).bind fun t142 => (some t142)) else ((spec_l1Cut.f (wrap64 (t141))).bind fun t143 => (some t143)))) r) : Ev (fun k => spec_l1Near.j0 k x0 x2 x139000 x139001) r := Ev.step (fun k => by rw [spec_l1Near.j0]) h
theorem st_spec_FixMul_j0 {r : (Int)} {x0 : Int} {x1 : Int} {x12 : Bool} (h : Ev (fun k => if x12 = true then (some 0) else ((spec_l1Abs.f x0).bind fun t146 => ((spec_l1Abs.f x1).bind fun t147 => ((spec_l1Times.f (IntKind.u64.wrap (t146)) (IntKind.u64.wrap (t147))).bind fun bt148 => ((spec_l1Near.f k ((decide (x0 < 0)) != (decide (x1 < 0))) bt148.1 bt148.2 65536).bind fun t150 => (some t150)))))) r) : Ev (fun k => spec_FixMul.j0 k x0 x1 x12) r := Ev.step (fun k => by rw [spec_FixMul.j0]) h
theorem st_spec_StepCloud_j0 {r : (Int × Int × (List (S48)) × Bool)} {x27 : Bool} {x166000 : Int} {x166001 : Int} {x166002 : Int} {x166003 : Int} {x166004 : Int} {x166005 : Int} {x166006 : Int} {x167000 : Int} {x167001 : Int} {x167002 : List (S48)} (h : Ev (fun k => if x27 = true then (some (0, 0, ([] : List (S48)), false)) else (spec_StepCloud.l0 k x167002 (x167002.length : Int) 0 x166000 x166001 x166002 x166003 x166004 x166005 x166006 x167000 x167001 x167002 x167000 (wrap64 (x167001 + 1)) ([] : List (S48)))) r) : Ev (fun k => spec_StepCloud.j0 k x27 x166000 x166001 x166002 x166003 x166004 x166005 x166006 x167000 x167001 x167002) r := Ev.step (fun k => by rw [spec_StepCloud.j0]) h
theorem st_spec_StepCloud_l0 {r : (Int × Int × (List (S48)) × Bool)} {x36 : List (S48)} {x37 : Int} {x38 : Int} {x166000 : Int} {x166001 : Int} {x166002 : Int} {x166003 : Int} {x166004 : Int} {x166005 : Int} {x166006 : Int} {x167000 : Int} {x167001 : Int} {x167002 : List (S48)} {x171000 : Int} {x171001 : Int} {x171002 : List (S48)} (h : Ev (fun k => if x38 < x37 then (if 0 ≤ x38 then (if x38 < (x36.length : Int) then (if (wrap64 (((rd_T48 x36 x38).f4) - 1)) = 0 then (spec_StepCloud.l0 k x36 x37 (wrap64 (x38 + 1)) x166000 x166001 x166002 x166003 x166004 x166005 x166006 x167000 x167001 x167002 x171000 x171001 x171002) else (if x171002.length < 3518437208883 then (spec_StepCloud.l0 k x36 x37 (wrap64 (x38 + 1)) x166000 x166001 x166002 x166003 x166004 x166005 x166006 x167000 x167001 x167002 x171000 x171001 (x171002 ++ [(⟨wrap64 (((rd_T48 x36 x38).f0) + ((rd_T48 x36 x38).f2)), wrap64 (((rd_T48 x36 x38).f1) + ((rd_T48 x36 x38).f3)), (rd_T48 x36 x38).f2, wrap64 (((rd_T48 x36 x38).f3) - x166006), wrap64 (((rd_T48 x36 x38).f4) - 1)⟩ : S48)])) else (none))) else (none)) else (none)) else (if x166002 = 0 then (none) else (if (Int.tmod x167001 x166002) = 0 then (spec_StepCloud.l1 k 0 x166000 x166001 x166002 x166003 x166004 x166005 x166006 x171000 x171001 x171002) else ((spec_GoodCloud.f k x171000 x171001 x171002).bind fun t188 => (if t188 = true then (some (x171000, x171001, x171002, true)) else (some (0, 0, ([] : List (S48)), false))))))) r) : Ev (fun k => spec_StepCloud.l0 k x36 x37 x38 x166000 x166001 x166002 x166003 x166004 x166005 x166006 x167000 x167001 x167002 x171000 x171001 x171002) r := Ev.step (fun k => by rw [spec_StepCloud.l0]) h
theorem st_spec_StepCloud_l1 {r : (Int × Int × (List (S48)) × Bool)} {x9 : Int} {x166000 : Int} {x166001 : Int} {x166002 : Int} {x166003 : Int} {x166004 : Int} {x166005 : Int} {x166006 : Int} {x171000 : Int} {x171001 : Int} {x171002 : List (S48)} (h : Ev (fun k => if x9 < x166003 then (spec_StepCloud.j3 k x9 (decide ((x171002.length : Int) < 60)) x166000 x166001 x166002 x166003 x166004 x166005 x166006 x171000 x171001 x171002) else (spec_StepCloud.j3 k x9 false x166000 x166001 x166002 x166003 x166004 x166005 x166006 x171000 x171001 x171002)) r) : Ev (fun k => spec_StepCloud.l1 k x9 x166000 x166001 x166002 x166003 x166004 x166005 x166006 x171000 x171001 x171002) r := Ev.step (fun k => by rw [spec_StepCloud.l1]) h
theorem st_spec_StepCloud_j3 {r : (Int × Int × (List (S48)) × Bool)} {x9 : Int} {x89 : Bool} {x166000 : Int} {x166001 : Int} {x166002 : Int} {x166003 : Int} {x166004 : Int} {x166005 : Int} {x166006 : Int} {x171000 : Int} {x171001 : Int} {x171002 : List (S48)} (h : Ev (fun k => if x89 = true then ((spec_l1Coin.f x171000).bind fun bt177 => ((spec_l1Coin.f bt177.1).bind fun bt179 => ((spec_CosOf.f k (Int.tmod bt177.2 4096)).bind fun t181 => ((spec_FixMul.f k (wrap64 (Int.tdiv (wrap64 (x166005 * bt179.2)) 32768)) t181).bind fun t182 => ((spec_SinOf.f k (Int.tmod bt177.2 4096)).bind fun t183 => ((spec_FixMul.f k (wrap64 (Int.tdiv (wrap64 (x166005 * bt179.2)) 32768)) t183).bind fun t184 => (if x171002.length < 3518437208883 then (spec_StepCloud.l1 k (wrap64 (x9 + 1)) x166000 x166001 x166002 x166003 x166004 x166005 x166006 bt179.1 x171001 (x171002 ++ [(⟨x166000, x166001, t182, t184, x166004⟩ : S48)])) else (none)))))))) else ((spec_GoodCloud.f k x171000 x171001 x171002).bind fun t176 => (if t176 = true then (some (x171000, x171001, x171002, true)) else (some (0, 0, ([] : List (S48)), false))))) r) : Ev (fun k => spec_StepCloud.j3 k x9 x89 x166000 x166001 x166002 x166003 x166004 x166005 x166006 x171000 x171001 x171002) r := Ev.step (fun k => by rw [spec_StepCloud.j3]) h
theorem st_spec_RunCloud_j0 {r : (Int × Int × (List (S48)) × Bool)} {x2 : Int} {x22 : Bool} {x190000 : Int} {x190001 : Int} {x190002 : Int} {x190003 : Int} {x190004 : Int} {x190005 : Int} {x190006 : Int} {x191000 : Int} {x191001 : Int} {x191002 : List (S48)} (h : Ev (fun k => if x22 = true then (some (0, 0, ([] : List (S48)), false)) else ((some (([] : List (S48)) : List (S48))).bind fun y195 => (if y195.length + x191002.length < 3518437208883 then (spec_RunCloud.l0 k x2 x190000 x190001 x190002 x190003 x190004 x190005 x190006 x191000 x191001 (y195 ++ x191002)) else (none)))) r) : Ev (fun k => spec_RunCloud.j0 k x2 x22 x190000 x190001 x190002 x190003 x190004 x190005 x190006 x191000 x191001 x191002) r := Ev.step (fun k => by rw [spec_RunCloud.j0]) h
theorem st_spec_RunCloud_l0 {r : (Int × Int × (List (S48)) × Bool)} {x2 : Int} {x190000 : Int} {x190001 : Int} {x190002 : Int} {x190003 : Int} {x190004 : Int} {x190005 : Int} {x190006 : Int} {x191000 : Int} {x191001 : Int} {x191002 : List (S48)} (h : Ev (fun k => if x2 > 0 then ((spec_StepCloud.f k x190000 x190001 x190002 x190003 x190004 x190005 x190006 x191000 x191001 x191002).bind fun bt201 => (if bt201.2.2.2 = true then (spec_RunCloud.l0 k (wrap64 (x2 - 1)) x190000 x190001 x190002 x190003 x190004 x190005 x190006 bt201.1 bt201.2.1 bt201.2.2.1) else (some (0, 0, ([] : List (S48)), false)))) else (some (x191000, x191001, x191002, true))) r) : Ev (fun k => spec_RunCloud.l0 k x2 x190000 x190001 x190002 x190003 x190004 x190005 x190006 x191000 x191001 x191002) r := Ev.step (fun k => by rw [spec_RunCloud.l0]) h
theorem st_impl_areFixed_l0 {r : (Bool)} {x5 : List Int} {x6 : Int} {x7 : Int} (h : Ev (fun k => if x7 < x6 then (if 0 ≤ x7 then (if x7 < (x5.length : Int) then ((impl_GoodFixed.f (rd x5 x7)).bind fun t231 => (if t231 = true then (impl_areFixed.l0 k x5 x6 (wrap64 (x7 + 1))) else (some false))) else (none)) else (none)) else (some true)) r) : Ev (fun k => impl_areFixed.l0 k x5 x6 x7) r := Ev.step (fun k => by rw [impl_areFixed.l0]) h
theorem st_impl_FixMul_j0 {r : (Int)} {x0 : Int} {x1 : Int} {x5 : Int} {x6 : Int} {x7 : Int} (h : Ev (fun _ => if ((IntKind.u64.wrap (x5 + (add64c x6 x7))) / 65536) = 0 then (if ((decide (x0 < 0)) != (decide (x1 < 0))) = true then (some (wrap64 (-(wrap64 (mn (Go.bits .or .u64 (IntKind.u64.wrap ((IntKind.u64.wrap (x5 + (add64c x6 x7))) * 281474976710656)) ((add64 x6 x7) / 65536)) 1099511627776))))) else (some (wrap64 (mn (Go.bits .or .u64 (IntKind.u64.wrap ((IntKind.u64.wrap (x5 + (add64c x6 x7))) * 281474976710656)) ((add64 x6 x7) / 65536)) 1099511627776)))) else (if ((decide (x0 < 0)) != (decide (x1 < 0))) = true then (some (-1099511627776)) else (some 1099511627776))) r) : Ev (fun k => impl_FixMul.j0 k x0 x1 x5 x6 x7) r := Ev.step (fun k => by rw [impl_FixMul.j0]) h
theorem st_impl_Emitter_step_l0 {r : (Int × Int × (List (S48)) × Bool)} {x19 : List (S48)} {x20 : Int} {x21 : Int} {x267000 : Int} {x267001 : Int} {x267002 : Int} {x267003 : Int} {x267004 : Int} {x267005 : Int} {x267006 : Int} {x268000 : Int} {x268001 : Int} {x268002 : List (S48)} {x270000 : Int} {x270001 : Int} {x270002 : List (S48)} (h : Ev (fun k => if x21 < x20 then (if 0 ≤ x21 then (if x21 < (x19.length : Int) then (if (wrap64 (((rd_T48 x19 x21).f4) - 1)) > 0 then (if x270002.length < 3518437208883 then (impl_Emitter_step.l0 k x19 x20 (wrap64 (x21 + 1)) x267000 x267001 x267002 x267003 x267004 x267005 x267006 x268000 x268001 x268002 x270000 x270001 (x270002 ++ [(⟨wrap64 (((rd_T48 x19 x21).f0) + ((rd_T48 x19 x21).f2)), wrap64 (((rd_T48 x19 x21).f1) + ((rd_T48 x19 x21).f3)), (rd_T48 x19 x21).f2, wrap64 (((rd_T48 x19 x21).f3) - x267006), wrap64 (((rd_T48 x19 x21).f4) - 1)⟩ : S48)])) else (none)) else (impl_Emitter_step.l0 k x19 x20 (wrap64 (x21 + 1)) x267000 x267001 x267002 x267003 x267004 x267005 x267006 x268000 x268001 x268002 x270000 x270001 x270002)) else (none)) else (none)) else (if x267002 = 0 then (none) else (if (Int.tmod x268001 x267002) = 0 then (impl_Emitter_step.l1 k 0 x267000 x267001 x267002 x267003 x267004 x267005 x267006 x270000 x270001 x270002) else ((impl_GoodCloud.f k x270000 x270001 x270002).bind fun t287 => (some (x270000, x270001, x270002, t287)))))) r) : Ev (fun k => impl_Emitter_step.l0 k x19 x20 x21 x267000 x267001 x267002 x267003 x267004 x267005 x267006 x268000 x268001 x268002 x270000 x270001 x270002) r := Ev.step (fun k => by rw [impl_Emitter_step.l0]) h
theorem st_impl_Emitter_step_l1 {r : (Int × Int × (List (S48)) × Bool)} {x9 : Int} {x267000 : Int} {x267001 : Int} {x267002 : Int} {x267003 : Int} {x267004 : Int} {x267005 : Int} {x267006 : Int} {x270000 : Int} {x270001 : Int} {x270002 : List (S48)} (h : Ev (fun k => if x9 < x267003 then (if (x270002.length : Int) < 60 then ((impl_Emitter_born.f k x267000 x267001 x267002 x267003 x267004 x267005 x267006 x270000).bind fun bt275 => (if x270002.length < 3518437208883 then (impl_Emitter_step.l1 k (wrap64 (x9 + 1)) x267000 x267001 x267002 x267003 x267004 x267005 x267006 bt275.2.2.2.2.2 x270001 (x270002 ++ [(⟨bt275.1, bt275.2.1, bt275.2.2.1, bt275.2.2.2.1, bt275.2.2.2.2.1⟩ : S48)])) else (none))) else ((impl_GoodCloud.f k x270000 x270001 x270002).bind fun t285 => (some (x270000, x270001, x270002, t285)))) else ((impl_GoodCloud.f k x270000 x270001 x270002).bind fun t286 => (some (x270000, x270001, x270002, t286)))) r) : Ev (fun k => impl_Emitter_step.l1 k x9 x267000 x267001 x267002 x267003 x267004 x267005 x267006 x270000 x270001 x270002) r := Ev.step (fun k => by rw [impl_Emitter_step.l1]) h
theorem st_impl_RunCloud_j0 {r : (Int × Int × (List (S48)) × Bool)} {x2 : Int} {x25 : Bool} {x289000 : Int} {x289001 : Int} {x289002 : Int} {x289003 : Int} {x289004 : Int} {x289005 : Int} {x289006 : Int} {x290000 : Int} {x290001 : Int} {x290002 : List (S48)} (h : Ev (fun k => if x25 = true then (some (0, 0, ([] : List (S48)), false)) else ((impl_Spark_33.f x290002).bind fun t294 => (impl_RunCloud.l0 k x2 0 x289000 x289001 x289002 x289003 x289004 x289005 x289006 x290000 x290001 t294))) r) : Ev (fun k => impl_RunCloud.j0 k x2 x25 x289000 x289001 x289002 x289003 x289004 x289005 x289006 x290000 x290001 x290002) r := Ev.step (fun k => by rw [impl_RunCloud.j0]) h
theorem st_impl_RunCloud_l0 {r : (Int × Int × (List (S48)) × Bool)} {x35 : Int} {x36 : Int} {x289000 : Int} {x289001 : Int} {x289002 : Int} {x289003 : Int} {x289004 : Int} {x289005 : Int} {x289006 : Int} {x298000 : Int} {x298001 : Int} {x298002 : List (S48)} (h : Ev (fun k => if x36 < x35 then ((impl_Emitter_step.f k x289000 x289001 x289002 x289003 x289004 x289005 x289006 x298000 x298001 x298002).bind fun bt298 => (if bt298.2.2.2 = true then (impl_RunCloud.l0 k x35 (wrap64 (x36 + 1)) x289000 x289001 x289002 x289003 x289004 x289005 x289006 bt298.1 bt298.2.1 bt298.2.2.1) else (some (0, 0, ([] : List (S48)), false)))) else (some (x298000, x298001, x298002, true))) r) : Ev (fun k => impl_RunCloud.l0 k x35 x36 x289000 x289001 x289002 x289003 x289004 x289005 x289006 x298000 x298001 x298002) r := Ev.step (fun k => by rw [impl_RunCloud.l0]) h
theorem in_some (a b c : Int) : spec_l1In.f a b c = some (decide (b ≤ a ∧ a ≤ c)) := by
  unfold spec_l1In.f
  split <;> simp_all <;> omega
theorem in_same (a b c : Int) : impl_inRange.f a b c = spec_l1In.f a b c := rfl
theorem uw (n : Nat) (h : n < 18446744073709551616) : IntKind.u64.wrap (n : Int) = (n : Int) := wrap_u64 (by omega) (by omega)
theorem td32 (n : Nat) : Int.tdiv (n : Int) 4294967296 = ((n / 4294967296 : Nat) : Int) := by rw [Int.tdiv_eq_ediv_of_nonneg (by omega)]; omega
theorem tm32 (n : Nat) : Int.tmod (n : Int) 4294967296 = ((n % 4294967296 : Nat) : Int) := by rw [Int.tmod_eq_emod_of_nonneg (by omega)]; omega
theorem ed32 (n : Nat) : (n : Int) / 4294967296 = ((n / 4294967296 : Nat) : Int) := by omega
theorem b64 : (2 : Nat) ^ IntKind.u64.bits = 18446744073709551616 := by decide
theorem or_gen (X y : Nat) (e : X ||| y = X + y) (h : X + y < 18446744073709551616) : Go.bits .or .u64 (X : Int) (y : Int) = ((X + y : Nat) : Int) := by
  have hx' : X % 2 ^ IntKind.u64.bits = X := by rw [b64]; omega
  have hy' : y % 2 ^ IntKind.u64.bits = y := by rw [b64]; omega
  simp only [Go.bits, BitVec.ofInt_natCast, BitVec.toNat_or, BitVec.toNat_ofNat, hx', hy', e]
  exact uw _ h
theorem or_nat (x y k M : Nat) (hM : 2 ^ k = M) (hy : y < M) : x * M ||| y = x * M + y := by
  subst hM
  have h := Nat.shiftLeft_add_eq_or_of_lt hy x
  rw [Nat.shiftLeft_eq] at h
  exact h.symm
theorem or_split (x y : Nat) (hx : x < 4294967296) (hy : y < 4294967296) : Go.bits .or .u64 ((x * 4294967296 : Nat) : Int) (y : Int) = ((x * 4294967296 + y : Nat) : Int) :=
  or_gen _ y (or_nat x y 32 4294967296 (by decide) hy) (by omega)
theorem or_zero (y : Nat) (hy : y < 18446744073709551616) : Go.bits .or .u64 0 (y : Int) = (y : Int) := by
  have hy' : y % 2 ^ IntKind.u64.bits = y := by rw [b64]; omega
  have h0 : (0 : Int) = ((0 : Nat) : Int) := rfl
  rw [h0]
  simp only [Go.bits, BitVec.ofInt_natCast, BitVec.toNat_or, BitVec.toNat_ofNat, hy', Nat.zero_mod, Nat.zero_or]
  exact uw _ hy
theorem and_mask (x : Nat) (hx : x < 18446744073709551616) : Go.bits .and .u64 (x : Int) 4294967295 = ((x % 4294967296 : Nat) : Int) := by
  have e : x &&& 4294967295 = x % 4294967296 := Nat.and_two_pow_sub_one_eq_mod x 32
  have hx' : x % 2 ^ IntKind.u64.bits = x := by rw [b64]; omega
  have hm : 4294967295 % 2 ^ IntKind.u64.bits = 4294967295 := by rw [b64]
  have h0 : (4294967295 : Int) = ((4294967295 : Nat) : Int) := rfl
  rw [h0]
  simp only [Go.bits, BitVec.ofInt_natCast, BitVec.toNat_and, BitVec.toNat_ofNat, hx', hm, e]
  exact uw _ (by omega)
theorem times_small (a b : Nat) (ha : a ≤ 4398046511104) (hb : b ≤ 262144) : spec_l1Times.f (a : Int) (b : Int) = some (0, ((a * b : Nat) : Int)) := by
  have hA : a = a / 4294967296 * 4294967296 + a % 4294967296 := by omega
  generalize hah : a / 4294967296 = ah at hA
  generalize hal : a % 4294967296 = al at hA
  have h1 : ah ≤ 1024 := by omega
  have h2 : al < 4294967296 := by omega
  have p0 : al * b ≤ 4294967296 * 262144 := Nat.mul_le_mul (by omega) hb
  have p1 : ah * b ≤ 1024 * 262144 := Nat.mul_le_mul h1 hb
  have hb0 : b / 4294967296 = 0 := by omega
  have hb1 : b % 4294967296 = b := by omega
  have hab : a * b = ah * b * 4294967296 + al * b := by rw [hA, Nat.add_mul, Nat.mul_right_comm]
  have q0 : al * b / 4294967296 ≤ 262144 := by omega
  unfold spec_l1Times.f
  simp only [td32, tm32, hah, hal, hb0, hb1]
  generalize hm : al * b = m at *
  generalize hn : ah * b = n at *
  have c1 : (((al : Nat) : Int)) * ((b : Nat) : Int) = ((m : Nat) : Int) := by rw [← hm]; exact (Int.natCast_mul _ _).symm
  have c2 : (((ah : Nat) : Int)) * ((b : Nat) : Int) = ((n : Nat) : Int) := by rw [← hn]; exact (Int.natCast_mul _ _).symm
  have z : ((0 : Nat) : Int) = 0 := rfl
  have u0 : IntKind.u64.wrap 0 = 0 := wrap_u64 (by omega) (by omega)
  simp only [z, u0, Int.mul_zero, uw al (by omega), uw ah (by omega), uw b (by omega), c1, c2, uw m (by omega), uw n (by omega), td32, tm32, uw (m / 4294967296) (by omega), Int.zero_add, Int.add_zero]
  have c3 : ((n : Nat) : Int) + ((m / 4294967296 : Nat) : Int) = ((n + m / 4294967296 : Nat) : Int) := (Int.natCast_add _ _).symm
  simp only [c3, uw (n + m / 4294967296) (by omega), td32, tm32]
  have c4 : (n + m / 4294967296) / 4294967296 = 0 := by omega
  have c5 : (n + m / 4294967296) % 4294967296 = n + m / 4294967296 := by omega
  simp only [c4, c5, z, u0, uw (n + m / 4294967296) (by omega), td32, Int.add_zero]
  have c6 : (((n + m / 4294967296 : Nat) : Int)) * 4294967296 = (((n + m / 4294967296) * 4294967296 : Nat) : Int) := by omega
  rw [c6, uw _ (by omega), or_split _ _ (by omega) (by omega), hab]
  have c7 : (n + m / 4294967296) * 4294967296 + m % 4294967296 = n * 4294967296 + m := by omega
  rw [c7]
theorem mul64_small (a b : Nat) (ha : a ≤ 4294967295) (hb : b ≤ 262144) : bits_Mul64.f (a : Int) (b : Int) = some (0, ((a * b : Nat) : Int)) := by
  have p0 : a * b ≤ 4294967295 * 262144 := Nat.mul_le_mul ha hb
  have hb0 : b / 4294967296 = 0 := by omega
  have hb1 : b % 4294967296 = b := by omega
  have ha0 : a / 4294967296 = 0 := by omega
  have ha1 : a % 4294967296 = a := by omega
  have z : ((0 : Nat) : Int) = 0 := rfl
  have u0 : IntKind.u64.wrap 0 = 0 := wrap_u64 (by omega) (by omega)
  have c1 : ((a : Nat) : Int) * ((b : Nat) : Int) = ((a * b : Nat) : Int) := (Int.natCast_mul _ _).symm
  unfold bits_Mul64.f
  simp only [ed32, ha0, hb0, z, Int.mul_zero, Int.zero_mul, u0, and_mask a (by omega), and_mask b (by omega), ha1, hb1, c1, uw (a * b) (by omega), Int.zero_add]
  generalize a * b = m at *
  simp only [uw (m / 4294967296) (by omega), ed32, and_mask (m / 4294967296) (by omega)]
  have e1 : m / 4294967296 / 4294967296 = 0 := by omega
  have e2 : m / 4294967296 % 4294967296 = m / 4294967296 := by omega
  simp only [e1, e2, z, Int.add_zero, Int.zero_add, u0, uw (m / 4294967296) (by omega), ed32]
theorem over_l (N : Nat) (hN : N ≤ 576460752303423488) : ∀ (d lo hi : Nat), hi - lo ≤ d → lo ≤ N / 131072 → N / 131072 ≤ hi → hi ≤ 4398046511104 → Ev (fun k => spec_l1Over.l0 k 131072 (lo : Int) (hi : Int) 0 (N : Int)) ((N / 131072 : Nat) : Int)
  | d, lo, hi, hd, h1, h2, h3 => by
    by_cases h : lo < hi
    · obtain ⟨m, hm⟩ : ∃ m, m = lo + (hi - lo + 1) / 2 := ⟨_, rfl⟩
      have em : IntKind.u64.wrap ((lo : Int) + (IntKind.u64.wrap (Int.tdiv (IntKind.u64.wrap ((IntKind.u64.wrap ((hi : Int) - (lo : Int))) + 1)) 2))) = (m : Int) := by
        rw [wrap_u64 (n := (hi : Int) - (lo : Int)) (by omega) (by omega), wrap_u64 (n := (hi : Int) - (lo : Int) + 1) (by omega) (by omega), Int.tdiv_eq_ediv_of_nonneg (by omega), wrap_u64 (n := ((hi : Int) - (lo : Int) + 1) / 2) (by omega) (by omega), wrap_u64 (by omega) (by omega), hm]
        omega
      have e1 : IntKind.u64.wrap ((m : Int) - 1) = ((m - 1 : Nat) : Int) := by rw [wrap_u64 (by omega) (by omega)]; omega
      have ht := times_small m 131072 (by omega) (by omega)
      refine Ev.step (fun _ => rfl) (ev_pos (by omega) ?_)
      simp only [em, e1]
      refine ev_bindc ht ?_
      have hl : spec_l1Less.f 0 (N : Int) 0 ((m * 131072 : Nat) : Int) = some (decide ((N : Int) < ((m * 131072 : Nat) : Int))) := by
        unfold spec_l1Less.f
        rw [if_neg (by decide), if_pos rfl]
      refine ev_bindc hl ?_
      by_cases hc : N < m * 131072
      · exact ev_pos (decide_eq_true (by omega)) (over_l N hN (d - 1) lo (m - 1) (by omega) h1 (by omega) (by omega))
      · exact ev_neg (by rw [decide_eq_true_eq]; omega) (over_l N hN (d - 1) m hi (by omega) (by omega) h2 h3)
    · obtain rfl : lo = N / 131072 := by omega
      exact Ev.step (fun _ => rfl) (ev_neg (by omega) (ev_some rfl))
  termination_by d lo hi => hi - lo
def negOf (a b : Int) : Bool := (decide (a < 0)) != (decide (b < 0))
def quoOf (a b : Int) : Nat := (a.natAbs * b.natAbs + (if negOf a b = true then 32767 else 32768)) / 65536
def fixOf (a b : Int) : Int := if negOf a b = true then -((quoOf a b : Nat) : Int) else ((quoOf a b : Nat) : Int)
theorem fix_bound (a b : Int) (ha : a.natAbs ≤ 1000000) (hb : b.natAbs ≤ 131072) : a.natAbs * b.natAbs ≤ 131072000000 := Nat.mul_le_mul ha hb
theorem good_spec (a : Int) (h : a.natAbs ≤ 1000000) : spec_GoodFixed.f a = some true := by
  unfold spec_GoodFixed.f
  rw [in_some]
  exact congrArg some (decide_eq_true (by omega))
theorem abs_spec (a : Int) (h : a.natAbs ≤ 1000000) : spec_l1Abs.f a = some (a.natAbs : Int) := by
  unfold spec_l1Abs.f
  by_cases h0 : a < 0
  · rw [if_pos h0, w64 (by omega) (by omega)]; congr 1; omega
  · rw [if_neg h0]; congr 1; omega
theorem size_impl (a : Int) (h : a.natAbs ≤ 1000000) : impl_size.f a = some (a.natAbs : Int) := by
  unfold impl_size.f mx
  rw [w64 (by omega) (by omega)]
  congr 1
  split <;> omega
theorem fix_spec (a b : Int) (ha : a.natAbs ≤ 1000000) (hb : b.natAbs ≤ 131072) : Ev (fun k => spec_FixMul.f k a b) (fixOf a b) := by
  have hP := fix_bound a b ha hb
  refine ev_bindc (good_spec a ha) (ev_pos rfl (ev_bindc (good_spec b (by omega)) ?_))
  refine st_spec_FixMul_j0 (ev_neg (by decide) ?_)
  refine ev_bindc (abs_spec a ha) ?_
  refine ev_bindc (abs_spec b (by omega)) ?_
  rw [uw _ (by omega), uw _ (by omega)]
  refine ev_bindc (times_small _ _ (by omega) (by omega)) (Ev.bind (a := fixOf a b) ?_ (ev_some rfl))
  generalize hp : a.natAbs * b.natAbs = p at *
  have s1 : spec_l1Plus.f 0 (p : Int) (p : Int) = some (0, ((2 * p : Nat) : Int)) := by
    have e : (p : Int) + (p : Int) = ((2 * p : Nat) : Int) := by omega
    unfold spec_l1Plus.f
    rw [e, uw _ (by omega), if_neg (by omega)]
  have s2 : spec_l1Sum.f 0 (p : Int) 0 (p : Int) = some (0, ((2 * p : Nat) : Int)) := by
    have u0 : IntKind.u64.wrap (0 + 0) = 0 := wrap_u64 (by omega) (by omega)
    unfold spec_l1Sum.f
    rw [s1]
    show some (IntKind.u64.wrap (0 + 0), _) = _
    rw [u0]
  have s3 : spec_l1Plus.f 0 ((2 * p : Nat) : Int) 65536 = some (0, ((2 * p + 65536 : Nat) : Int)) := by
    have e : ((2 * p : Nat) : Int) + 65536 = ((2 * p + 65536 : Nat) : Int) := by omega
    unfold spec_l1Plus.f
    rw [e, uw _ (by omega), if_neg (by omega)]
  have u2 : IntKind.u64.wrap (2 * 65536) = 131072 := wrap_u64 (by omega) (by omega)
  refine ev_bindc s2 (ev_bindc s3 ?_)
  have hcut : ∀ z : Int, -1000000000 ≤ z → z ≤ 1000000000 → spec_l1Cut.f z = some z := fun z h0 h1 => by
    unfold spec_l1Cut.f
    rw [if_neg (by omega), if_neg (by omega)]
  unfold fixOf
  show Ev _ (if negOf a b = true then _ else _)
  by_cases hn : negOf a b = true
  · have hq : quoOf a b = (2 * p + 65535) / 131072 := by unfold quoOf; rw [if_pos hn, hp]; omega
    have e1 : IntKind.u64.wrap (((2 * p + 65536 : Nat) : Int) - 1) = ((2 * p + 65535 : Nat) : Int) := by rw [wrap_u64 (by omega) (by omega)]; omega
    have hb' : quoOf a b ≤ 4000000 := by omega
    rw [if_pos hn]
    refine ev_pos hn (ev_neg (by omega) (st_spec_l1Near_j0 ?_))
    simp only [u2, e1]
    refine Ev.bind (a := ((quoOf a b : Nat) : Int)) ?_ (ev_pos trivial ?_)
    · rw [hq]; exact over_l (2 * p + 65535) (by omega) 4398046511104 0 4398046511104 (by omega) (by omega) (by omega) (by omega)
    · rw [w64 (n := ((quoOf a b : Nat) : Int)) (by omega) (by omega), w64 (by omega) (by omega)]
      exact ev_bindc (hcut _ (by omega) (by omega)) (ev_some rfl)
  · have hq : quoOf a b = (2 * p + 65536) / 131072 := by unfold quoOf; rw [if_neg hn, hp]; omega
    have hb' : quoOf a b ≤ 4000000 := by omega
    rw [if_neg hn]
    refine ev_neg hn (st_spec_l1Near_j0 ?_)
    simp only [u2]
    refine Ev.bind (a := ((quoOf a b : Nat) : Int)) ?_ (ev_neg (by decide) ?_)
    · rw [hq]; exact over_l (2 * p + 65536) (by omega) 4398046511104 0 4398046511104 (by omega) (by omega) (by omega) (by omega)
    · rw [w64 (by omega) (by omega)]
      exact ev_bindc (hcut _ (by omega) (by omega)) (ev_some rfl)
abbrev FixOk (x : Int) : Prop := -1099511627776 ≤ x ∧ x ≤ 1099511627776
theorem fixed_impl (x : Int) : impl_GoodFixed.f x = some (decide (-1099511627776 ≤ x ∧ x ≤ 1099511627776)) := by
  unfold impl_GoodFixed.f
  rw [in_same, in_some]; rfl
theorem fixed_spec (x : Int) : spec_GoodFixed.f x = some (decide (-1099511627776 ≤ x ∧ x ≤ 1099511627776)) := by
  unfold spec_GoodFixed.f
  rw [in_some]; rfl
theorem areFixed_ev (l : List Int) (hl : l.length ≤ 1000) (b : Bool) (hb : b = true ↔ ∀ i : Nat, i < l.length → FixOk (rd l (i : Int))) : Ev (fun k => impl_areFixed.f k l) b := by
  refine ev_all l.length (fun k i => impl_areFixed.l0 k l (l.length : Int) (i : Int)) (fun i => FixOk (rd l (i : Int))) true b ⟨fun h => ⟨rfl, hb.1 h⟩, fun h => hb.2 h.2⟩ ?_ ?_ ?_
  · exact st_impl_areFixed_l0 (ev_neg (by omega) (ev_some rfl))
  · intro i hi _ hok r hr
    refine st_impl_areFixed_l0 (ev_pos (by omega) (ev_pos (by omega) (ev_pos (by omega) (ev_bindc (fixed_impl _) (ev_pos (decide_eq_true hok) ?_)))))
    rw [w64s i (by omega)]
    exact hr
  · intro i hi _ hok
    exact st_impl_areFixed_l0 (ev_pos (by omega) (ev_pos (by omega) (ev_pos (by omega) (ev_bindc (fixed_impl _) (ev_neg (by rw [decide_eq_true_eq]; exact hok) (ev_some rfl))))))
theorem two_fixed (a b : Int) (ha : a.natAbs ≤ 1000000) (hb : b.natAbs ≤ 131072) : Ev (fun k => impl_areFixed.f k ([a, b] : List Int)) true := by
  refine areFixed_ev [a, b] (by simp) true ⟨fun _ i hi => ?_, fun _ => rfl⟩
  rw [rd_get hi]
  unfold FixOk
  match i, hi with
  | 0, _ => show _ ≤ a ∧ a ≤ _; omega
  | 1, _ => show _ ≤ b ∧ b ≤ _; omega
theorem fix_impl (a b : Int) (ha : a.natAbs ≤ 1000000) (hb : b.natAbs ≤ 131072) : Ev (fun k => impl_FixMul.f k a b) (fixOf a b) := by
  have hP := fix_bound a b ha hb
  refine Ev.bind (two_fixed a b ha hb) (ev_pos rfl (ev_bindc (size_impl a ha) (ev_bindc (size_impl b (by omega)) ?_)))
  rw [uw _ (by omega), uw _ (by omega)]
  refine ev_bindc (mul64_small _ _ (by omega) (by omega)) ?_
  generalize hp : a.natAbs * b.natAbs = p at *
  have key : ∀ c : Nat, c ≤ 32768 → add64 (p : Int) (c : Int) = ((p + c : Nat) : Int) ∧ add64c (p : Int) (c : Int) = 0 := fun c hc => by
    unfold add64 add64c
    simp only [Int.toNat_natCast]
    omega
  have u0 : IntKind.u64.wrap (0 + 0) = 0 := wrap_u64 (by omega) (by omega)
  have u1 : IntKind.u64.wrap (0 * 281474976710656) = 0 := wrap_u64 (by omega) (by omega)
  have hd : ∀ c : Nat, ((p + c : Nat) : Int) / 65536 = (((p + c) / 65536 : Nat) : Int) := fun c => by omega
  show Ev (fun k => if negOf a b = true then _ else _) _
  by_cases hn : negOf a b = true
  · have hq : quoOf a b = (p + 32767) / 65536 := by unfold quoOf; rw [if_pos hn, hp]
    obtain ⟨k1, k2⟩ := key 32767 (by omega)
    have e : ((32768 : Int) - 1) = ((32767 : Nat) : Int) := rfl
    have hm : mn (Go.bits .or .u64 0 ((quoOf a b : Nat) : Int)) 1099511627776 = ((quoOf a b : Nat) : Int) := by rw [or_zero _ (by omega)]; unfold mn; rw [if_neg (by omega)]
    refine ev_pos hn (st_impl_FixMul_j0 ?_)
    rw [e, k1, k2, hd, ← hq, u0]
    refine ev_pos (by decide) (ev_pos hn ?_)
    rw [u1, hm, w64 (n := ((quoOf a b : Nat) : Int)) (by omega) (by omega), w64 (by omega) (by omega)]
    exact ev_some (by unfold fixOf; rw [if_pos hn])
  · have hq : quoOf a b = (p + 32768) / 65536 := by unfold quoOf; rw [if_neg hn, hp]
    obtain ⟨k1, k2⟩ := key 32768 (by omega)
    have e : (32768 : Int) = ((32768 : Nat) : Int) := rfl
    have hm : mn (Go.bits .or .u64 0 ((quoOf a b : Nat) : Int)) 1099511627776 = ((quoOf a b : Nat) : Int) := by rw [or_zero _ (by omega)]; unfold mn; rw [if_neg (by omega)]
    refine ev_neg hn (st_impl_FixMul_j0 ?_)
    rw [e, k1, k2, hd, ← hq, u0]
    refine ev_pos (by decide) (ev_neg hn ?_)
    rw [u1, hm, w64 (by omega) (by omega)]
    exact ev_some (by unfold fixOf; rw [if_neg hn])
theorem mod_spec (a : Nat) (ha : a ≤ 1000000) : spec_l1Mod.f (a : Int) 4096 = some ((a % 4096 : Nat) : Int) := by
  have e1 : Int.tdiv (a : Int) 4096 = ((a / 4096 : Nat) : Int) := by rw [Int.tdiv_eq_ediv_of_nonneg (by omega)]; omega
  have hd : spec_l1Down.f (a : Int) 4096 = some ((a / 4096 : Nat) : Int) := by
    unfold spec_l1Down.f
    rw [if_neg (by decide), e1, w64 (by omega) (by omega)]
    split
    · rfl
    · rw [if_neg (by rw [decide_eq_false (show ¬ (a : Int) < 0 by omega)]; decide)]
  unfold spec_l1Mod.f
  rw [hd]
  show some (wrap64 _) = _
  rw [w64 (n := 4096 * ((a / 4096 : Nat) : Int)) (by omega) (by omega), w64 (by omega) (by omega)]
  congr 1
  omega
theorem mod_impl (a : Nat) (ha : a ≤ 1000000) : impl_mod.f (a : Int) 4096 = some ((a % 4096 : Nat) : Int) := by
  unfold impl_mod.f
  have t1 : Int.tmod (a : Int) 4096 = ((a % 4096 : Nat) : Int) := by rw [Int.tmod_eq_emod_of_nonneg (by omega)]; omega
  have t2 : Int.tmod (((a % 4096 : Nat) : Int) + 4096) 4096 = ((a % 4096 : Nat) : Int) := by rw [Int.tmod_eq_emod_of_nonneg (by omega)]; omega
  rw [if_neg (by decide), t1, w64 (by omega) (by omega), t2]
theorem tab_bound : ∀ j : Fin 17, 0 ≤ rd impl_SinOf.tab (j.val : Int) ∧ rd impl_SinOf.tab (j.val : Int) ≤ 65536 := by decide
theorem tab_b (j : Nat) (h : j < 17) : 0 ≤ rd impl_SinOf.tab (j : Int) ∧ rd impl_SinOf.tab (j : Int) ≤ 65536 := tab_bound ⟨j, h⟩
theorem mul_b (x : Int) (y : Int) (h0 : 0 ≤ x) (h1 : x ≤ 65536) (g0 : 0 ≤ y) (g1 : y ≤ 64) : 0 ≤ x * y ∧ x * y ≤ 65536 * y := ⟨Int.mul_nonneg h0 g0, Int.mul_le_mul_of_nonneg_right h1 g0⟩
theorem at_bound (c : Nat) (h : c < 1024) : 0 ≤ impl_SinOf.at_ (c : Int) ∧ impl_SinOf.at_ (c : Int) ≤ 65536 := by
  have b1 := tab_b (c / 64) (by omega)
  have b2 := tab_b (c / 64 + 1) (by omega)
  have e1 : ((c : Int)) / 64 = ((c / 64 : Nat) : Int) := by omega
  have e2 : ((c : Int)) / 64 + 1 = ((c / 64 + 1 : Nat) : Int) := by omega
  unfold impl_SinOf.at_
  rw [e2, e1]
  have m1 := mul_b _ (64 - (c : Int) % 64) b1.1 b1.2 (by omega) (by omega)
  have m2 := mul_b _ ((c : Int) % 64) b2.1 b2.2 (by omega) (by omega)
  generalize rd impl_SinOf.tab ((c / 64 : Nat) : Int) * (64 - (c : Int) % 64) = u at *
  generalize rd impl_SinOf.tab ((c / 64 + 1 : Nat) : Int) * ((c : Int) % 64) = v at *
  omega
theorem sin_base (c : Nat) (h : c < 1024) : Ev (fun k => spec_SinOf.f k (c : Int)) (impl_SinOf.at_ (c : Int)) := by
  have b1 := tab_b (c / 64) (by omega)
  have b2 := tab_b (c / 64 + 1) (by omega)
  have e0 : c % 4096 = c := by omega
  have e1 : wrap64 (Int.tdiv (c : Int) 64) = ((c / 64 : Nat) : Int) := by rw [Int.tdiv_eq_ediv_of_nonneg (by omega), w64 (by omega) (by omega)]; omega
  have e2 : wrap64 (((c / 64 : Nat) : Int) + 1) = ((c / 64 + 1 : Nat) : Int) := w64s _ (by omega)
  have e3 : Int.tmod (c : Int) 64 = (c : Int) % 64 := Int.tmod_eq_emod_of_nonneg (by omega)
  have m1 := mul_b _ (64 - (c : Int) % 64) b1.1 b1.2 (by omega) (by omega)
  have m2 := mul_b _ ((c : Int) % 64) b2.1 b2.2 (by omega) (by omega)
  have hm := mod_spec c (by omega)
  rw [e0] at hm
  have ht : spec_l1Table.f = some impl_SinOf.tab := rfl
  have hl : (impl_SinOf.tab.length : Int) = 17 := rfl
  refine Ev.step (fun k => by rw [spec_SinOf.f]) ?_
  refine ev_bindc hm (ev_neg (by omega) (ev_neg (by omega) (ev_neg (by omega) (ev_bindc ht ?_))))
  simp only [e1, e2, e3, hl]
  refine ev_pos (by omega) (ev_pos (by omega) (ev_pos (by omega) (ev_pos (by omega) (ev_some ?_))))
  rw [w64 (n := 64 - (c : Int) % 64) (by omega) (by omega)]
  have e4 : ((c : Int)) / 64 = ((c / 64 : Nat) : Int) := by omega
  have e5 : ((c : Int)) / 64 + 1 = ((c / 64 + 1 : Nat) : Int) := by omega
  unfold impl_SinOf.at_
  rw [e5, e4]
  generalize rd impl_SinOf.tab ((c / 64 : Nat) : Int) * (64 - (c : Int) % 64) = u at *
  generalize rd impl_SinOf.tab ((c / 64 + 1 : Nat) : Int) * ((c : Int) % 64) = v at *
  rw [w64 (n := u) (by omega) (by omega), w64 (n := v) (by omega) (by omega), w64 (n := u + v) (by omega) (by omega), w64 (n := u + v + 32) (by omega) (by omega), Int.tdiv_eq_ediv_of_nonneg (by omega), w64 (by omega) (by omega)]
theorem low_bound (b : Nat) (h : b < 2048) : 0 ≤ impl_SinOf.low (b : Int) ∧ impl_SinOf.low (b : Int) ≤ 65536 := by
  unfold impl_SinOf.low
  split
  · have := at_bound (2048 - b) (by omega)
    rw [show (2048 : Int) - (b : Int) = ((2048 - b : Nat) : Int) by omega]
    exact this
  · split
    · omega
    · exact at_bound b (by omega)
theorem sin_low (b : Nat) (h : b < 2048) : Ev (fun k => spec_SinOf.f k (b : Int)) (impl_SinOf.low (b : Int)) := by
  have hm := mod_spec b (by omega)
  rw [show b % 4096 = b by omega] at hm
  unfold impl_SinOf.low
  by_cases h1 : (b : Int) > 1024
  · rw [if_pos h1]
    have hs := sin_base (2048 - b) (by omega)
    rw [show ((2048 - b : Nat) : Int) = (2048 : Int) - (b : Int) by omega] at hs
    refine Ev.step (fun k => by rw [spec_SinOf.f]) ?_
    refine ev_bindc hm (ev_neg (by omega) (ev_pos (by omega) ?_))
    rw [w64 (n := (2048 : Int) - (b : Int)) (by omega) (by omega)]
    exact Ev.bind hs (ev_some rfl)
  · rw [if_neg h1]
    by_cases h2 : (b : Int) = 1024
    · rw [if_pos h2]
      refine Ev.step (fun k => by rw [spec_SinOf.f]) ?_
      exact ev_bindc hm (ev_neg (by omega) (ev_neg (by omega) (ev_pos h2 (ev_some rfl))))
    · rw [if_neg h2]; exact sin_base b (by omega)
def sinAt (a : Nat) : Int := if a % 4096 < 2048 then impl_SinOf.low ((a % 4096 : Nat) : Int) else -(impl_SinOf.low ((a % 4096 - 2048 : Nat) : Int))
theorem sin_bound (a : Nat) : (sinAt a).natAbs ≤ 65536 := by
  unfold sinAt
  split
  · have := low_bound (a % 4096) (by omega); omega
  · have := low_bound (a % 4096 - 2048) (by omega); omega
theorem sin_spec (a : Nat) (ha : a ≤ 1000000) : Ev (fun k => spec_SinOf.f k (a : Int)) (sinAt a) := by
  by_cases h : a % 4096 < 2048
  · have e : sinAt a = impl_SinOf.low ((a % 4096 : Nat) : Int) := if_pos h
    rw [e]
    -- the sine of a is the sine of its rest
    have hm := mod_spec a ha
    obtain ⟨k0, hk⟩ := sin_low (a % 4096) h
    have hm2 := mod_spec (a % 4096) (by omega)
    rw [show a % 4096 % 4096 = a % 4096 by omega] at hm2
    refine ⟨k0, fun k hk' => ?_⟩
    cases k with
    | zero =>
      have this : spec_SinOf.f 0 ((a % 4096 : Nat) : Int) = _ := hk 0 hk'
      rw [spec_SinOf.f] at this
      cases this
    | succ k =>
      have this : spec_SinOf.f (k + 1) ((a % 4096 : Nat) : Int) = _ := hk (k + 1) hk'
      show spec_SinOf.f (k + 1) (a : Int) = _
      rw [spec_SinOf.f, hm2] at this
      rw [spec_SinOf.f, hm]
      exact this
  · have e : sinAt a = -(impl_SinOf.low ((a % 4096 - 2048 : Nat) : Int)) := if_neg h
    have hb := low_bound (a % 4096 - 2048) (by omega)
    rw [e]
    refine Ev.step (fun k => by rw [spec_SinOf.f]) ?_
    refine ev_bindc (mod_spec a ha) (ev_pos (by omega) ?_)
    rw [w64 (by omega) (by omega), show ((a % 4096 : Nat) : Int) - 2048 = ((a % 4096 - 2048 : Nat) : Int) by omega]
    refine Ev.bind (sin_low _ (by omega)) (ev_some ?_)
    rw [w64 (by omega) (by omega)]
theorem sin_impl (a : Nat) (ha : a ≤ 1000000) : impl_SinOf.f (a : Int) = some (sinAt a) := by
  unfold impl_SinOf.f sinAt
  rw [mod_impl a ha, Option.bind_some, if_pos (by omega)]
  by_cases h : a % 4096 < 2048
  · rw [if_pos (by omega), if_pos h]
  · have hb := low_bound (a % 4096 - 2048) (by omega)
    rw [if_neg (by omega), if_pos (by omega), if_neg h, show ((a % 4096 : Nat) : Int) - 2048 = ((a % 4096 - 2048 : Nat) : Int) by omega, w64 (by omega) (by omega)]
theorem cos_spec (a : Nat) (ha : a ≤ 900000) : Ev (fun k => spec_CosOf.f k (a : Int)) (sinAt (a % 4096 + 1024)) := by
  unfold spec_CosOf.f
  refine ev_bindc (mod_spec a (by omega)) ?_
  rw [w64 (by omega) (by omega), show ((a % 4096 : Nat) : Int) + 1024 = ((a % 4096 + 1024 : Nat) : Int) by omega]
  exact Ev.bind (sin_spec _ (by omega)) (ev_some rfl)
theorem cos_impl (a : Nat) (ha : a ≤ 900000) : impl_CosOf.f (a : Int) = some (sinAt (a % 4096 + 1024)) := by
  unfold impl_CosOf.f
  rw [mod_impl a (by omega), Option.bind_some, w64 (by omega) (by omega), show ((a % 4096 : Nat) : Int) + 1024 = ((a % 4096 + 1024 : Nat) : Int) by omega, sin_impl _ (by omega), Option.bind_some]
def nextOf (s : Int) : Int := (s * 1103515245 + 12345) % 2147483648
theorem next_range (s : Int) : 0 ≤ nextOf s ∧ nextOf s ≤ 2147483647 := by unfold nextOf; omega
theorem coin_eq (s : Int) (h : 0 ≤ s ∧ s ≤ 2147483647) : Int.tmod (wrap64 ((wrap64 (s * 1103515245)) + 12345)) 2147483648 = nextOf s ∧ wrap64 (Int.tdiv (Int.tmod (wrap64 ((wrap64 (s * 1103515245)) + 12345)) 2147483648) 65536) = nextOf s / 65536 := by
  have hn := next_range s
  have e : Int.tmod (wrap64 ((wrap64 (s * 1103515245)) + 12345)) 2147483648 = nextOf s := by
    rw [w64 (n := s * 1103515245) (by omega) (by omega), w64 (by omega) (by omega), Int.tmod_eq_emod_of_nonneg (by omega)]; rfl
  rw [e, Int.tdiv_eq_ediv_of_nonneg (by omega), w64 (by omega) (by omega)]
  exact ⟨rfl, rfl⟩
theorem coin_spec (s : Int) (h : 0 ≤ s ∧ s ≤ 2147483647) : spec_l1Coin.f s = some (nextOf s, nextOf s / 65536) := by
  unfold spec_l1Coin.f
  rw [(coin_eq s h).2, (coin_eq s h).1]
theorem seed_impl (s : Int) : impl_isSeed.f s = some (decide (0 ≤ s ∧ s ≤ 2147483647)) := by
  unfold impl_isSeed.f
  rw [in_same, in_some]; rfl
theorem seed_spec (s : Int) : spec_l1Seed.f s = some (decide (0 ≤ s ∧ s ≤ 2147483647)) := by
  unfold spec_l1Seed.f
  rw [in_some]; rfl
theorem coin_impl (s : Int) (h : 0 ≤ s ∧ s ≤ 2147483647) : impl_NextCoin.f s = some (nextOf s, nextOf s / 65536) := by
  unfold impl_NextCoin.f
  rw [seed_impl, Option.bind_some, if_pos (decide_eq_true h), (coin_eq s h).2, (coin_eq s h).1]
def turnOf (s : Int) : Nat := (nextOf s / 65536 % 4096).toNat
def speedOf (v s : Int) : Int := v * (nextOf (nextOf s) / 65536) / 32768
theorem speed_bound (v s : Int) (hv : 0 ≤ v ∧ v ≤ 1000000) : 0 ≤ speedOf v s ∧ speedOf v s ≤ 1000000 := by
  have hn := next_range (nextOf s)
  have h1 : 0 ≤ v * (nextOf (nextOf s) / 65536) := Int.mul_nonneg hv.1 (by omega)
  have h2 : v * (nextOf (nextOf s) / 65536) ≤ 1000000 * (nextOf (nextOf s) / 65536) := Int.mul_le_mul_of_nonneg_right hv.2 (by omega)
  unfold speedOf
  omega
theorem speed_eq (v s : Int) (hv : 0 ≤ v ∧ v ≤ 1000000) : wrap64 (Int.tdiv (wrap64 (v * (nextOf (nextOf s) / 65536))) 32768) = speedOf v s := by
  have hn := next_range (nextOf s)
  have hb := speed_bound v s hv
  have h1 : 0 ≤ v * (nextOf (nextOf s) / 65536) := Int.mul_nonneg hv.1 (by omega)
  have h2 : v * (nextOf (nextOf s) / 65536) ≤ 1000000 * (nextOf (nextOf s) / 65536) := Int.mul_le_mul_of_nonneg_right hv.2 (by omega)
  rw [w64 (n := v * (nextOf (nextOf s) / 65536)) (by omega) (by omega), Int.tdiv_eq_ediv_of_nonneg h1]
  exact w64 (by unfold speedOf at hb; omega) (by unfold speedOf at hb; omega)
theorem turn_eq (s : Int) : Int.tmod (nextOf s / 65536) 4096 = ((turnOf s : Nat) : Int) := by
  have hn := next_range s
  unfold turnOf
  rw [Int.tmod_eq_emod_of_nonneg (by omega), Int.toNat_of_nonneg (by omega)]
theorem turn_lt (s : Int) : turnOf s < 4096 := by unfold turnOf; omega
def dxOf (v s : Int) : Int := fixOf (speedOf v s) (sinAt (turnOf s % 4096 + 1024))
def dyOf (v s : Int) : Int := fixOf (speedOf v s) (sinAt (turnOf s))
theorem born_impl (x y e u l v f s : Int) (hv : 0 ≤ v ∧ v ≤ 1000000) (hs : 0 ≤ s ∧ s ≤ 2147483647) : Ev (fun k => impl_Emitter_born.f k x y e u l v f s) (x, y, dxOf v s, dyOf v s, l, nextOf (nextOf s)) := by
  have hb := speed_bound v s hv
  have ht := turn_lt s
  unfold impl_Emitter_born.f
  refine ev_bindc (coin_impl s hs) (ev_bindc (coin_impl _ (next_range s)) ?_)
  simp only [turn_eq, speed_eq v s hv]
  refine ev_bindc (cos_impl _ (by omega)) (Ev.bind (fix_impl _ _ (by omega) (by have := sin_bound (turnOf s % 4096 + 1024); omega)) (ev_bindc (sin_impl _ (by omega)) (Ev.bind (fix_impl _ _ (by omega) (by have := sin_bound (turnOf s); omega)) (ev_some rfl))))
theorem good_emitter_same (x y e u l v f : Int) : impl_GoodEmitter.f x y e u l v f = spec_GoodEmitter.f x y e u l v f := by
  unfold impl_GoodEmitter.f spec_GoodEmitter.f impl_isFar.f
  simp only [in_same, in_some, Option.bind_some]
def SparkOk (x : S48) : Prop := FixOk x.f0 ∧ FixOk x.f1 ∧ FixOk x.f2 ∧ FixOk x.f3 ∧ (1 ≤ x.f4 ∧ x.f4 ≤ 200)
def CloudOk (s st : Int) (l : List S48) : Prop := (0 ≤ s ∧ s ≤ 2147483647) ∧ (0 ≤ st ∧ st ≤ 200) ∧ l.length ≤ 60 ∧ ∀ i : Nat, i < l.length → SparkOk (rd_T48 l (i : Int))
theorem cloud_spec (s st : Int) (l : List S48) (b : Bool) (hb : b = true ↔ CloudOk s st l) : Ev (fun k => spec_GoodCloud.f k s st l) b := by
  have no : ¬ CloudOk s st l → false = b := fun h => by cases b with | false => rfl | true => exact absurd (hb.1 rfl) h
  unfold spec_GoodCloud.f
  refine ev_bindc (seed_spec s) (ev_ite (fun h0 => ?_) fun h0 => st_spec_GoodCloud_j0 (ev_pos rfl (ev_some (no fun h => h0 (decide_eq_true h.1)))))
  refine ev_bindc (in_some _ _ _) (ev_ite (fun h1 => ?_) fun h1 => st_spec_GoodCloud_j0 (ev_pos rfl (ev_some (no fun h => h1 (decide_eq_true h.2.1)))))
  refine st_spec_GoodCloud_j0 (ev_ite (fun h2 => ev_some (no fun h => by have := h.2.2.1; have := of_decide_eq_true h2; omega)) fun h2 => ?_)
  have h2' : l.length ≤ 60 := by
    rcases Nat.lt_or_ge 60 l.length with h | h
    · exact absurd (decide_eq_true (by omega)) h2
    · exact h
  refine ev_all l.length (fun k i => spec_GoodCloud.l0 k l (l.length : Int) (i : Int)) (fun i => SparkOk (rd_T48 l (i : Int))) true b ⟨fun h => ⟨rfl, (hb.1 h).2.2.2⟩, fun h => hb.2 ⟨of_decide_eq_true h0, of_decide_eq_true h1, h2', h.2⟩⟩ ?_ ?_ ?_
  · exact st_spec_GoodCloud_l0 (ev_neg (by omega) (ev_some rfl))
  · intro i hi _ hok r hr
    obtain ⟨g0, g1, g2, g3, g4⟩ := hok
    refine st_spec_GoodCloud_l0 (ev_pos (by omega) (ev_pos (by omega) (ev_pos (by omega) (ev_bindc (fixed_spec _) (ev_pos (decide_eq_true g0) (ev_bindc (fixed_spec _) (ev_pos (decide_eq_true g1) (ev_bindc (fixed_spec _) (ev_pos (decide_eq_true g2) (ev_bindc (fixed_spec _) (ev_pos (decide_eq_true g3) (ev_bindc (in_some _ _ _) (ev_pos (decide_eq_true g4) ?_)))))))))))))
    rw [w64s i (by omega)]
    exact hr
  · intro i hi _ hok
    exact st_spec_GoodCloud_l0 (ev_pos (by omega) (ev_pos (by omega) (ev_pos (by omega) (ev_bindc (fixed_spec _) (ev_ite (fun g0 => ev_bindc (fixed_spec _) (ev_ite (fun g1 => ev_bindc (fixed_spec _) (ev_ite (fun g2 => ev_bindc (fixed_spec _) (ev_ite (fun g3 => ev_bindc (in_some _ _ _) (ev_ite (fun g4 => absurd ⟨of_decide_eq_true g0, of_decide_eq_true g1, of_decide_eq_true g2, of_decide_eq_true g3, of_decide_eq_true g4⟩ hok) fun _ => ev_some rfl)) fun _ => ev_some rfl)) fun _ => ev_some rfl)) fun _ => ev_some rfl)) fun _ => ev_some rfl)))))
theorem bool_for (p : Prop) : ∃ b : Bool, b = true ↔ p := by
  rcases Classical.em p with h | h
  · exact ⟨true, fun _ => h, fun _ => rfl⟩
  · exact ⟨false, (fun e => by cases e), fun h' => absurd h' h⟩
theorem spark_impl (x : S48) (c : Bool) (hc : c = true ↔ ¬ SparkOk x) : Ev (fun k => impl_GoodCloud_1.f k x.f0 x.f1 x.f2 x.f3 x.f4) c := by
  obtain ⟨b, hb⟩ := bool_for (∀ i : Nat, i < ([x.f0, x.f1, x.f2, x.f3] : List Int).length → FixOk (rd [x.f0, x.f1, x.f2, x.f3] (i : Int)))
  have four : b = true ↔ FixOk x.f0 ∧ FixOk x.f1 ∧ FixOk x.f2 ∧ FixOk x.f3 := by
    rw [hb]
    constructor
    · intro h
      exact ⟨h 0 (by simp), h 1 (by simp), h 2 (by simp), h 3 (by simp)⟩
    · rintro ⟨a0, a1, a2, a3⟩ i hi
      match i, hi with
      | 0, _ => exact a0
      | 1, _ => exact a1
      | 2, _ => exact a2
      | 3, _ => exact a3
  unfold impl_GoodCloud_1.f
  refine Ev.bind (areFixed_ev _ (by simp) b hb) (ev_ite (fun h => ev_bindc ((in_same _ _ _).trans (in_some _ _ _)) (ev_some ?_)) fun h => ev_some ?_)
  · have hf := four.1 h
    rw [Bool.eq_iff_iff, hc]
    unfold SparkOk
    rw [Bool.not_eq_true', decide_eq_false_iff_not]
    exact ⟨fun g h => g h.2.2.2.2, fun g h => g ⟨hf.1, hf.2.1, hf.2.2.1, hf.2.2.2, h⟩⟩
  · refine (hc.2 fun hs => h (four.2 ⟨hs.1, hs.2.1, hs.2.2.1, hs.2.2.2.1⟩)).symm
theorem cloud_impl (s st : Int) (l : List S48) (hl : l.length ≤ 1048576) (b : Bool) (hb : b = true ↔ CloudOk s st l) : Ev (fun k => impl_GoodCloud.f k s st l) b := by
  have no : ¬ CloudOk s st l → false = b := fun h => by cases b with | false => rfl | true => exact absurd (hb.1 rfl) h
  unfold impl_GoodCloud.f
  refine ev_bindc (seed_impl s) (ev_ite (fun h0 => ?_) fun h0 => ev_some (no fun h => h0 (decide_eq_true h.1)))
  refine ev_bindc ((in_same _ _ _).trans (in_some _ _ _)) (ev_ite (fun h1 => ?_) fun h1 => ev_some (no fun h => h1 (decide_eq_true h.2.1)))
  refine ev_ite (fun h2 => ?_) fun h2 => ev_some (no fun h => h2 (by have := h.2.2.1; omega))
  obtain ⟨P, hP⟩ : ∃ P : Nat → Bool, ∀ i : Nat, P i = true ↔ ¬ SparkOk (rd_T48 l (i : Int)) := ⟨fun i => Classical.choose (bool_for (¬ SparkOk (rd_T48 l (i : Int)))), fun i => Classical.choose_spec (bool_for (¬ SparkOk (rd_T48 l (i : Int))))⟩
  obtain ⟨c, hc⟩ := bool_for (∃ i, i < l.length ∧ P i = true)
  have := ev_contains slices_IndexFunc_w47.l0 (fun k xs i => impl_GoodCloud_1.f k (rd_T48 xs i).f0 (rd_T48 xs i).f1 (rd_T48 xs i).f2 (rd_T48 xs i).f3 (rd_T48 xs i).f4) (fun _ _ _ _ => rfl) l (by omega) P (fun i _ => spark_impl _ _ (hP i)) c hc
  refine Ev.bind (f := fun _ t => some (!t)) this (ev_some ?_)
  rw [Bool.eq_iff_iff, hb, Bool.not_eq_true', ← Bool.not_eq_true, hc]
  constructor
  · intro hcn
    refine ⟨of_decide_eq_true h0, of_decide_eq_true h1, by omega, fun i hi => ?_⟩
    rcases Classical.em (SparkOk (rd_T48 l (i : Int))) with h | h
    · exact h
    · exact absurd ⟨i, hi, (hP i).2 h⟩ hcn
  · rintro h ⟨i, hi, hp⟩
    exact (hP i).1 hp (h.2.2.2 i hi)
def movedOf (f : Int) (x : S48) : S48 := ⟨wrap64 (x.f0 + x.f2), wrap64 (x.f1 + x.f3), x.f2, wrap64 (x.f3 - f), wrap64 (x.f4 - 1)⟩
def keptOf (f : Int) (l : List S48) : Nat → List S48
  | 0 => []
  | i + 1 => if (rd_T48 l (i : Int)).f4 = 1 then keptOf f l i else keptOf f l i ++ [movedOf f (rd_T48 l (i : Int))]
theorem kept_len (f : Int) (l : List S48) : ∀ i, (keptOf f l i).length ≤ i
  | 0 => Nat.le_refl _
  | i + 1 => by
    have := kept_len f l i
    unfold keptOf
    split
    · omega
    · rw [List.length_append]; simp only [List.length_cons, List.length_nil]; omega
def outOf (s st : Int) (l : List S48) (b : Bool) : Int × Int × List S48 × Bool := if b = true then (s, st, l, true) else (0, 0, [], false)
theorem burst_same (x y e u li v f : Int) (hv : 0 ≤ v ∧ v ≤ 1000000) (hu : u ≤ 20) (st : Int) : ∀ (d n : Nat) (s : Int) (l : List S48), u.toNat - n ≤ d → (0 ≤ s ∧ s ≤ 2147483647) → l.length ≤ 60 → n ≤ 20 →
    ∃ s' l' b, Ev (fun k => spec_StepCloud.l1 k (n : Int) x y e u li v f s st l) (outOf s' st l' b) ∧ Ev (fun k => impl_Emitter_step.l1 k (n : Int) x y e u li v f s st l) (s', st, l', b) ∧ (b = true → CloudOk s' st l') ∧ l'.length ≤ 60
  | d, n, s, l, hd, hs, hl, hn => by
    have fin : ∃ s' l' b, Ev (fun k => spec_StepCloud.j3 k (n : Int) false x y e u li v f s st l) (outOf s' st l' b) ∧ Ev (fun k => (impl_GoodCloud.f k s st l).bind fun t => some (s, st, l, t)) (s', st, l', b) ∧ (b = true → CloudOk s' st l') ∧ l'.length ≤ 60 := by
      obtain ⟨b, hb⟩ := bool_for (CloudOk s st l)
      refine ⟨s, l, b, st_spec_StepCloud_j3 (ev_neg (by decide) (Ev.bind (cloud_spec s st l b hb) ?_)), Ev.bind (cloud_impl s st l (by omega) b hb) (ev_some rfl), hb.1, hl⟩
      cases b with
      | true => exact ev_pos rfl (ev_some rfl)
      | false => exact ev_neg (by decide) (ev_some rfl)
    by_cases h : (n : Int) < u
    · by_cases h2 : (l.length : Int) < 60
      · obtain ⟨d, rfl⟩ : ∃ d', d = d' + 1 := ⟨d - 1, by omega⟩
        obtain ⟨s', l', b, g1, g2, g3, g4⟩ := burst_same x y e u li v f hv hu st d (n + 1) (nextOf (nextOf s)) (l ++ [⟨x, y, dxOf v s, dyOf v s, li⟩]) (by omega) (next_range _) (by rw [List.length_append]; simp only [List.length_cons, List.length_nil]; omega) (by omega)
        have hb := speed_bound v s hv
        have ht := turn_lt s
        refine ⟨s', l', b, ?_, ?_, g3, g4⟩
        · refine st_spec_StepCloud_l1 (ev_pos h ?_)
          rw [decide_eq_true h2]
          refine st_spec_StepCloud_j3 (ev_pos rfl (ev_bindc (coin_spec s hs) (ev_bindc (coin_spec _ (next_range s)) ?_)))
          simp only [turn_eq, speed_eq v s hv]
          refine Ev.bind (cos_spec _ (by omega)) (Ev.bind (fix_spec _ _ (by omega) (by have := sin_bound (turnOf s % 4096 + 1024); omega)) (Ev.bind (sin_spec _ (by omega)) (Ev.bind (fix_spec _ _ (by omega) (by have := sin_bound (turnOf s); omega)) (ev_pos (by omega) ?_))))
          rw [w64s n (by omega)]
          exact g1
        · refine st_impl_Emitter_step_l1 (ev_pos h (ev_pos h2 (Ev.bind (born_impl x y e u li v f s hv hs) (ev_pos (by omega) ?_))))
          rw [w64s n (by omega)]
          exact g2
      · obtain ⟨s', l', b, g1, g2, g3, g4⟩ := fin
        refine ⟨s', l', b, st_spec_StepCloud_l1 (ev_pos h ?_), st_impl_Emitter_step_l1 (ev_pos h (ev_neg h2 g2)), g3, g4⟩
        rw [decide_eq_false h2]
        exact g1
    · obtain ⟨s', l', b, g1, g2, g3, g4⟩ := fin
      exact ⟨s', l', b, st_spec_StepCloud_l1 (ev_neg h g1), st_impl_Emitter_step_l1 (ev_neg h g2), g3, g4⟩
  termination_by d => d
theorem end_same (x y e u li v f : Int) (he : 1 ≤ e) (hv : 0 ≤ v ∧ v ≤ 1000000) (hu : u ≤ 20) (s st st1 : Int) (hs : 0 ≤ s ∧ s ≤ 2147483647) (l : List S48) (hl : l.length ≤ 60) :
    ∃ s' l' b, Ev (fun k => if e = 0 then none else (if Int.tmod st e = 0 then (spec_StepCloud.l1 k 0 x y e u li v f s st1 l) else ((spec_GoodCloud.f k s st1 l).bind fun t => (if t = true then (some (s, st1, l, true)) else (some (0, 0, ([] : List S48), false)))))) (outOf s' st1 l' b) ∧
      Ev (fun k => if e = 0 then none else (if Int.tmod st e = 0 then (impl_Emitter_step.l1 k 0 x y e u li v f s st1 l) else ((impl_GoodCloud.f k s st1 l).bind fun t => (some (s, st1, l, t))))) (s', st1, l', b) ∧ (b = true → CloudOk s' st1 l') ∧ l'.length ≤ 60 := by
  by_cases h : Int.tmod st e = 0
  · obtain ⟨s', l', b, g1, g2, g3, g4⟩ := burst_same x y e u li v f hv hu st1 u.toNat 0 s l (by omega) hs hl (by omega)
    exact ⟨s', l', b, ev_neg (by omega) (ev_pos h g1), ev_neg (by omega) (ev_pos h g2), g3, g4⟩
  · obtain ⟨b, hb⟩ := bool_for (CloudOk s st1 l)
    refine ⟨s, l, b, ev_neg (by omega) (ev_neg h (Ev.bind (cloud_spec s st1 l b hb) ?_)), ev_neg (by omega) (ev_neg h (Ev.bind (cloud_impl s st1 l (by omega) b hb) (ev_some rfl))), hb.1, hl⟩
    cases b with
    | true => exact ev_pos rfl (ev_some rfl)
    | false => exact ev_neg (by decide) (ev_some rfl)
theorem step_same (x y e u li v f : Int) (he : 1 ≤ e) (hv : 0 ≤ v ∧ v ≤ 1000000) (hu : u ≤ 20) (s st : Int) (l : List S48) (hc : CloudOk s st l) :
    ∃ s' l' b, Ev (fun k => spec_StepCloud.l0 k l (l.length : Int) 0 x y e u li v f s st l s (wrap64 (st + 1)) []) (outOf s' (wrap64 (st + 1)) l' b) ∧ Ev (fun k => impl_Emitter_step.f k x y e u li v f s st l) (s', wrap64 (st + 1), l', b) ∧ (b = true → CloudOk s' (wrap64 (st + 1)) l') ∧ l'.length ≤ 60 := by
  have hl := hc.2.2.1
  obtain ⟨s', l', b, g1, g2, g3, g4⟩ := end_same x y e u li v f he hv hu s st (wrap64 (st + 1)) hc.1 (keptOf f l l.length) (Nat.le_trans (kept_len f l _) hl)
  refine ⟨s', l', b, ?_, ?_, g3, g4⟩
  · refine ev_for1 l.length (fun k i t => spec_StepCloud.l0 k l (l.length : Int) (i : Int) x y e u li v f s st l s (wrap64 (st + 1)) t) (fun i t => t = keptOf f l i) _ ?_ ?_ 0 [] (Nat.zero_le _) rfl
    · rintro t rfl
      exact st_spec_StepCloud_l0 (ev_neg (by omega) g1)
    · rintro i t hi rfl
      have hk := kept_len f l i
      have h4 := (hc.2.2.2 i hi).2.2.2.2
      refine .inr ⟨keptOf f l (i + 1), rfl, fun r hr => st_spec_StepCloud_l0 (ev_pos (by omega) (ev_pos (by omega) (ev_pos (by omega) ?_)))⟩
      rw [w64s i (by omega)]
      unfold keptOf at hr
      by_cases h1 : (rd_T48 l (i : Int)).f4 = 1
      · rw [if_pos h1] at hr
        exact ev_pos (by rw [w64 (by omega) (by omega)]; omega) hr
      · rw [if_neg h1] at hr
        exact ev_neg (by rw [w64 (by omega) (by omega)]; omega) (ev_pos (by omega) hr)
  · refine ev_for1 l.length (fun k i t => impl_Emitter_step.l0 k l (l.length : Int) (i : Int) x y e u li v f s st l s (wrap64 (st + 1)) t) (fun i t => t = keptOf f l i) _ ?_ ?_ 0 [] (Nat.zero_le _) rfl
    · rintro t rfl
      exact st_impl_Emitter_step_l0 (ev_neg (by omega) g2)
    · rintro i t hi rfl
      have hk := kept_len f l i
      have h4 := (hc.2.2.2 i hi).2.2.2.2
      refine .inr ⟨keptOf f l (i + 1), rfl, fun r hr => st_impl_Emitter_step_l0 (ev_pos (by omega) (ev_pos (by omega) (ev_pos (by omega) ?_)))⟩
      rw [w64s i (by omega)]
      unfold keptOf at hr
      by_cases h1 : (rd_T48 l (i : Int)).f4 = 1
      · rw [if_pos h1] at hr
        exact ev_neg (by rw [w64 (by omega) (by omega)]; omega) hr
      · rw [if_neg h1] at hr
        exact ev_pos (by rw [w64 (by omega) (by omega)]; omega) (ev_pos (by omega) hr)
def EmitterOk (x y e u li v f : Int) : Prop := 1 ≤ e ∧ (0 ≤ v ∧ v ≤ 1000000) ∧ u ≤ 20
theorem emitter_ok (x y e u li v f : Int) : ∃ b, spec_GoodEmitter.f x y e u li v f = some b ∧ (b = true → EmitterOk x y e u li v f) := by
  unfold spec_GoodEmitter.f EmitterOk
  simp only [in_some, Option.bind_some]
  repeat' split
  all_goals first
    | exact ⟨false, rfl, fun h => by cases h⟩
    | (refine ⟨_, rfl, fun h => ?_⟩; simp only [decide_eq_true_eq] at *; omega)
theorem spec_step (x y e u li v f s st : Int) (l : List S48) (hg : spec_GoodEmitter.f x y e u li v f = some true) (hok : CloudOk s st l) {r : Int × Int × List S48 × Bool}
    (hr : st = 200 → r = (0, 0, [], false)) (h : st ≠ 200 → Ev (fun k => spec_StepCloud.l0 k l (l.length : Int) 0 x y e u li v f s st l s (wrap64 (st + 1)) []) r) : Ev (fun k => spec_StepCloud.f k x y e u li v f s st l) r := by
  have cs := cloud_spec s st l true ⟨fun _ => hok, fun _ => rfl⟩
  unfold spec_StepCloud.f
  refine ev_bindc hg (ev_pos rfl (Ev.bind cs (ev_pos rfl ?_)))
  by_cases hst : st = 200
  · rw [hr hst]
    exact st_spec_StepCloud_j0 (ev_pos (by rw [hst]; rfl) (ev_some rfl))
  · exact st_spec_StepCloud_j0 (ev_neg (by simpa using hst) (h hst))
theorem runs_same (x y e u li v f : Int) (hg : spec_GoodEmitter.f x y e u li v f = some true) (he : EmitterOk x y e u li v f) : ∀ (n i : Nat) (s st : Int) (l : List S48), CloudOk s st l → n ≤ 200 → i + n ≤ 200 →
    ∃ s' st' l' b, Ev (fun k => spec_RunCloud.l0 k (n : Int) x y e u li v f s st l) (s', st', l', b) ∧ (st + n ≤ 200 → Ev (fun k => impl_RunCloud.l0 k ((i + n : Nat) : Int) (i : Int) x y e u li v f s st l) (s', st', l', b)) ∧ (200 < st + n → (s', st', l', b) = (0, 0, [], false)) ∧ l'.length ≤ 60
  | 0, i, s, st, l, hok, _, _ => by
    have h2 := hok.2.1
    exact ⟨s, st, l, true, st_spec_RunCloud_l0 (ev_neg (by omega) (ev_some rfl)), fun _ => st_impl_RunCloud_l0 (ev_neg (by omega) (ev_some rfl)), fun h => by omega, hok.2.2.1⟩
  | n + 1, i, s, st, l, hok, hn, hi => by
    have h2 := hok.2.1
    obtain ⟨e1, e2, e3⟩ := he
    by_cases hst : st = 200
    · refine ⟨0, 0, [], false, ?_, fun h => by omega, fun _ => rfl, by simp⟩
      exact st_spec_RunCloud_l0 (ev_pos (by omega) (Ev.bind (spec_step x y e u li v f s st l hg hok (fun _ => rfl) (fun h => absurd hst h)) (ev_neg (by decide) (ev_some rfl))))
    · obtain ⟨s1, l1, b, g1, g2, g3, g4⟩ := step_same x y e u li v f e1 e2 e3 s st l hok
      have sp : Ev (fun k => spec_StepCloud.f k x y e u li v f s st l) (outOf s1 (wrap64 (st + 1)) l1 b) := spec_step x y e u li v f s st l hg hok (fun h => absurd h hst) (fun _ => g1)
      have hw : wrap64 (st + 1) = st + 1 := w64 (by omega) (by omega)
      cases b with
      | false =>
        refine ⟨0, 0, [], false, ?_, fun h => ?_, fun _ => rfl, by simp⟩
        · exact st_spec_RunCloud_l0 (ev_pos (by omega) (Ev.bind sp (ev_neg (by simp [outOf]) (ev_some rfl))))
        · exact st_impl_RunCloud_l0 (ev_pos (by omega) (Ev.bind g2 (ev_neg (by simp) (ev_some rfl))))
      | true =>
        have hok1 := g3 rfl
        rw [hw] at hok1 sp g2
        obtain ⟨s', st', l', b', r1, r2, r3, r4⟩ := runs_same x y e u li v f hg ⟨e1, e2, e3⟩ n (i + 1) s1 (st + 1) l1 hok1 (by omega) (by omega)
        refine ⟨s', st', l', b', ?_, fun h => ?_, fun h => r3 (by omega), r4⟩
        · refine st_spec_RunCloud_l0 (ev_pos (by omega) (Ev.bind sp (ev_pos rfl ?_)))
          rw [show wrap64 (((n + 1 : Nat) : Int) - 1) = (n : Int) by rw [w64 (by omega) (by omega)]; omega]
          exact r1
        · have r2 := r2 (by omega)
          refine st_impl_RunCloud_l0 (ev_pos (by omega) (Ev.bind g2 (ev_pos rfl ?_)))
          rw [show wrap64 ((i : Int) + 1) = ((i + 1 : Nat) : Int) by rw [w64 (by omega) (by omega)]; omega, show ((i + (n + 1) : Nat) : Int) = ((i + 1 + n : Nat) : Int) by omega]
          exact r2
theorem runcloud_same (x y e u li v f s st : Int) (l : List S48) (hl : l.length ≤ 1048576) (a : Int) :
    ∃ s' st' l' b, Ev (fun k => spec_RunCloud.f k x y e u li v f s st l a) (s', st', l', b) ∧ Ev (fun k => impl_RunCloud.f k x y e u li v f s st l a) (s', st', l', b) ∧ l'.length ≤ 60 := by
  obtain ⟨g, hg, he⟩ := emitter_ok x y e u li v f
  have hgi : impl_GoodEmitter.f x y e u li v f = some g := (good_emitter_same _ _ _ _ _ _ _).trans hg
  cases g with
  | false =>
    refine ⟨0, 0, [], false, ?_, ?_, by simp⟩
    · unfold spec_RunCloud.f
      exact ev_bindc hg (ev_neg (by decide) (st_spec_RunCloud_j0 (ev_pos rfl (ev_some rfl))))
    · unfold impl_RunCloud.f
      exact ev_bindc hgi (ev_neg (by decide) (st_impl_RunCloud_j0 (ev_pos rfl (ev_some rfl))))
  | true =>
    obtain ⟨c, hc⟩ := bool_for (CloudOk s st l)
    have cs := cloud_spec s st l c hc
    have ci := cloud_impl s st l hl c hc
    cases c with
    | false =>
      refine ⟨0, 0, [], false, ?_, ?_, by simp⟩
      · unfold spec_RunCloud.f
        exact ev_bindc hg (ev_pos rfl (Ev.bind cs (ev_neg (by decide) (st_spec_RunCloud_j0 (ev_pos rfl (ev_some rfl))))))
      · unfold impl_RunCloud.f
        exact ev_bindc hgi (ev_pos rfl (Ev.bind ci (ev_neg (by decide) (st_impl_RunCloud_j0 (ev_pos rfl (ev_some rfl))))))
    | true =>
      have hok := hc.1 rfl
      have h2 := hok.2.1
      have h3 := hok.2.2.1
      have hw : wrap64 (200 - st) = 200 - st := w64 (by omega) (by omega)
      have h33 : impl_Spark_33.f l = some l := if_pos (by omega)
      have bad : ¬ (0 ≤ a ∧ a ≤ 200 - st) → Ev (fun k => impl_RunCloud.f k x y e u li v f s st l a) (0, 0, [], false) := fun h => by
        unfold impl_RunCloud.f
        refine ev_bindc hgi (ev_pos rfl (Ev.bind ci (ev_pos rfl (ev_bindc ((in_same _ _ _).trans (in_some _ _ _)) ?_))))
        rw [hw, decide_eq_false h]
        exact st_impl_RunCloud_j0 (ev_pos rfl (ev_some rfl))
      by_cases h : 0 ≤ a ∧ a ≤ 200
      · obtain ⟨s', st', l', b, r1, r2, r3, r4⟩ := runs_same x y e u li v f hg (he rfl) a.toNat 0 s st l hok (by omega) (by omega)
        have sp : Ev (fun k => spec_RunCloud.f k x y e u li v f s st l a) (s', st', l', b) := by
          unfold spec_RunCloud.f
          refine ev_bindc hg (ev_pos rfl (Ev.bind cs (ev_pos rfl (ev_bindc (in_some _ _ _) ?_))))
          rw [decide_eq_true h]
          rw [Int.toNat_of_nonneg h.1] at r1
          exact st_spec_RunCloud_j0 (ev_neg (by decide) (ev_bindc rfl (ev_pos (by simp only [List.length_nil]; omega) r1)))
        by_cases h5 : a ≤ 200 - st
        · refine ⟨s', st', l', b, sp, ?_, r4⟩
          unfold impl_RunCloud.f
          refine ev_bindc hgi (ev_pos rfl (Ev.bind ci (ev_pos rfl (ev_bindc ((in_same _ _ _).trans (in_some _ _ _)) ?_))))
          rw [hw, decide_eq_true ⟨h.1, h5⟩]
          have r2 := r2 (by omega)
          rw [show ((0 + a.toNat : Nat) : Int) = a by omega] at r2
          exact st_impl_RunCloud_j0 (ev_neg (by decide) (ev_bindc h33 r2))
        · rw [r3 (by omega)] at sp
          exact ⟨0, 0, [], false, sp, bad (by omega), by simp⟩
      · refine ⟨0, 0, [], false, ?_, bad (by omega), by simp⟩
        unfold spec_RunCloud.f
        refine ev_bindc hg (ev_pos rfl (Ev.bind cs (ev_pos rfl (ev_bindc (in_some _ _ _) ?_))))
        rw [decide_eq_false h]
        exact st_spec_RunCloud_j0 (ev_pos rfl (ev_some rfl))
theorem FnExactSparksAt : ∀ (a0_0 : Int) (a0_1 : Int) (a0_2 : Int) (a0_3 : Int) (a0_4 : Int) (a0_5 : Int) (a0_6 : Int) (a1 : Int) (a2 : Int), (In64 a0_0) → (In64 a0_1) → (In64 a0_2) → (In64 a0_3) → (In64 a0_4) → (In64 a0_5) → (In64 a0_6) → (In64 a1) → (In64 a2) → ∃ k, laws_FnExactSparksAt.f k a0_0 a0_1 a0_2 a0_3 a0_4 a0_5 a0_6 a1 a2 = some true := by
  intro x y e u li v f s n _ _ _ _ _ _ _ _ _
  refine Ev.rounds (g := fun k => laws_FnExactSparksAt.f k x y e u li v f s n) ?_
  have te : laws_toEmitter.f x y e u li v f = some (x, y, e, u, li, v, f) := rfl
  obtain ⟨s', st', m, t, hs, hi, hm⟩ := runcloud_same x y e u li v f s 0 [] (by simp) n
  have hs' : Ev (fun k => spec_SparksAt.f k x y e u li v f s n) ((m.length : Int), t) := Ev.bind hs (ev_some rfl)
  have hi' : Ev (fun k => impl_SparksAt.f k x y e u li v f s n) ((m.length : Int), t) := Ev.bind hi (ev_some rfl)
  exact ev_bindc te (Ev.bind hs' (ev_bindc te (Ev.bind hi' (ev_pos rfl (ev_neg (by simp) (ev_some rfl))))))
end Go.Proofs.Ythgfobcckoedaaa.Pure
