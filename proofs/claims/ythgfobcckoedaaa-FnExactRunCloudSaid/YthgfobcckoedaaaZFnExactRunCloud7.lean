/- Texts of the row of the law FnExactRunCloud, laid together. -/
import Derived.Test.YthgfobcckoedaaaZFnExactRunCloud3
import Derived.Test.YthgfobcckoedaaaZFnExactRunCloud5
import Derived.Test.YthgfobcckoedaaaZFnExactRunCloud6
namespace Go.Proofs.Ythgfobcckoedaaa.PFnExactRunCloud
open Go.RowKit Go.Proofs.YthgfobcckoedaaaW.PrintWords Go.Proofs.YthgfobcckoedaaaW.PrintLast Go.Proofs.YthgfobcckoedaaaW.PrintMore
attribute [local go_sem] max2_int min2_int max_two min_two max_three min_three max_four min_four   -- for this text's walks alone
set_option linter.unusedVariables false
set_option linter.unusedSimpArgs false
mutual
def impl_RunCloud.j0 : Nat → Int → Bool → Int → Int → Int → Int → Int → Int → Int → Int → Int → List (S48) → Option (Int × Int × (List (S48)) × Bool)
 | 0, _, _, _, _, _, _, _, _, _, _, _, _ => none
 | k + 1, x2, x25, x325000, x325001, x325002, x325003, x325004, x325005, x325006, x326000, x326001, x326002 => if x25 = true then (some (0, 0, ([] : List (S48)), false)) else ((impl_Spark_33.f x326002).bind fun t330 => (impl_RunCloud.l0 k x2 0 x325000 x325001 x325002 x325003 x325004 x325005 x325006 x326000 x326001 t330))
def impl_RunCloud.l0 : Nat → Int → Int → Int → Int → Int → Int → Int → Int → Int → Int → Int → List (S48) → Option (Int × Int × (List (S48)) × Bool)
 | 0, _, _, _, _, _, _, _, _, _, _, _, _ => none
 | k + 1, x35, x36, x325000, x325001, x325002, x325003, x325004, x325005, x325006, x334000, x334001, x334002 => if x36 < x35 then ((impl_Emitter_step.f k x325000 x325001 x325002 x325003 x325004 x325005 x325006 x334000 x334001 x334002).bind fun bt334 => (if bt334.2.2.2 = true then (impl_RunCloud.l0 k x35 (wrap64 (x36 + 1)) x325000 x325001 x325002 x325003 x325004 x325005 x325006 bt334.1 bt334.2.1 bt334.2.2.1) else (some (0, 0, ([] : List (S48)), false)))) else (some (x334000, x334001, x334002, true))
end
def impl_RunCloud.f (k : Nat) (a0_0 : Int) (a0_1 : Int) (a0_2 : Int) (a0_3 : Int) (a0_4 : Int) (a0_5 : Int) (a0_6 : Int) (a1_0 : Int) (a1_1 : Int) (l1_2 : List (S48)) (a2 : Int) : Option (Int × Int × (List (S48)) × Bool) := (impl_GoodEmitter.f a0_0 a0_1 a0_2 a0_3 a0_4 a0_5 a0_6).bind fun t327 => (if t327 = true then ((impl_GoodCloud.f k a1_0 a1_1 l1_2).bind fun t328 => (if t328 = true then ((impl_inRange.f a2 0 (wrap64 (200 - a1_1))).bind fun t329 => (impl_RunCloud.j0 k a2 (!t329) a0_0 a0_1 a0_2 a0_3 a0_4 a0_5 a0_6 a1_0 a1_1 l1_2)) else (impl_RunCloud.j0 k a2 true a0_0 a0_1 a0_2 a0_3 a0_4 a0_5 a0_6 a1_0 a1_1 l1_2))) else (impl_RunCloud.j0 k a2 true a0_0 a0_1 a0_2 a0_3 a0_4 a0_5 a0_6 a1_0 a1_1 l1_2))
theorem impl_RunCloud.mono_l : ∀ k, (∀ y0 y1 y2 y3 y4 y5 y6 y7 y8 y9 y10 y11, LeO (impl_RunCloud.j0 k y0 y1 y2 y3 y4 y5 y6 y7 y8 y9 y10 y11) (impl_RunCloud.j0 (k + 1) y0 y1 y2 y3 y4 y5 y6 y7 y8 y9 y10 y11)) ∧ (∀ y0 y1 y2 y3 y4 y5 y6 y7 y8 y9 y10 y11, LeO (impl_RunCloud.l0 k y0 y1 y2 y3 y4 y5 y6 y7 y8 y9 y10 y11) (impl_RunCloud.l0 (k + 1) y0 y1 y2 y3 y4 y5 y6 y7 y8 y9 y10 y11))
 | 0 => ⟨fun _ _ _ _ _ _ _ _ _ _ _ _ r h => by simp [impl_RunCloud.j0] at h, fun _ _ _ _ _ _ _ _ _ _ _ _ r h => by simp [impl_RunCloud.l0] at h⟩
 | k + 1 => by
  obtain ⟨ih0, ih1⟩ := impl_RunCloud.mono_l k
  refine ⟨?_, ?_⟩
  ·intro y0 y1 y2 y3 y4 y5 y6 y7 y8 y9 y10 y11
   unfold impl_RunCloud.j0
   repeat' first
   | (with_reducible exact ih0 _ _ _ _ _ _ _ _ _ _ _ _)
   | (with_reducible exact ih1 _ _ _ _ _ _ _ _ _ _ _ _)
   | (with_reducible exact impl_Emitter_step.mono _ _ _ _ _ _ _ _ _ _ _)
   | (with_reducible exact impl_GoodCloud.mono _ _ _ _)
   | (with_reducible exact LeO.refl _)
   | (with_reducible exact LeO.none _)
   | (with_reducible refine LeO.ite ?_ ?_)
   | (with_reducible refine LeO.bind ?_ (fun _ => ?_))
   | exact ih0 _ _ _ _ _ _ _ _ _ _ _ _
   | exact ih1 _ _ _ _ _ _ _ _ _ _ _ _
   | exact impl_Emitter_step.mono _ _ _ _ _ _ _ _ _ _ _
   | exact impl_GoodCloud.mono _ _ _ _
   | exact LeO.none _
   | refine LeO.ite ?_ ?_
   | refine LeO.bind ?_ (fun _ => ?_)
  ·intro y0 y1 y2 y3 y4 y5 y6 y7 y8 y9 y10 y11
   unfold impl_RunCloud.l0
   repeat' first
   | (with_reducible exact ih0 _ _ _ _ _ _ _ _ _ _ _ _)
   | (with_reducible exact ih1 _ _ _ _ _ _ _ _ _ _ _ _)
   | (with_reducible exact impl_Emitter_step.mono _ _ _ _ _ _ _ _ _ _ _)
   | (with_reducible exact impl_GoodCloud.mono _ _ _ _)
   | (with_reducible exact LeO.refl _)
   | (with_reducible exact LeO.none _)
   | (with_reducible refine LeO.ite ?_ ?_)
   | (with_reducible refine LeO.bind ?_ (fun _ => ?_))
   | exact ih0 _ _ _ _ _ _ _ _ _ _ _ _
   | exact ih1 _ _ _ _ _ _ _ _ _ _ _ _
   | exact impl_Emitter_step.mono _ _ _ _ _ _ _ _ _ _ _
   | exact impl_GoodCloud.mono _ _ _ _
   | exact LeO.none _
   | refine LeO.ite ?_ ?_
   | refine LeO.bind ?_ (fun _ => ?_)
theorem impl_RunCloud.mono : ∀ a0 a1 a2 a3 a4 a5 a6 a7 a8 a9 a10 k, LeO (impl_RunCloud.f k a0 a1 a2 a3 a4 a5 a6 a7 a8 a9 a10) (impl_RunCloud.f (k + 1) a0 a1 a2 a3 a4 a5 a6 a7 a8 a9 a10) := by
 intro a0 a1 a2 a3 a4 a5 a6 a7 a8 a9 a10 k
 obtain ⟨ih0, ih1⟩ := impl_RunCloud.mono_l k
 unfold impl_RunCloud.f
 repeat' first
   | (with_reducible exact ih0 _ _ _ _ _ _ _ _ _ _ _ _)
   | (with_reducible exact ih1 _ _ _ _ _ _ _ _ _ _ _ _)
   | (with_reducible exact impl_Emitter_step.mono _ _ _ _ _ _ _ _ _ _ _)
   | (with_reducible exact impl_GoodCloud.mono _ _ _ _)
   | (with_reducible exact LeO.refl _)
   | (with_reducible exact LeO.none _)
   | (with_reducible refine LeO.ite ?_ ?_)
   | (with_reducible refine LeO.bind ?_ (fun _ => ?_))
   | exact ih0 _ _ _ _ _ _ _ _ _ _ _ _
   | exact ih1 _ _ _ _ _ _ _ _ _ _ _ _
   | exact impl_Emitter_step.mono _ _ _ _ _ _ _ _ _ _ _
   | exact impl_GoodCloud.mono _ _ _ _
   | exact LeO.none _
   | refine LeO.ite ?_ ?_
   | refine LeO.bind ?_ (fun _ => ?_)
def impl_RunCloud.T3 : Bool × List (List Nat × List Nat) := (true, [([], []), ([0], [0]), ([], []), ([2], [2]), ([], []), ([4], [4]), ([5], [5]), ([1, 3, 6], [1, 3, 6]), ([], []), ([8, 7, 6, 0, 1, 2, 3, 4, 5, 6, 7, 8], [7, 8]), ([9, 0, 1, 2, 3, 4, 5, 6, 7, 8, 9], [])])
def impl_RunCloud.B3 : List Nat := [0, 1, 0, 4, 0, 16, 48, 127, 0, 511, 1023]
theorem impl_RunCloud.tab3 : rtab .any (opsOf Try.f17 3) = impl_RunCloud.T3 := by kernel_rfl
theorem impl_RunCloud.bits3 : waitsOk impl_RunCloud.T3.2 impl_RunCloud.B3 = true := by kernel_rfl
set_option maxHeartbeats 8000000 in
set_option maxRecDepth 100000 in
theorem impl_RunCloud.calls (k : Nat) (a0_0 : Int) (a0_1 : Int) (a0_2 : Int) (a0_3 : Int) (a0_4 : Int) (a0_5 : Int) (a0_6 : Int) (a1_0 : Int) (a1_1 : Int) (A1_2 : Option Addr) (c1_2 : Nat) (l1_2 : List (S48)) (a2 : Int) (r1 : Int) (r2 : Int) (r3 : List (S48)) (r4 : Bool) (w : World) (hr1_2 : Kd.C k48 w A1_2 l1_2.length l1_2) (hc1_2 : l1_2.length ≤ c1_2) (h : impl_RunCloud.f k a0_0 a0_1 a0_2 a0_3 a0_4 a0_5 a0_6 a1_0 a1_1 l1_2 a2 = some (r1, r2, r3, r4)) :
  Calls Try.prog 17 #[.agg #[.int .i64 a0_0, .int .i64 a0_1, .int .i64 a0_2, .int .i64 a0_3, .int .i64 a0_4, .int .i64 a0_5, .int .i64 a0_6], .agg #[.int .i64 a1_0, .int .i64 a1_1, .slice A1_2 l1_2.length c1_2], .int .i64 a2] w fun e w' => ∃ v2_ : Value, e = .returned (.tuple #[.agg #[.int .i64 r1, .int .i64 r2, v2_], .bool r4]) ∧ Kd.R k48 48 w' w.heap.size (fun _ => True) v2_ r3 ∧ Below w.heap.size w w' := by
 have hu26 := Try.underlying26
 have hu35 := Try.underlying35
 have HR1_2 := Aside0.mk hr1_2
 have HC1_2 := Aside0.mk hc1_2
 clear hr1_2 hc1_2
 have HB := Aside0.mk (Below.refl w.heap.size w)
 have H : ((impl_GoodEmitter.f a0_0 a0_1 a0_2 a0_3 a0_4 a0_5 a0_6).bind fun t327 => (if t327 = true then ((impl_GoodCloud.f k a1_0 a1_1 l1_2).bind fun t328 => (if t328 = true then ((impl_inRange.f a2 0 (wrap64 (200 - a1_1))).bind fun t329 => (impl_RunCloud.j0 k a2 (!t329) a0_0 a0_1 a0_2 a0_3 a0_4 a0_5 a0_6 a1_0 a1_1 l1_2)) else (impl_RunCloud.j0 k a2 true a0_0 a0_1 a0_2 a0_3 a0_4 a0_5 a0_6 a1_0 a1_1 l1_2))) else (impl_RunCloud.j0 k a2 true a0_0 a0_1 a0_2 a0_3 a0_4 a0_5 a0_6 a1_0 a1_1 l1_2))) = some (r1, r2, r3, r4) := h
 clear h
 have HC4 := Aside0.mk H
 clear H
 go_enter Try.func17, Try.ntmps17
 go_upto_region 1 with (first | ((with_reducible refine gate_dst (N := 3) rfl ?_); refine box_event rfl (N := 3) rfl (cs := #[.int .i64 a0_0, .int .i64 a0_1, .int .i64 a0_2, .int .i64 a0_3, .int .i64 a0_4, .int .i64 a0_5, .int .i64 a0_6]) (t := 26) sE ?_; intro gb324 hg w5 hbox hb; have BK324 := Aside0.mk hbox; have GW324 := gS w hg (lU); have GE324 := GW324; replace HB := bH (lU) hb; clear hb hbox hg) | ((with_reducible refine gate_dst (N := 4) rfl ?_); refine box_event rfl (N := 4) rfl (cs := #[.int .i64 a1_0, .int .i64 a1_1, .slice A1_2 l1_2.length c1_2]) (t := 35) sE ?_; intro gb325 hg w6 hbox hb; have BK325 := Aside0.mk hbox; have GW325 := gS w hg (lV1 GE324); have GE325 := GW325; replace HB := bH (lV1 GE324) hb; have NB324_325 := nL hg (bV BK324); have NB325_324 := nG hg (bV BK324); replace BK324 := bB (bV BK324) hb; clear hb hbox hg) | ((with_reducible refine gate_dst (N := 6) rfl ?_); refine box_event rfl (N := 6) rfl (cs := #[.int .i64 0, .int .i64 0, .slice none 0 0]) (t := 35) sE ?_; intro gb326 hg w7 hbox hb; have BK326 := Aside0.mk hbox; have GW326 := gS w hg (lV2 GE324 GE325); have GE326 := GW326; replace HB := bH (lV2 GE324 GE325) hb; have NB324_326 := nL hg (bV BK324); have NB326_324 := nG hg (bV BK324); replace BK324 := bB (bV BK324) hb; have NB325_326 := nL hg (bV BK325); have NB326_325 := nG hg (bV BK325); replace BK325 := bB (bV BK325) hb; clear hb hbox hg))
 (try simp only [Act.put, List.setIfInBounds_toArray, List.set_cons_zero, List.set_cons_succ])
 go_cut [25] (fun v25 wc => ∃ (kq : Nat) (x25_3 : Bool), v25 = .bool x25_3 ∧ Aside0 (impl_RunCloud.j0 kq a2 x25_3 a0_0 a0_1 a0_2 a0_3 a0_4 a0_5 a0_6 a1_0 a1_1 l1_2 = some (r1, r2, r3, r4)) ∧ Aside0 (kq ≤ k) ∧ Aside0 (wc.heap[gb324]? = some (.cells #[.int .i64 a0_0, .int .i64 a0_1, .int .i64 a0_2, .int .i64 a0_3, .int .i64 a0_4, .int .i64 a0_5, .int .i64 a0_6] 26 (0, 0))) ∧ Aside0 (wc.heap[gb325]? = some (.cells #[.int .i64 a1_0, .int .i64 a1_1, (.slice A1_2 l1_2.length c1_2)] 35 (0, 0))) ∧ Aside0 (wc.heap[gb326]? = some (.cells #[.int .i64 0, .int .i64 0, (.slice none 0 0)] 35 (0, 0))) ∧ Aside0 (Below w.heap.size w wc))
 case first =>
  have H := HC4.out
  clear HC4
  replace H := Option.bind_eq_some_iff.mp H
  obtain ⟨t327, A80, H⟩ := H
  replace H : (if t327 = true then ((impl_GoodCloud.f k a1_0 a1_1 l1_2).bind fun t328 => (if t328 = true then ((impl_inRange.f a2 0 (wrap64 (200 - a1_1))).bind fun t329 => (impl_RunCloud.j0 k a2 (!t329) a0_0 a0_1 a0_2 a0_3 a0_4 a0_5 a0_6 a1_0 a1_1 l1_2)) else (impl_RunCloud.j0 k a2 true a0_0 a0_1 a0_2 a0_3 a0_4 a0_5 a0_6 a1_0 a1_1 l1_2))) else (impl_RunCloud.j0 k a2 true a0_0 a0_1 a0_2 a0_3 a0_4 a0_5 a0_6 a1_0 a1_1 l1_2)) = some (r1, r2, r3, r4) := H
  have A8 := Aside0.mk A80
  clear A80
  by_cases c9 : t327 = true
  ·subst c9
   have H1 : ((impl_GoodCloud.f k a1_0 a1_1 l1_2).bind fun t328 => (if t328 = true then ((impl_inRange.f a2 0 (wrap64 (200 - a1_1))).bind fun t329 => (impl_RunCloud.j0 k a2 (!t329) a0_0 a0_1 a0_2 a0_3 a0_4 a0_5 a0_6 a1_0 a1_1 l1_2)) else (impl_RunCloud.j0 k a2 true a0_0 a0_1 a0_2 a0_3 a0_4 a0_5 a0_6 a1_0 a1_1 l1_2))) = some (r1, r2, r3, r4) := by rw [if_pos rfl] at H; exact H
   clear H
   have H := H1
   clear H1
   replace H := Option.bind_eq_some_iff.mp H
   obtain ⟨t328, A100, H⟩ := H
   replace H : (if t328 = true then ((impl_inRange.f a2 0 (wrap64 (200 - a1_1))).bind fun t329 => (impl_RunCloud.j0 k a2 (!t329) a0_0 a0_1 a0_2 a0_3 a0_4 a0_5 a0_6 a1_0 a1_1 l1_2)) else (impl_RunCloud.j0 k a2 true a0_0 a0_1 a0_2 a0_3 a0_4 a0_5 a0_6 a1_0 a1_1 l1_2)) = some (r1, r2, r3, r4) := H
   have A10 := Aside0.mk A100
   clear A100
   by_cases c11 : t328 = true
   ·subst c11
    have H1 : ((impl_inRange.f a2 0 (wrap64 (200 - a1_1))).bind fun t329 => (impl_RunCloud.j0 k a2 (!t329) a0_0 a0_1 a0_2 a0_3 a0_4 a0_5 a0_6 a1_0 a1_1 l1_2)) = some (r1, r2, r3, r4) := by rw [if_pos rfl] at H; exact H
    clear H
    have H := H1
    clear H1
    replace H := Option.bind_eq_some_iff.mp H
    obtain ⟨t329, A120, H⟩ := H
    replace H : (impl_RunCloud.j0 k a2 (!t329) a0_0 a0_1 a0_2 a0_3 a0_4 a0_5 a0_6 a1_0 a1_1 l1_2) = some (r1, r2, r3, r4) := H
    have A12 := Aside0.mk A120
    clear A120
    have H' := Aside0.mk H
    clear H
    have hnb13 := NB324_325.out
    have hnc13 := NB325_324.out
    have hnb14 := NB324_326.out
    have hnc14 := NB326_324.out
    have hcz15_0 := cz BK324 0 (.int .i64 a0_0)
    have hcz15_1 := cz BK324 1 (.int .i64 a0_1)
    have hcz15_2 := cz BK324 2 (.int .i64 a0_2)
    have hcz15_3 := cz BK324 3 (.int .i64 a0_3)
    have hcz15_4 := cz BK324 4 (.int .i64 a0_4)
    have hcz15_5 := cz BK324 5 (.int .i64 a0_5)
    have hcz15_6 := cz BK324 6 (.int .i64 a0_6)
    have hfz15_0 := fz BK324 0
    have hfz15_1 := fz BK324 1
    have hfz15_2 := fz BK324 2
    have hfz15_3 := fz BK324 3
    have hfz15_4 := fz BK324 4
    have hfz15_5 := fz BK324 5
    have hfz15_6 := fz BK324 6
    go_wp2_with (first | ((with_reducible refine gate_callee (f := 30) rfl ?_); refine goesL_ (some 11) rfl rfl Try.func30 (by kernel_rfl) rfl #[.agg #[.int .i64 a0_0, .int .i64 a0_1, .int .i64 a0_2, .int .i64 a0_3, .int .i64 a0_4, .int .i64 a0_5, .int .i64 a0_6]] rfl aE ?_; (with_reducible refine (impl_GoodEmitter.calls a0_0 a0_1 a0_2 a0_3 a0_4 a0_5 a0_6 true _ A8.out).mono ?_); rintro e w16 ⟨rfl, hb⟩; refine ⟨_, rfl, ?_⟩; replace BK324 := bB (bV BK324) hb; replace BK325 := bB (bV BK325) hb; replace BK326 := bB (bV BK326) hb; replace HB := bH (lV3 GE324 GE325 GE326) hb; (try clear hb); have hnb17 := NB325_326.out; have hnc17 := NB326_325.out; have hcz18_0 := cz BK325 0 (.int .i64 a1_0); have hcz18_1 := cz BK325 1 (.int .i64 a1_1); have hcz18_2 := cz BK325 2 (.slice A1_2 l1_2.length c1_2); have hfz18_0 := fz BK325 0; have hfz18_1 := fz BK325 1; have hfz18_2 := fz BK325 2) | (go_at_call 31; (with_reducible refine (impl_GoodCloud.calls k a1_0 a1_1 _ _ l1_2 true _ ?side1 ?side2 A10.out).mono ?_); (case side1 => exact cU (Kd.C_below HR1_2.out HB.out)); (case side2 => exact HC1_2.out); rintro e w19 ⟨rfl, hb⟩; replace BK324 := bB (bV BK324) hb; replace BK325 := bB (bV BK325) hb; replace BK326 := bB (bV BK326) hb; replace HB := bH (lV3 GE324 GE325 GE326) hb; (try clear hb); have hcz20_0 := cz BK325 0 (.int .i64 a1_0); have hcz20_1 := cz BK325 1 (.int .i64 a1_1); have hcz20_2 := cz BK325 2 (.slice A1_2 l1_2.length c1_2); have hfz20_0 := fz BK325 0; have hfz20_1 := fz BK325 1; have hfz20_2 := fz BK325 2) | (go_at_call 32; (with_reducible refine (impl_inRange.calls a2 0 (wrap64 (200 - a1_1)) t329 _ A12.out).mono ?_); rintro e w' ⟨rfl, ⟨nd, rfl⟩⟩))
    go_meet
    case rel => exact ⟨_, (!t329), tE, H', ⟨by first | omega | exact Nat.le_refl _⟩, ⟨by refine bU ?_; exact BK324.out⟩, ⟨by refine bU ?_; exact BK325.out⟩, ⟨by refine bU ?_; exact BK326.out⟩, ⟨by repeat (first | (with_reducible first | exact HB.out | apply below_alloc | apply pw_below_drewN | apply below_drew1 | refine below_set ?_ GE324.out | refine below_set ?_ GE325.out | refine below_set ?_ GE326.out) | exact HB.out)⟩⟩
   ·replace c11 := Bool.eq_false_iff.mpr c11
    subst c11
    have H1 : (impl_RunCloud.j0 k a2 true a0_0 a0_1 a0_2 a0_3 a0_4 a0_5 a0_6 a1_0 a1_1 l1_2) = some (r1, r2, r3, r4) := by rw [if_neg (show ¬ (false = true) by decide)] at H; exact H
    clear H
    have H := H1
    clear H1
    have H' := Aside0.mk H
    clear H
    have hnb21 := NB324_325.out
    have hnc21 := NB325_324.out
    have hnb22 := NB324_326.out
    have hnc22 := NB326_324.out
    have hcz23_0 := cz BK324 0 (.int .i64 a0_0)
    have hcz23_1 := cz BK324 1 (.int .i64 a0_1)
    have hcz23_2 := cz BK324 2 (.int .i64 a0_2)
    have hcz23_3 := cz BK324 3 (.int .i64 a0_3)
    have hcz23_4 := cz BK324 4 (.int .i64 a0_4)
    have hcz23_5 := cz BK324 5 (.int .i64 a0_5)
    have hcz23_6 := cz BK324 6 (.int .i64 a0_6)
    have hfz23_0 := fz BK324 0
    have hfz23_1 := fz BK324 1
    have hfz23_2 := fz BK324 2
    have hfz23_3 := fz BK324 3
    have hfz23_4 := fz BK324 4
    have hfz23_5 := fz BK324 5
    have hfz23_6 := fz BK324 6
    go_wp2_with (first | ((with_reducible refine gate_callee (f := 30) rfl ?_); refine goesL_ (some 11) rfl rfl Try.func30 (by kernel_rfl) rfl #[.agg #[.int .i64 a0_0, .int .i64 a0_1, .int .i64 a0_2, .int .i64 a0_3, .int .i64 a0_4, .int .i64 a0_5, .int .i64 a0_6]] rfl aE ?_; (with_reducible refine (impl_GoodEmitter.calls a0_0 a0_1 a0_2 a0_3 a0_4 a0_5 a0_6 true _ A8.out).mono ?_); rintro e w24 ⟨rfl, hb⟩; refine ⟨_, rfl, ?_⟩; replace BK324 := bB (bV BK324) hb; replace BK325 := bB (bV BK325) hb; replace BK326 := bB (bV BK326) hb; replace HB := bH (lV3 GE324 GE325 GE326) hb; (try clear hb); have hnb25 := NB325_326.out; have hnc25 := NB326_325.out; have hcz26_0 := cz BK325 0 (.int .i64 a1_0); have hcz26_1 := cz BK325 1 (.int .i64 a1_1); have hcz26_2 := cz BK325 2 (.slice A1_2 l1_2.length c1_2); have hfz26_0 := fz BK325 0; have hfz26_1 := fz BK325 1; have hfz26_2 := fz BK325 2) | (go_at_call 31; (with_reducible refine (impl_GoodCloud.calls k a1_0 a1_1 _ _ l1_2 false _ ?side1 ?side2 A10.out).mono ?_); (case side1 => exact cU (Kd.C_below HR1_2.out HB.out)); (case side2 => exact HC1_2.out); rintro e w27 ⟨rfl, hb⟩; replace BK324 := bB (bV BK324) hb; replace BK325 := bB (bV BK325) hb; replace BK326 := bB (bV BK326) hb; replace HB := bH (lV3 GE324 GE325 GE326) hb; (try clear hb)))
    go_meet
    case rel => exact ⟨_, (true), tE, H', ⟨by first | omega | exact Nat.le_refl _⟩, ⟨by refine bU ?_; exact BK324.out⟩, ⟨by refine bU ?_; exact BK325.out⟩, ⟨by refine bU ?_; exact BK326.out⟩, ⟨by repeat (first | (with_reducible first | exact HB.out | apply below_alloc | apply pw_below_drewN | apply below_drew1 | refine below_set ?_ GE324.out | refine below_set ?_ GE325.out | refine below_set ?_ GE326.out) | exact HB.out)⟩⟩
  ·replace c9 := Bool.eq_false_iff.mpr c9
   subst c9
   have H1 : (impl_RunCloud.j0 k a2 true a0_0 a0_1 a0_2 a0_3 a0_4 a0_5 a0_6 a1_0 a1_1 l1_2) = some (r1, r2, r3, r4) := by rw [if_neg (show ¬ (false = true) by decide)] at H; exact H
   clear H
   have H := H1
   clear H1
   have H' := Aside0.mk H
   clear H
   have hnb28 := NB324_325.out
   have hnc28 := NB325_324.out
   have hnb29 := NB324_326.out
   have hnc29 := NB326_324.out
   have hcz30_0 := cz BK324 0 (.int .i64 a0_0)
   have hcz30_1 := cz BK324 1 (.int .i64 a0_1)
   have hcz30_2 := cz BK324 2 (.int .i64 a0_2)
   have hcz30_3 := cz BK324 3 (.int .i64 a0_3)
   have hcz30_4 := cz BK324 4 (.int .i64 a0_4)
   have hcz30_5 := cz BK324 5 (.int .i64 a0_5)
   have hcz30_6 := cz BK324 6 (.int .i64 a0_6)
   have hfz30_0 := fz BK324 0
   have hfz30_1 := fz BK324 1
   have hfz30_2 := fz BK324 2
   have hfz30_3 := fz BK324 3
   have hfz30_4 := fz BK324 4
   have hfz30_5 := fz BK324 5
   have hfz30_6 := fz BK324 6
   go_wp2_with (first | ((with_reducible refine gate_callee (f := 30) rfl ?_); refine goesL_ (some 11) rfl rfl Try.func30 (by kernel_rfl) rfl #[.agg #[.int .i64 a0_0, .int .i64 a0_1, .int .i64 a0_2, .int .i64 a0_3, .int .i64 a0_4, .int .i64 a0_5, .int .i64 a0_6]] rfl aE ?_; (with_reducible refine (impl_GoodEmitter.calls a0_0 a0_1 a0_2 a0_3 a0_4 a0_5 a0_6 false _ A8.out).mono ?_); rintro e w31 ⟨rfl, hb⟩; refine ⟨_, rfl, ?_⟩; replace BK324 := bB (bV BK324) hb; replace BK325 := bB (bV BK325) hb; replace BK326 := bB (bV BK326) hb; replace HB := bH (lV3 GE324 GE325 GE326) hb; (try clear hb)))
   go_meet
   case rel => exact ⟨_, (true), tE, H', ⟨by first | omega | exact Nat.le_refl _⟩, ⟨by refine bU ?_; exact BK324.out⟩, ⟨by refine bU ?_; exact BK325.out⟩, ⟨by refine bU ?_; exact BK326.out⟩, ⟨by repeat (first | (with_reducible first | exact HB.out | apply below_alloc | apply pw_below_drewN | apply below_drew1 | refine below_set ?_ GE324.out | refine below_set ?_ GE325.out | refine below_set ?_ GE326.out) | exact HB.out)⟩⟩
 case rest =>
  clear HC4
  try clear c1
  try clear c2
  try clear p2
  try clear c3
  try clear p6
  try clear c9
  try clear c11
  try clear c13
  try clear c14
  try clear c17
  try clear c21
  try clear c22
  try clear c25
  try clear c28
  try clear c29
  try clear c30
  try clear hcz15_0
  try clear hcz15_1
  try clear hcz15_2
  try clear hcz15_3
  try clear hcz15_4
  try clear hcz15_5
  try clear hcz15_6
  try clear hcz18_0
  try clear hcz18_1
  try clear hcz18_2
  try clear hcz20_0
  try clear hcz20_1
  try clear hcz20_2
  try clear hcz23_0
  try clear hcz23_1
  try clear hcz23_2
  try clear hcz23_3
  try clear hcz23_4
  try clear hcz23_5
  try clear hcz23_6
  try clear hcz26_0
  try clear hcz26_1
  try clear hcz26_2
  try clear hcz30_0
  try clear hcz30_1
  try clear hcz30_2
  try clear hcz30_3
  try clear hcz30_4
  try clear hcz30_5
  try clear hcz30_6
  try clear hfz15_0
  try clear hfz15_1
  try clear hfz15_2
  try clear hfz15_3
  try clear hfz15_4
  try clear hfz15_5
  try clear hfz15_6
  try clear hfz18_0
  try clear hfz18_1
  try clear hfz18_2
  try clear hfz20_0
  try clear hfz20_1
  try clear hfz20_2
  try clear hfz23_0
  try clear hfz23_1
  try clear hfz23_2
  try clear hfz23_3
  try clear hfz23_4
  try clear hfz23_5
  try clear hfz23_6
  try clear hfz26_0
  try clear hfz26_1
  try clear hfz26_2
  try clear hfz30_0
  try clear hfz30_1
  try clear hfz30_2
  try clear hfz30_3
  try clear hfz30_4
  try clear hfz30_5
  try clear hfz30_6
  obtain ⟨kq, x25_3, rfl, HA, HJ3, BK324, BK325, BK326, HB⟩ := hcut
  cases kq with
  | zero => exact absurd HA.out (by simp [impl_RunCloud.j0])
  | succ kj3 =>
   have H := HA.out
   clear HA
   simp only [impl_RunCloud.j0] at H
   by_cases c32 : x25_3 = true
   ·subst c32
    have H1 : (some (0, 0, ([] : List (S48)), false)) = some (r1, r2, r3, r4) := by rw [if_pos rfl] at H; exact H
    clear H
    have H := H1
    clear H1
    simp only [Option.some.injEq, Prod.mk.injEq] at H
    obtain ⟨rfl, rfl, rfl, rfl⟩ := H
    have hnb33 := NB326_324.out
    have hnc33 := NB324_326.out
    have hnb34 := NB326_325.out
    have hnc34 := NB325_326.out
    have hcz35_0 := cz BK326 0 (.int .i64 0)
    have hcz35_1 := cz BK326 1 (.int .i64 0)
    have hcz35_2 := cz BK326 2 (.slice none 0 0)
    have hfz35_0 := fz BK326 0
    have hfz35_1 := fz BK326 1
    have hfz35_2 := fz BK326 2
    go_wp2_with (first | ((with_reducible refine gate_store (t := 35) (p := 6) rfl ?_); refine store_event (t := 35) (p := 6) (v := ?vo_w36) (w1 := (((wc.setCell ⟨gb326, 0, none⟩ (.int .i64 0)).setCell ⟨gb326, 1, none⟩ (.int .i64 0)).setCell ⟨gb326, 2, none⟩ (.slice none 0 0))) ?hg ?ho ?hn ?hr ?_; (case ho => rfl); (case hg => rfl); (case hn => rfl); (case hr => first | (go_simp; done) | (go_simp; rfl) | (have hq0_ := (blk_cell BK326.out 0).trans (show _ = some _ from rfl); have hf0_ := blk_frozen BK326.out 0; have hq1_ := (blk_cell BK326.out 1).trans (show _ = some _ from rfl); have hf1_ := blk_frozen BK326.out 1; have hq2_ := (blk_cell BK326.out 2).trans (show _ = some _ from rfl); have hf2_ := blk_frozen BK326.out 2; first | (go_simp; done) | (go_simp; rfl))); intro w36 hw; replace BK324 : Aside0 (w36.heap[gb324]? = some (.cells #[.int .i64 a0_0, .int .i64 a0_1, .int .i64 a0_2, .int .i64 a0_3, .int .i64 a0_4, .int .i64 a0_5, .int .i64 a0_6] 26 (0, 0))) := ⟨(by rw [hw]; exact (bG NB324_326 BK324))⟩; replace BK325 : Aside0 (w36.heap[gb325]? = some (.cells #[.int .i64 a1_0, .int .i64 a1_1, .slice A1_2 l1_2.length c1_2] 35 (0, 0))) := ⟨(by rw [hw]; exact (bG NB325_326 BK325))⟩; replace BK326 : Aside0 (w36.heap[gb326]? = some (.cells #[.int .i64 0, .int .i64 0, .slice none 0 0] 35 (0, 0))) := ⟨(by rw [hw]; exact (by refine bU ?_; refine blk_put (cs := #[.int .i64 0, .int .i64 0, .slice none 0 0]) ?_ 2 _ rfl; refine bU ?_; refine blk_put (cs := #[.int .i64 0, .int .i64 0, .slice none 0 0]) ?_ 1 _ rfl; refine bU ?_; refine blk_put (cs := #[.int .i64 0, .int .i64 0, .slice none 0 0]) ?_ 0 _ rfl; refine bU ?_; exact BK326.out))⟩; replace HB : Aside0 (Below w.heap.size w w36) := ⟨(by rw [hw]; exact (lV3 GE324 GE325 GE326))⟩; clear hw))
    refine bodyPost_ret (results_ct rfl _ _ gb326 35 #[.int .i64 0, .int .i64 0, .slice none 0 0] (0, 0) _ rfl (bV BK326) Try.underlying35 rfl (by kernel_rfl)) rfl ?_
    exact ⟨_, eE, by first | exact Kd.R_nil _ _ _ _ _ | exact Kd.N_nil _ _ _ _ _ | exact Kd.V_nil _ _ _ _ _ | exact Kd.Q_nil _ _ _ _ _ | exact Kd.S_nil _ _ _ _ _, lV3 GE324 GE325 GE326⟩
   ·replace c32 := Bool.eq_false_iff.mpr c32
    subst c32
    have H1 : ((impl_Spark_33.f l1_2).bind fun t330 => (impl_RunCloud.l0 kj3 a2 0 a0_0 a0_1 a0_2 a0_3 a0_4 a0_5 a0_6 a1_0 a1_1 t330)) = some (r1, r2, r3, r4) := by rw [if_neg (show ¬ (false = true) by decide)] at H; exact H
    clear H
    have H := H1
    clear H1
    replace H := Option.bind_eq_some_iff.mp H
    obtain ⟨t330, A370, H⟩ := H
    replace H : (impl_RunCloud.l0 kj3 a2 0 a0_0 a0_1 a0_2 a0_3 a0_4 a0_5 a0_6 a1_0 a1_1 t330) = some (r1, r2, r3, r4) := H
    have A37 := Aside0.mk A370
    clear A370
    have H' := Aside0.mk H
    clear H
    try go_wp2
    replace BK324 := Aside0.mk (blk_drew BK324.out)
    replace BK325 := Aside0.mk (blk_drew BK325.out)
    replace BK326 := Aside0.mk (blk_drew BK326.out)
    replace HB := Aside0.mk (below_drew1 HB.out)
    refine start_ (n := 11) (S := fun w' => w'.cell? ⟨gb325, 0, none⟩ = some (.int .i64 a1_0) ∧ w'.cell? ⟨gb325, 1, none⟩ = some (.int .i64 a1_1) ∧ w'.cell? ⟨gb325, 2, none⟩ = some (.slice A1_2 l1_2.length c1_2)) (ds := []) #[false, false, false, false, false, false, false, false, false, false, false] (by kernel_rfl) rfl rfl ⟨cz BK325 0 _, cz BK325 1 _, cz BK325 2 _⟩ (fun hHeld => ?_); refine with_tabW impl_RunCloud.tab3 impl_RunCloud.bits3 (fun HT_ HW_ => ?_)
    generalize wc.drew = w38 at BK324 BK325 BK326 HB hHeld ⊢
    refine pureA 0 27 (bz 11 1) rfl rfl (any_of HT_.out (by kernel_rfl)) ?_
    refine pureA 2 29 (bz 11 5) rfl rfl (any_of HT_.out (by kernel_rfl)) ?_
    refine pureA 4 31 (bz 11 21) rfl rfl (any_of HT_.out (by kernel_rfl)) ?_
    refine takeA 1 28 (bz 11 23) rfl rfl (take_ofW HT_.out HW_.out (by kernel_rfl)) hHeld (by rintro w' ⟨s0, s1, s2⟩; go_simp; with_reducible rfl) ?_
    refine takeA 3 30 (bz 11 31) rfl rfl (take_ofW HT_.out HW_.out (by kernel_rfl)) hHeld (by rintro w' ⟨s0, s1, s2⟩; go_simp; with_reducible rfl) ?_
    refine takeA 5 32 (bz 11 63) rfl rfl (take_ofW HT_.out HW_.out (by kernel_rfl)) hHeld (by rintro w' ⟨s0, s1, s2⟩; go_simp; with_reducible rfl) ?_
    refine join_ (σ := Value × Nat) 2 #[true, true, true, true, true, true, true, true, true, false, false] (fun s_ => [(33, s_.1), (8, .pointer (some ⟨s_.2, 0, none⟩)), (34, .agg #[.int .i64 a1_0, .int .i64 a1_1, s_.1])]) (fun s_ w' => (w'.cell? ⟨gb325, 0, none⟩ = some (.int .i64 a1_0) ∧ w'.cell? ⟨gb325, 1, none⟩ = some (.int .i64 a1_1) ∧ w'.cell? ⟨gb325, 2, none⟩ = some (.slice A1_2 l1_2.length c1_2)) ∧ (Kd.R k48 48 w' w.heap.size (fun _ => True) s_.1 t330) ∧ (w'.heap[gb324]? = some (.cells #[.int .i64 a0_0, .int .i64 a0_1, .int .i64 a0_2, .int .i64 a0_3, .int .i64 a0_4, .int .i64 a0_5, .int .i64 a0_6] 26 (0, 0))) ∧ (w'.heap[gb325]? = some (.cells #[.int .i64 a1_0, .int .i64 a1_1, .slice A1_2 l1_2.length c1_2] 35 (0, 0))) ∧ (w'.heap[gb326]? = some (.cells #[.int .i64 0, .int .i64 0, .slice none 0 0] 35 (0, 0))) ∧ (w'.heap[s_.2]? = some (.cells #[.int .i64 0, .int .i64 0, .slice none 0 0] 35 (0, 0))) ∧ (w.heap.size ≤ s_.2) ∧ (w.heap.size ≤ s_.2) ∧ (gb324 ≠ s_.2) ∧ (s_.2 ≠ gb324) ∧ (gb325 ≠ s_.2) ∧ (s_.2 ≠ gb325) ∧ (gb326 ≠ s_.2) ∧ (s_.2 ≠ gb326) ∧ (Below w.heap.size w w')) ?_ ?_
    rotate_left
    ·intro hCont
     refine two_ (i := 6) (j := 8) (Ni := some 33) (Nj := some 8) #[true, true, true, true, true, true, true, false, false, false, false] #[true, true, true, true, true, true, false, false, true, false, false] rfl rfl rfl rfl (two_of HT_.out (by kernel_rfl)) (by decide) (by decide) (fun K hK => ?_) (fun K hK => ?_)
     ·skip
      refine goes_ Try.func33 (by kernel_rfl) rfl #[.slice A1_2 l1_2.length c1_2] (by rfl) rfl rfl aE ?_
      with_reducible refine (impl_Spark_33.calls _ _ l1_2 t330 _ ?side1 ?side2 A37.out).mono ?_
      (case side1 => exact cU (Kd.C_below HR1_2.out HB.out))
      (case side2 => exact HC1_2.out)
      rintro e w39 ⟨v331, rfl, ho0, hb⟩
      refine ⟨_, rfl, ?_⟩
      have HO332 := Aside0.mk (Kd.R_lower ho0 (below_size (lV3 GE324 GE325 GE326)))
      replace BK324 := bB (bV BK324) hb
      replace BK325 := bB (bV BK325) hb
      replace BK326 := bB (bV BK326) hb
      replace HB := bH (lV3 GE324 GE325 GE326) hb
      (try clear hb)
      (try clear hb2)
      (try clear hk)
      (try clear hi)
      (try clear ho0)
      obtain ⟨Ao40, co40, eo40⟩ := Kd.R_slice HO332.out
      (first | subst eo40 | (injection eo40 with f1_ f2_ f3_; have f4_ := f1_.symm; have f5_ := f3_.symm; clear f1_ f2_ f3_; subst f4_; subst f5_))
      refine hK.out _ _ ⟨cz BK325 0 _, cz BK325 1 _, cz BK325 2 _⟩ (fun hHeld => ?_)
      clear hK K
      refine norm_ (a' := ?_) ?_ ?_
      rotate_left
      ·show Act.put _ (some 33) _ = _
       simp only [Act.put, List.setIfInBounds_toArray, List.set_cons_zero, List.set_cons_succ, i64_w, i32_w]
       rfl
      refine pureA 7 34 (bz 11 255) rfl rfl (any_of HT_.out (by kernel_rfl)) ?_
      refine one_ (i := 8) (N := some 8) (bz 11 511) rfl rfl (one_of HT_.out (by kernel_rfl)) (by decide) (fun K hK => ?_)
      refine box_step ?hg (N := 8) ?hd (cs := #[.int .i64 0, .int .i64 0, .slice none 0 0]) (t := 35) ?hr ?_; (case hd => rfl); (case hg => rfl); (case hr => exact sE)
      intro gb333 hg w41 hbox hb
      replace HO332 := Aside0.mk (Kd.R_below (rU HO332.out) hb)
      have BK333 := Aside0.mk hbox
      have GW333 := gS w hg (lV3 GE324 GE325 GE326)
      have GE333 := gS w hg (lV3 GE324 GE325 GE326)
      replace HB := bH (lV3 GE324 GE325 GE326) hb
      have NB324_333 := nL hg (bV BK324)
      have NB333_324 := nG hg (bV BK324)
      replace BK324 := bB (bV BK324) hb
      have NB325_333 := nL hg (bV BK325)
      have NB333_325 := nG hg (bV BK325)
      replace BK325 := bB (bV BK325) hb
      have NB326_333 := nL hg (bV BK326)
      have NB333_326 := nG hg (bV BK326)
      replace BK326 := bB (bV BK326) hb
      clear hb hbox hg
      refine hK.out _ _ ⟨cz BK325 0 _, cz BK325 1 _, cz BK325 2 _⟩ (fun hHeld => ?_)
      clear hK K
      refine norm_ (a' := ?_) ?_ ?_
      rotate_left
      ·show Act.put _ (some 8) _ = _
       simp only [Act.put, List.setIfInBounds_toArray, List.set_cons_zero, List.set_cons_succ, i64_w, i32_w]
       rfl
      exact norm_ (by simp only [putAll, Act.put, List.setIfInBounds_toArray, List.set_cons_zero, List.set_cons_succ]) (hCont (.slice Ao40 t330.length co40, gb333) _ ⟨hHeld, (rU HO332.out), (bV BK324), (bV BK325), (bV BK326), (bV BK333), GW333.out, GE333.out, NB324_333.out, NB333_324.out, NB325_333.out, NB333_325.out, NB326_333.out, NB333_326.out, (lV4 GE324 GE325 GE326 GE333)⟩)
     ·skip
      refine box_step ?hg (N := 8) ?hd (cs := #[.int .i64 0, .int .i64 0, .slice none 0 0]) (t := 35) ?hr ?_; (case hd => rfl); (case hg => rfl); (case hr => exact sE)
      intro gb333 hg w39 hbox hb
      have BK333 := Aside0.mk hbox
      have GW333 := gS w hg (lV3 GE324 GE325 GE326)
      have GE333 := gS w hg (lV3 GE324 GE325 GE326)
      replace HB := bH (lV3 GE324 GE325 GE326) hb
      have NB324_333 := nL hg (bV BK324)
      have NB333_324 := nG hg (bV BK324)
      replace BK324 := bB (bV BK324) hb
      have NB325_333 := nL hg (bV BK325)
      have NB333_325 := nG hg (bV BK325)
      replace BK325 := bB (bV BK325) hb
      have NB326_333 := nL hg (bV BK326)
      have NB333_326 := nG hg (bV BK326)
      replace BK326 := bB (bV BK326) hb
      clear hb hbox hg
      refine hK.out _ _ ⟨cz BK325 0 _, cz BK325 1 _, cz BK325 2 _⟩ (fun hHeld => ?_)
      clear hK K
      refine norm_ (a' := ?_) ?_ ?_
      rotate_left
      ·show Act.put _ (some 8) _ = _
       simp only [Act.put, List.setIfInBounds_toArray, List.set_cons_zero, List.set_cons_succ, i64_w, i32_w]
       rfl
      refine one_ (i := 6) (N := some 33) (bz 11 383) rfl rfl (one_of HT_.out (by kernel_rfl)) (by decide) (fun K hK => ?_)
      refine goes_ Try.func33 (by kernel_rfl) rfl #[.slice A1_2 l1_2.length c1_2] (by rfl) rfl rfl aE ?_
      with_reducible refine (impl_Spark_33.calls _ _ l1_2 t330 _ ?side1 ?side2 A37.out).mono ?_
      (case side1 => exact cU (Kd.C_below HR1_2.out HB.out))
      (case side2 => exact HC1_2.out)
      rintro e w40 ⟨v331, rfl, ho0, hb⟩
      refine ⟨_, rfl, ?_⟩
      have HO332 := Aside0.mk (Kd.R_lower ho0 (below_size (lV4 GE324 GE325 GE326 GE333)))
      replace BK324 := bB (bV BK324) hb
      replace BK325 := bB (bV BK325) hb
      replace BK326 := bB (bV BK326) hb
      replace BK333 := bB (bV BK333) hb
      replace HB := bH (lV4 GE324 GE325 GE326 GE333) hb
      (try clear hb)
      (try clear hb2)
      (try clear hk)
      (try clear hi)
      (try clear ho0)
      obtain ⟨Ao41, co41, eo41⟩ := Kd.R_slice HO332.out
      (first | subst eo41 | (injection eo41 with f1_ f2_ f3_; have f4_ := f1_.symm; have f5_ := f3_.symm; clear f1_ f2_ f3_; subst f4_; subst f5_))
      refine hK.out _ _ ⟨cz BK325 0 _, cz BK325 1 _, cz BK325 2 _⟩ (fun hHeld => ?_)
      clear hK K
      refine norm_ (a' := ?_) ?_ ?_
      rotate_left
      ·show Act.put _ (some 33) _ = _
       simp only [Act.put, List.setIfInBounds_toArray, List.set_cons_zero, List.set_cons_succ, i64_w, i32_w]
       rfl
      refine pureA 7 34 (bz 11 511) rfl rfl (any_of HT_.out (by kernel_rfl)) ?_
      exact norm_ (by simp only [putAll, Act.put, List.setIfInBounds_toArray, List.set_cons_zero, List.set_cons_succ]) (hCont (.slice Ao41 t330.length co41, gb333) _ ⟨hHeld, (rU HO332.out), (bV BK324), (bV BK325), (bV BK326), (bV BK333), GW333.out, GE333.out, NB324_333.out, NB333_324.out, NB325_333.out, NB333_325.out, NB326_333.out, NB333_326.out, (lV4 GE324 GE325 GE326 GE333)⟩)
    rintro ⟨v331, gb333⟩ w42 ⟨hS_, h0_, h1_, h2_, h3_, h4_, h5_, h6_, h7_, h8_, h9_, h10_, h11_, h12_, h13_⟩
    have HO332 : Aside0 (Kd.R k48 48 w42 w.heap.size (fun _ => True) v331 t330) := ⟨h0_⟩
    replace BK324 : Aside0 (w42.heap[gb324]? = some (.cells #[.int .i64 a0_0, .int .i64 a0_1, .int .i64 a0_2, .int .i64 a0_3, .int .i64 a0_4, .int .i64 a0_5, .int .i64 a0_6] 26 (0, 0))) := ⟨h1_⟩
    replace BK325 : Aside0 (w42.heap[gb325]? = some (.cells #[.int .i64 a1_0, .int .i64 a1_1, .slice A1_2 l1_2.length c1_2] 35 (0, 0))) := ⟨h2_⟩
    replace BK326 : Aside0 (w42.heap[gb326]? = some (.cells #[.int .i64 0, .int .i64 0, .slice none 0 0] 35 (0, 0))) := ⟨h3_⟩
    have BK333 : Aside0 (w42.heap[gb333]? = some (.cells #[.int .i64 0, .int .i64 0, .slice none 0 0] 35 (0, 0))) := ⟨h4_⟩
    have GW333 : Aside0 (w.heap.size ≤ gb333) := ⟨h5_⟩
    have GE333 : Aside0 (w.heap.size ≤ gb333) := ⟨h6_⟩
    have NB324_333 : Aside0 (gb324 ≠ gb333) := ⟨h7_⟩
    have NB333_324 : Aside0 (gb333 ≠ gb324) := ⟨h8_⟩
    have NB325_333 : Aside0 (gb325 ≠ gb333) := ⟨h9_⟩
    have NB333_325 : Aside0 (gb333 ≠ gb325) := ⟨h10_⟩
    have NB326_333 : Aside0 (gb326 ≠ gb333) := ⟨h11_⟩
    have NB333_326 : Aside0 (gb333 ≠ gb326) := ⟨h12_⟩
    replace HB : Aside0 (Below w.heap.size w w42) := ⟨h13_⟩
    clear h0_ h1_ h2_ h3_ h4_ h5_ h6_ h7_ h8_ h9_ h10_ h11_ h12_ h13_
    have hHeld : w42.cell? ⟨gb325, 0, none⟩ = some (.int .i64 a1_0) ∧ w42.cell? ⟨gb325, 1, none⟩ = some (.int .i64 a1_1) ∧ w42.cell? ⟨gb325, 2, none⟩ = some (.slice A1_2 l1_2.length c1_2) := hS_
    obtain ⟨Ao43, co43, eo43⟩ := Kd.R_slice HO332.out
    (first | subst eo43 | (injection eo43 with f1_ f2_ f3_; have f4_ := f1_.symm; have f5_ := f3_.symm; clear f1_ f2_ f3_; subst f4_; subst f5_))
    refine norm_ (a' := ?_) ?_ ?_
    rotate_left
    ·simp only [putAll, Act.put, List.setIfInBounds_toArray, List.set_cons_zero, List.set_cons_succ]
     rfl
    refine one_ (i := 9) (N := none) (bz 11 1023) rfl rfl (one_of HT_.out (by kernel_rfl)) (by decide) (fun K hK => ?_)
    have hs44 : w42.cell? ⟨gb333, 0, none⟩ = some (.int .i64 0) := (blk_cell BK333.out 0).trans rfl
    have hfs44 := blk_frozen BK333.out 0
    have hns44_0 := NB324_333.out
    have hns44_1 := NB325_333.out
    have hns44_2 := NB326_333.out
    have hms44_0 := NB333_324.out
    have hms44_1 := NB333_325.out
    have hms44_2 := NB333_326.out
    have hs45 : w42.cell? ⟨gb333, 1, none⟩ = some (.int .i64 0) := (blk_cell BK333.out 1).trans rfl
    have hfs45 := blk_frozen BK333.out 1
    have hns45_0 := NB324_333.out
    have hns45_1 := NB325_333.out
    have hns45_2 := NB326_333.out
    have hms45_0 := NB333_324.out
    have hms45_1 := NB333_325.out
    have hms45_2 := NB333_326.out
    have hs46 : w42.cell? ⟨gb333, 2, none⟩ = some (.slice none 0 0) := (blk_cell BK333.out 2).trans rfl
    have hfs46 := blk_frozen BK333.out 2
    have hns46_0 := NB324_333.out
    have hns46_1 := NB325_333.out
    have hns46_2 := NB326_333.out
    have hms46_0 := NB333_324.out
    have hms46_1 := NB333_325.out
    have hms46_2 := NB333_326.out
    refine skip_ (w1 := ?_) (by rfl) rfl ?_ ?_
    rotate_left
    ·go_simp
     rfl
    refine hK.out _ _ ⟨((cell_far (p := ⟨gb333, _, none⟩) NB325_333.out _).trans (((cell_far (p := ⟨gb333, _, none⟩) NB325_333.out _).trans (((cell_far (p := ⟨gb333, _, none⟩) NB325_333.out _).trans (hHeld.1)))))), ((cell_far (p := ⟨gb333, _, none⟩) NB325_333.out _).trans (((cell_far (p := ⟨gb333, _, none⟩) NB325_333.out _).trans (((cell_far (p := ⟨gb333, _, none⟩) NB325_333.out _).trans (hHeld.2.1)))))), ((cell_far (p := ⟨gb333, _, none⟩) NB325_333.out _).trans (((cell_far (p := ⟨gb333, _, none⟩) NB325_333.out _).trans (((cell_far (p := ⟨gb333, _, none⟩) NB325_333.out _).trans (hHeld.2.2))))))⟩ (fun hHeld => ?_)
    clear hK K
    refine pureA 10 9 (bz 11 2047) rfl rfl (any_of HT_.out (by kernel_rfl)) ?_
    refine done_ (done_of HT_.out (by kernel_rfl)) ?_
    try go_wp2
    go_loopg [36] kj3 (fun kq v36 w' => ∃ (x36_2 : Int) (x327000_2 : Int) (x327001_2 : Int) (x334000_2 : Int) (x334001_2 : Int) (x334002_2 : List (S48)) (u334002 : Value), v36 = .int .i64 x36_2 ∧ Aside0 (impl_RunCloud.l0 kq a2 x36_2 a0_0 a0_1 a0_2 a0_3 a0_4 a0_5 a0_6 x334000_2 x334001_2 x334002_2 = some (r1, r2, r3, r4)) ∧ Aside0 (kq ≤ kj3) ∧ Aside0 (Kd.R k48 48 w' w.heap.size (fun _ => True) u334002 x334002_2) ∧ Aside0 (w'.heap[gb324]? = some (.cells #[.int .i64 a0_0, .int .i64 a0_1, .int .i64 a0_2, .int .i64 a0_3, .int .i64 a0_4, .int .i64 a0_5, .int .i64 a0_6] 26 (0, 0))) ∧ Aside0 (w'.heap[gb325]? = some (.cells #[.int .i64 a1_0, .int .i64 a1_1, (.slice A1_2 l1_2.length c1_2)] 35 (0, 0))) ∧ Aside0 (w'.heap[gb326]? = some (.cells #[.int .i64 x327000_2, .int .i64 x327001_2, (.slice none 0 0)] 35 (0, 0))) ∧ Aside0 (w'.heap[gb333]? = some (.cells #[.int .i64 x334000_2, .int .i64 x334001_2, u334002] 35 (0, 0))) ∧ Aside0 (Below w.heap.size w w'))
    case atStart => exact ⟨(0), (0), (0), (a1_0), (a1_1), (t330), (.slice Ao43 t330.length co43), tE, H', ⟨Nat.le_refl _⟩, ⟨by (with_reducible repeat (first | apply Kd.R_alloc | apply Kd.R_drewN | apply Kd.R_drew)); exact Kd.R_mono (Kd.R_far (p := ⟨gb333, 2, none⟩) (Kd.R_far (p := ⟨gb333, 1, none⟩) (Kd.R_far (p := ⟨gb333, 0, none⟩) (Kd.R_types HO332.out BK333.out (by decide)) (fun _ hk => hk.2) (.int .i64 a1_0)) (fun _ hk => hk.2) (.int .i64 a1_1)) (fun _ hk => hk.2) (.slice Ao43 t330.length co43)) (fun _ hk => trivial)⟩, ⟨by refine bU ?_; refine blk_far ?_ NB324_333.out _; refine bU ?_; refine blk_far ?_ NB324_333.out _; refine bU ?_; refine blk_far ?_ NB324_333.out _; refine bU ?_; exact BK324.out⟩, ⟨by refine bU ?_; refine blk_far ?_ NB325_333.out _; refine bU ?_; refine blk_far ?_ NB325_333.out _; refine bU ?_; refine blk_far ?_ NB325_333.out _; refine bU ?_; exact BK325.out⟩, ⟨by refine bU ?_; refine blk_far ?_ NB326_333.out _; refine bU ?_; refine blk_far ?_ NB326_333.out _; refine bU ?_; refine blk_far ?_ NB326_333.out _; refine bU ?_; exact BK326.out⟩, ⟨by refine bU ?_; refine blk_put (cs := #[.int .i64 a1_0, .int .i64 a1_1, .slice none 0 0]) ?_ 2 _ rfl; refine bU ?_; refine blk_put (cs := #[.int .i64 a1_0, .int .i64 0, .slice none 0 0]) ?_ 1 _ rfl; refine bU ?_; refine blk_put (cs := #[.int .i64 0, .int .i64 0, .slice none 0 0]) ?_ 0 _ rfl; refine bU ?_; exact BK333.out⟩, ⟨by repeat (first | (with_reducible first | exact HB.out | apply below_alloc | apply pw_below_drewN | apply below_drew1 | refine below_set ?_ GE324.out | refine below_set ?_ GE325.out | refine below_set ?_ GE326.out | refine below_set ?_ GE333.out) | exact HB.out)⟩⟩
    case round =>
     clear H'
     try clear c1
     try clear q1
     try clear c2
     try clear p2
     try clear q2
     try clear c3
     try clear p6
     try clear c9
     try clear c11
     try clear c13
     try clear c14
     try clear c17
     try clear c21
     try clear c22
     try clear c25
     try clear c28
     try clear c29
     try clear c30
     try clear c32
     try clear c33
     try clear c34
     try clear hcz15_0
     try clear hcz15_1
     try clear hcz15_2
     try clear hcz15_3
     try clear hcz15_4
     try clear hcz15_5
     try clear hcz15_6
     try clear hcz18_0
     try clear hcz18_1
     try clear hcz18_2
     try clear hcz20_0
     try clear hcz20_1
     try clear hcz20_2
     try clear hcz23_0
     try clear hcz23_1
     try clear hcz23_2
     try clear hcz23_3
     try clear hcz23_4
     try clear hcz23_5
     try clear hcz23_6
     try clear hcz26_0
     try clear hcz26_1
     try clear hcz26_2
     try clear hcz30_0
     try clear hcz30_1
     try clear hcz30_2
     try clear hcz30_3
     try clear hcz30_4
     try clear hcz30_5
     try clear hcz30_6
     try clear hcz35_0
     try clear hcz35_1
     try clear hcz35_2
     try clear hfz15_0
     try clear hfz15_1
     try clear hfz15_2
     try clear hfz15_3
     try clear hfz15_4
     try clear hfz15_5
     try clear hfz15_6
     try clear hfz18_0
     try clear hfz18_1
     try clear hfz18_2
     try clear hfz20_0
     try clear hfz20_1
     try clear hfz20_2
     try clear hfz23_0
     try clear hfz23_1
     try clear hfz23_2
     try clear hfz23_3
     try clear hfz23_4
     try clear hfz23_5
     try clear hfz23_6
     try clear hfz26_0
     try clear hfz26_1
     try clear hfz26_2
     try clear hfz30_0
     try clear hfz30_1
     try clear hfz30_2
     try clear hfz30_3
     try clear hfz30_4
     try clear hfz30_5
     try clear hfz30_6
     try clear hfz35_0
     try clear hfz35_1
     try clear hfz35_2
     try clear p2
     try clear p6
     obtain ⟨x36_2, x327000_2, x327001_2, x334000_2, x334001_2, x334002_2, u334002, rfl, HA, HK2, HO_334002, BK324, BK325, BK326, BK333, HB⟩ := hrel
     cases gk with
     | zero => exact absurd HA.out (by simp [impl_RunCloud.l0])
     | succ k2 =>
      have H := HA.out
      clear HA
      simp only [impl_RunCloud.l0] at H
      by_cases c47 : x36_2 < a2
      ·rw [if_pos c47] at H
       have c47b0 : decide (x36_2 < a2) = true := decide_eq_true c47
       clear c47
       replace H := Option.bind_eq_some_iff.mp H
       obtain ⟨⟨t334, t335, t336, t339⟩, A480, H⟩ := H
       replace H : (if t339 = true then (impl_RunCloud.l0 k2 a2 (wrap64 (x36_2 + 1)) a0_0 a0_1 a0_2 a0_3 a0_4 a0_5 a0_6 t334 t335 t336) else (some (0, 0, ([] : List (S48)), false))) = some (r1, r2, r3, r4) := H
       have A48 := Aside0.mk A480
       clear A480
       by_cases c49 : t339 = true
       ·subst c49
        have H1 : (impl_RunCloud.l0 k2 a2 (wrap64 (x36_2 + 1)) a0_0 a0_1 a0_2 a0_3 a0_4 a0_5 a0_6 t334 t335 t336) = some (r1, r2, r3, r4) := by rw [if_pos rfl] at H; exact H
        clear H
        have H := H1
        clear H1
        have H' := Aside0.mk H
        clear H
        have hnb50 := NB324_325.out
        have hnc50 := NB325_324.out
        have hnb51 := NB324_326.out
        have hnc51 := NB326_324.out
        have hnb52 := NB324_333.out
        have hnc52 := NB333_324.out
        have hcz53_0 := cz BK324 0 (.int .i64 a0_0)
        have hcz53_1 := cz BK324 1 (.int .i64 a0_1)
        have hcz53_2 := cz BK324 2 (.int .i64 a0_2)
        have hcz53_3 := cz BK324 3 (.int .i64 a0_3)
        have hcz53_4 := cz BK324 4 (.int .i64 a0_4)
        have hcz53_5 := cz BK324 5 (.int .i64 a0_5)
        have hcz53_6 := cz BK324 6 (.int .i64 a0_6)
        have hfz53_0 := fz BK324 0
        have hfz53_1 := fz BK324 1
        have hfz53_2 := fz BK324 2
        have hfz53_3 := fz BK324 3
        have hfz53_4 := fz BK324 4
        have hfz53_5 := fz BK324 5
        have hfz53_6 := fz BK324 6
        have hnb54 := NB333_325.out
        have hnc54 := NB325_333.out
        have hnb55 := NB333_326.out
        have hnc55 := NB326_333.out
        have hcz56_0 := cz BK333 0 (.int .i64 x334000_2)
        have hcz56_1 := cz BK333 1 (.int .i64 x334001_2)
        have hcz56_2 := cz BK333 2 (u334002)
        have hfz56_0 := fz BK333 0
        have hfz56_1 := fz BK333 1
        have hfz56_2 := fz BK333 2
        obtain ⟨Ao57, co57, eo57⟩ := Kd.R_slice HO_334002.out
        subst eo57
        go_wp2_with (first | ((with_reducible refine gate_callee (f := 34) rfl ?_); refine goesL_ (some 41) rfl rfl Try.func34 (by kernel_rfl) rfl #[.agg #[.int .i64 a0_0, .int .i64 a0_1, .int .i64 a0_2, .int .i64 a0_3, .int .i64 a0_4, .int .i64 a0_5, .int .i64 a0_6], .agg #[.int .i64 x334000_2, .int .i64 x334001_2, .slice Ao57 x334002_2.length co57]] rfl aE ?_; (with_reducible refine (impl_Emitter_step.calls k2 a0_0 a0_1 a0_2 a0_3 a0_4 a0_5 a0_6 x334000_2 x334001_2 _ _ x334002_2 t334 t335 t336 true _ ?side1 ?side2 A48.out).mono ?_); (case side1 => exact cU (Kd.R_reads' HO_334002.out).2.2); (case side2 => exact (Kd.R_reads' HO_334002.out).2.1); rintro e w58 ⟨v337, rfl, ho0, hb⟩; refine ⟨_, rfl, ?_⟩; have HO338 := Aside0.mk (Kd.R_lower (Kd.R_new' ho0 (Kd.R_lt (rU HO_334002.out))) (below_size (lV4 GE324 GE325 GE326 GE333))); replace HO_334002 := Aside0.mk (Kd.R_elder' (rU HO_334002.out) (Kd.R_base ho0) hb); replace BK324 := bB (bV BK324) hb; replace BK325 := bB (bV BK325) hb; replace BK326 := bB (bV BK326) hb; replace BK333 := bB (bV BK333) hb; replace HB := bH (lV4 GE324 GE325 GE326 GE333) hb; (try clear hb); (try clear ho0); have hcz59_0 := cz BK333 0 (.int .i64 x334000_2); have hcz59_1 := cz BK333 1 (.int .i64 x334001_2); have hcz59_2 := cz BK333 2 (.slice Ao57 x334002_2.length co57); have hfz59_0 := fz BK333 0; have hfz59_1 := fz BK333 1; have hfz59_2 := fz BK333 2; obtain ⟨Ao60, co60, eo60⟩ := Kd.R_slice HO338.out; subst eo60) | ((with_reducible refine gate_store (t := 35) (p := 8) rfl ?_); refine store_event (t := 35) (p := 8) (v := ?vo_w61) (w1 := (((w58.setCell ⟨gb333, 0, none⟩ (.int .i64 t334)).setCell ⟨gb333, 1, none⟩ (.int .i64 t335)).setCell ⟨gb333, 2, none⟩ (.slice Ao60 t336.length co60))) ?hg ?ho ?hn ?hr ?_; (case ho => rfl); (case hg => rfl); (case hn => rfl); (case hr => first | (go_simp; done) | (go_simp; rfl) | (have hq0_ := (blk_cell BK333.out 0).trans (show _ = some _ from rfl); have hf0_ := blk_frozen BK333.out 0; have hq1_ := (blk_cell BK333.out 1).trans (show _ = some _ from rfl); have hf1_ := blk_frozen BK333.out 1; have hq2_ := (blk_cell BK333.out 2).trans (show _ = some _ from rfl); have hf2_ := blk_frozen BK333.out 2; first | (go_simp; done) | (go_simp; rfl))); intro w61 hw; replace HO_334002 : Aside0 (Kd.R k48 48 w61 w.heap.size (fun k_ => some k_ ≠ (.slice Ao60 t336.length co60 : Value).ownBlock) (.slice Ao57 x334002_2.length co57) x334002_2) := ⟨(by rw [hw]; exact (by (with_reducible repeat (first | apply Kd.R_alloc | apply Kd.R_drewN | apply Kd.R_drew)); exact Kd.R_mono (Kd.R_far (p := ⟨gb333, 2, none⟩) (Kd.R_far (p := ⟨gb333, 1, none⟩) (Kd.R_far (p := ⟨gb333, 0, none⟩) (Kd.R_types HO_334002.out BK333.out (by decide)) (fun _ hk => hk.2) (.int .i64 t334)) (fun _ hk => hk.2) (.int .i64 t335)) (fun _ hk => hk.2) (.slice Ao60 t336.length co60)) (fun _ hk => hk.1.2)))⟩; replace HO338 : Aside0 (Kd.R k48 48 w61 w.heap.size (fun k_ => some k_ ≠ (.slice Ao57 x334002_2.length co57 : Value).ownBlock) (.slice Ao60 t336.length co60) t336) := ⟨(by rw [hw]; exact (by (with_reducible repeat (first | apply Kd.R_alloc | apply Kd.R_drewN | apply Kd.R_drew)); exact Kd.R_mono (Kd.R_far (p := ⟨gb333, 2, none⟩) (Kd.R_far (p := ⟨gb333, 1, none⟩) (Kd.R_far (p := ⟨gb333, 0, none⟩) (Kd.R_types HO338.out BK333.out (by decide)) (fun _ hk => hk.2) (.int .i64 t334)) (fun _ hk => hk.2) (.int .i64 t335)) (fun _ hk => hk.2) (.slice Ao60 t336.length co60)) (fun _ hk => hk.1.2)))⟩; replace BK324 : Aside0 (w61.heap[gb324]? = some (.cells #[.int .i64 a0_0, .int .i64 a0_1, .int .i64 a0_2, .int .i64 a0_3, .int .i64 a0_4, .int .i64 a0_5, .int .i64 a0_6] 26 (0, 0))) := ⟨(by rw [hw]; exact (bG NB324_333 BK324))⟩; replace BK325 : Aside0 (w61.heap[gb325]? = some (.cells #[.int .i64 a1_0, .int .i64 a1_1, .slice A1_2 l1_2.length c1_2] 35 (0, 0))) := ⟨(by rw [hw]; exact (bG NB325_333 BK325))⟩; replace BK326 : Aside0 (w61.heap[gb326]? = some (.cells #[.int .i64 x327000_2, .int .i64 x327001_2, .slice none 0 0] 35 (0, 0))) := ⟨(by rw [hw]; exact (bG NB326_333 BK326))⟩; replace BK333 : Aside0 (w61.heap[gb333]? = some (.cells #[.int .i64 t334, .int .i64 t335, .slice Ao60 t336.length co60] 35 (0, 0))) := ⟨(by rw [hw]; exact (by refine bU ?_; refine blk_put (cs := #[.int .i64 t334, .int .i64 t335, .slice Ao57 x334002_2.length co57]) ?_ 2 _ rfl; refine bU ?_; refine blk_put (cs := #[.int .i64 t334, .int .i64 x334001_2, .slice Ao57 x334002_2.length co57]) ?_ 1 _ rfl; refine bU ?_; refine blk_put (cs := #[.int .i64 x334000_2, .int .i64 x334001_2, .slice Ao57 x334002_2.length co57]) ?_ 0 _ rfl; refine bU ?_; exact BK333.out))⟩; replace HB : Aside0 (Below w.heap.size w w61) := ⟨(by rw [hw]; exact (lV4 GE324 GE325 GE326 GE333))⟩; clear hw))
        go_roundg k2
        case measure => have := HJ3.out; have := HK2.out; omega
        case rel => exact ⟨(wrap64 (x36_2 + 1)), (x327000_2), (x327001_2), (t334), (t335), (t336), (.slice Ao60 t336.length co60), tE, H', ⟨by have := HJ3.out; have := HK2.out; omega⟩, ⟨by (with_reducible repeat (first | apply Kd.R_alloc | apply Kd.R_drewN | apply Kd.R_drew)); exact Kd.R_mono HO338.out (fun _ hk => trivial)⟩, ⟨by refine bU ?_; exact BK324.out⟩, ⟨by refine bU ?_; exact BK325.out⟩, ⟨by refine bU ?_; exact BK326.out⟩, ⟨by refine bU ?_; exact BK333.out⟩, ⟨by repeat (first | (with_reducible first | exact HB.out | apply below_alloc | apply pw_below_drewN | apply below_drew1 | refine below_set ?_ GE324.out | refine below_set ?_ GE325.out | refine below_set ?_ GE326.out | refine below_set ?_ GE333.out) | exact HB.out)⟩⟩
       ·replace c49 := Bool.eq_false_iff.mpr c49
        subst c49
        have H1 : (some (0, 0, ([] : List (S48)), false)) = some (r1, r2, r3, r4) := by rw [if_neg (show ¬ (false = true) by decide)] at H; exact H
        clear H
        have H := H1
        clear H1
        simp only [Option.some.injEq, Prod.mk.injEq] at H
        obtain ⟨rfl, rfl, rfl, rfl⟩ := H
        have hnb62 := NB324_325.out
        have hnc62 := NB325_324.out
        have hnb63 := NB324_326.out
        have hnc63 := NB326_324.out
        have hnb64 := NB324_333.out
        have hnc64 := NB333_324.out
        have hcz65_0 := cz BK324 0 (.int .i64 a0_0)
        have hcz65_1 := cz BK324 1 (.int .i64 a0_1)
        have hcz65_2 := cz BK324 2 (.int .i64 a0_2)
        have hcz65_3 := cz BK324 3 (.int .i64 a0_3)
        have hcz65_4 := cz BK324 4 (.int .i64 a0_4)
        have hcz65_5 := cz BK324 5 (.int .i64 a0_5)
        have hcz65_6 := cz BK324 6 (.int .i64 a0_6)
        have hfz65_0 := fz BK324 0
        have hfz65_1 := fz BK324 1
        have hfz65_2 := fz BK324 2
        have hfz65_3 := fz BK324 3
        have hfz65_4 := fz BK324 4
        have hfz65_5 := fz BK324 5
        have hfz65_6 := fz BK324 6
        have hnb66 := NB333_325.out
        have hnc66 := NB325_333.out
        have hnb67 := NB333_326.out
        have hnc67 := NB326_333.out
        have hcz68_0 := cz BK333 0 (.int .i64 x334000_2)
        have hcz68_1 := cz BK333 1 (.int .i64 x334001_2)
        have hcz68_2 := cz BK333 2 (u334002)
        have hfz68_0 := fz BK333 0
        have hfz68_1 := fz BK333 1
        have hfz68_2 := fz BK333 2
        obtain ⟨Ao69, co69, eo69⟩ := Kd.R_slice HO_334002.out
        subst eo69
        go_wp2_with (first | ((with_reducible refine gate_callee (f := 34) rfl ?_); refine goesL_ (some 41) rfl rfl Try.func34 (by kernel_rfl) rfl #[.agg #[.int .i64 a0_0, .int .i64 a0_1, .int .i64 a0_2, .int .i64 a0_3, .int .i64 a0_4, .int .i64 a0_5, .int .i64 a0_6], .agg #[.int .i64 x334000_2, .int .i64 x334001_2, .slice Ao69 x334002_2.length co69]] rfl aE ?_; (with_reducible refine (impl_Emitter_step.calls k2 a0_0 a0_1 a0_2 a0_3 a0_4 a0_5 a0_6 x334000_2 x334001_2 _ _ x334002_2 t334 t335 t336 false _ ?side1 ?side2 A48.out).mono ?_); (case side1 => exact cU (Kd.R_reads' HO_334002.out).2.2); (case side2 => exact (Kd.R_reads' HO_334002.out).2.1); rintro e w70 ⟨v337, rfl, ho0, hb⟩; refine ⟨_, rfl, ?_⟩; have HO338 := Aside0.mk (Kd.R_lower (Kd.R_new' ho0 (Kd.R_lt (rU HO_334002.out))) (below_size (lV4 GE324 GE325 GE326 GE333))); replace HO_334002 := Aside0.mk (Kd.R_elder' (rU HO_334002.out) (Kd.R_base ho0) hb); replace BK324 := bB (bV BK324) hb; replace BK325 := bB (bV BK325) hb; replace BK326 := bB (bV BK326) hb; replace BK333 := bB (bV BK333) hb; replace HB := bH (lV4 GE324 GE325 GE326 GE333) hb; (try clear hb); (try clear ho0); have hcz71_0 := cz BK333 0 (.int .i64 x334000_2); have hcz71_1 := cz BK333 1 (.int .i64 x334001_2); have hcz71_2 := cz BK333 2 (.slice Ao69 x334002_2.length co69); have hfz71_0 := fz BK333 0; have hfz71_1 := fz BK333 1; have hfz71_2 := fz BK333 2; obtain ⟨Ao72, co72, eo72⟩ := Kd.R_slice HO338.out; subst eo72) | ((with_reducible refine gate_store (t := 35) (p := 8) rfl ?_); refine store_event (t := 35) (p := 8) (v := ?vo_w73) (w1 := (((w70.setCell ⟨gb333, 0, none⟩ (.int .i64 t334)).setCell ⟨gb333, 1, none⟩ (.int .i64 t335)).setCell ⟨gb333, 2, none⟩ (.slice Ao72 t336.length co72))) ?hg ?ho ?hn ?hr ?_; (case ho => rfl); (case hg => rfl); (case hn => rfl); (case hr => first | (go_simp; done) | (go_simp; rfl) | (have hq0_ := (blk_cell BK333.out 0).trans (show _ = some _ from rfl); have hf0_ := blk_frozen BK333.out 0; have hq1_ := (blk_cell BK333.out 1).trans (show _ = some _ from rfl); have hf1_ := blk_frozen BK333.out 1; have hq2_ := (blk_cell BK333.out 2).trans (show _ = some _ from rfl); have hf2_ := blk_frozen BK333.out 2; first | (go_simp; done) | (go_simp; rfl))); intro w73 hw; replace HO_334002 : Aside0 (Kd.R k48 48 w73 w.heap.size (fun k_ => some k_ ≠ (.slice Ao72 t336.length co72 : Value).ownBlock) (.slice Ao69 x334002_2.length co69) x334002_2) := ⟨(by rw [hw]; exact (by (with_reducible repeat (first | apply Kd.R_alloc | apply Kd.R_drewN | apply Kd.R_drew)); exact Kd.R_mono (Kd.R_far (p := ⟨gb333, 2, none⟩) (Kd.R_far (p := ⟨gb333, 1, none⟩) (Kd.R_far (p := ⟨gb333, 0, none⟩) (Kd.R_types HO_334002.out BK333.out (by decide)) (fun _ hk => hk.2) (.int .i64 t334)) (fun _ hk => hk.2) (.int .i64 t335)) (fun _ hk => hk.2) (.slice Ao72 t336.length co72)) (fun _ hk => hk.1.2)))⟩; replace HO338 : Aside0 (Kd.R k48 48 w73 w.heap.size (fun k_ => some k_ ≠ (.slice Ao69 x334002_2.length co69 : Value).ownBlock) (.slice Ao72 t336.length co72) t336) := ⟨(by rw [hw]; exact (by (with_reducible repeat (first | apply Kd.R_alloc | apply Kd.R_drewN | apply Kd.R_drew)); exact Kd.R_mono (Kd.R_far (p := ⟨gb333, 2, none⟩) (Kd.R_far (p := ⟨gb333, 1, none⟩) (Kd.R_far (p := ⟨gb333, 0, none⟩) (Kd.R_types HO338.out BK333.out (by decide)) (fun _ hk => hk.2) (.int .i64 t334)) (fun _ hk => hk.2) (.int .i64 t335)) (fun _ hk => hk.2) (.slice Ao72 t336.length co72)) (fun _ hk => hk.1.2)))⟩; replace BK324 : Aside0 (w73.heap[gb324]? = some (.cells #[.int .i64 a0_0, .int .i64 a0_1, .int .i64 a0_2, .int .i64 a0_3, .int .i64 a0_4, .int .i64 a0_5, .int .i64 a0_6] 26 (0, 0))) := ⟨(by rw [hw]; exact (bG NB324_333 BK324))⟩; replace BK325 : Aside0 (w73.heap[gb325]? = some (.cells #[.int .i64 a1_0, .int .i64 a1_1, .slice A1_2 l1_2.length c1_2] 35 (0, 0))) := ⟨(by rw [hw]; exact (bG NB325_333 BK325))⟩; replace BK326 : Aside0 (w73.heap[gb326]? = some (.cells #[.int .i64 x327000_2, .int .i64 x327001_2, .slice none 0 0] 35 (0, 0))) := ⟨(by rw [hw]; exact (bG NB326_333 BK326))⟩; replace BK333 : Aside0 (w73.heap[gb333]? = some (.cells #[.int .i64 t334, .int .i64 t335, .slice Ao72 t336.length co72] 35 (0, 0))) := ⟨(by rw [hw]; exact (by refine bU ?_; refine blk_put (cs := #[.int .i64 t334, .int .i64 t335, .slice Ao69 x334002_2.length co69]) ?_ 2 _ rfl; refine bU ?_; refine blk_put (cs := #[.int .i64 t334, .int .i64 x334001_2, .slice Ao69 x334002_2.length co69]) ?_ 1 _ rfl; refine bU ?_; refine blk_put (cs := #[.int .i64 x334000_2, .int .i64 x334001_2, .slice Ao69 x334002_2.length co69]) ?_ 0 _ rfl; refine bU ?_; exact BK333.out))⟩; replace HB : Aside0 (Below w.heap.size w w73) := ⟨(by rw [hw]; exact (lV4 GE324 GE325 GE326 GE333))⟩; clear hw; have hnb74 := NB326_325.out; have hnc74 := NB325_326.out; have hcz75_0 := cz BK326 0 (.int .i64 x327000_2); have hcz75_1 := cz BK326 1 (.int .i64 x327001_2); have hcz75_2 := cz BK326 2 (.slice none 0 0); have hfz75_0 := fz BK326 0; have hfz75_1 := fz BK326 1; have hfz75_2 := fz BK326 2) | ((with_reducible refine gate_store (t := 35) (p := 6) rfl ?_); refine store_event (t := 35) (p := 6) (v := ?vo_w76) (w1 := (((w73.setCell ⟨gb326, 0, none⟩ (.int .i64 0)).setCell ⟨gb326, 1, none⟩ (.int .i64 0)).setCell ⟨gb326, 2, none⟩ (.slice none 0 0))) ?hg ?ho ?hn ?hr ?_; (case ho => rfl); (case hg => rfl); (case hn => rfl); (case hr => first | (go_simp; done) | (go_simp; rfl) | (have hq0_ := (blk_cell BK326.out 0).trans (show _ = some _ from rfl); have hf0_ := blk_frozen BK326.out 0; have hq1_ := (blk_cell BK326.out 1).trans (show _ = some _ from rfl); have hf1_ := blk_frozen BK326.out 1; have hq2_ := (blk_cell BK326.out 2).trans (show _ = some _ from rfl); have hf2_ := blk_frozen BK326.out 2; first | (go_simp; done) | (go_simp; rfl))); intro w76 hw; replace HO_334002 : Aside0 (Kd.R k48 48 w76 w.heap.size (fun k_ => some k_ ≠ (.slice Ao72 t336.length co72 : Value).ownBlock) (.slice Ao69 x334002_2.length co69) x334002_2) := ⟨(by rw [hw]; exact (by (with_reducible repeat (first | apply Kd.R_alloc | apply Kd.R_drewN | apply Kd.R_drew)); exact Kd.R_mono (Kd.R_far (p := ⟨gb326, 2, none⟩) (Kd.R_far (p := ⟨gb326, 1, none⟩) (Kd.R_far (p := ⟨gb326, 0, none⟩) (Kd.R_types HO_334002.out BK326.out (by decide)) (fun _ hk => hk.2) (.int .i64 0)) (fun _ hk => hk.2) (.int .i64 0)) (fun _ hk => hk.2) (.slice none 0 0)) (fun _ hk => hk.1)))⟩; replace HO338 : Aside0 (Kd.R k48 48 w76 w.heap.size (fun k_ => some k_ ≠ (.slice Ao69 x334002_2.length co69 : Value).ownBlock) (.slice Ao72 t336.length co72) t336) := ⟨(by rw [hw]; exact (by (with_reducible repeat (first | apply Kd.R_alloc | apply Kd.R_drewN | apply Kd.R_drew)); exact Kd.R_mono (Kd.R_far (p := ⟨gb326, 2, none⟩) (Kd.R_far (p := ⟨gb326, 1, none⟩) (Kd.R_far (p := ⟨gb326, 0, none⟩) (Kd.R_types HO338.out BK326.out (by decide)) (fun _ hk => hk.2) (.int .i64 0)) (fun _ hk => hk.2) (.int .i64 0)) (fun _ hk => hk.2) (.slice none 0 0)) (fun _ hk => hk.1)))⟩; replace BK324 : Aside0 (w76.heap[gb324]? = some (.cells #[.int .i64 a0_0, .int .i64 a0_1, .int .i64 a0_2, .int .i64 a0_3, .int .i64 a0_4, .int .i64 a0_5, .int .i64 a0_6] 26 (0, 0))) := ⟨(by rw [hw]; exact (bG NB324_326 BK324))⟩; replace BK325 : Aside0 (w76.heap[gb325]? = some (.cells #[.int .i64 a1_0, .int .i64 a1_1, .slice A1_2 l1_2.length c1_2] 35 (0, 0))) := ⟨(by rw [hw]; exact (bG NB325_326 BK325))⟩; replace BK326 : Aside0 (w76.heap[gb326]? = some (.cells #[.int .i64 0, .int .i64 0, .slice none 0 0] 35 (0, 0))) := ⟨(by rw [hw]; exact (by refine bU ?_; refine blk_put (cs := #[.int .i64 0, .int .i64 0, .slice none 0 0]) ?_ 2 _ rfl; refine bU ?_; refine blk_put (cs := #[.int .i64 0, .int .i64 x327001_2, .slice none 0 0]) ?_ 1 _ rfl; refine bU ?_; refine blk_put (cs := #[.int .i64 x327000_2, .int .i64 x327001_2, .slice none 0 0]) ?_ 0 _ rfl; refine bU ?_; exact BK326.out))⟩; replace BK333 : Aside0 (w76.heap[gb333]? = some (.cells #[.int .i64 t334, .int .i64 t335, .slice Ao72 t336.length co72] 35 (0, 0))) := ⟨(by rw [hw]; exact (bG NB333_326 BK333))⟩; replace HB : Aside0 (Below w.heap.size w w76) := ⟨(by rw [hw]; exact (lV4 GE324 GE325 GE326 GE333))⟩; clear hw))
        refine bodyPost_ret (results_ct rfl _ _ gb326 35 #[.int .i64 0, .int .i64 0, .slice none 0 0] (0, 0) _ rfl (bV BK326) Try.underlying35 rfl (by kernel_rfl)) rfl ?_
        exact ⟨_, eE, by first | exact Kd.R_nil _ _ _ _ _ | exact Kd.N_nil _ _ _ _ _ | exact Kd.V_nil _ _ _ _ _ | exact Kd.Q_nil _ _ _ _ _ | exact Kd.S_nil _ _ _ _ _, lV4 GE324 GE325 GE326 GE333⟩
      ·rw [if_neg c47] at H
       have c47b0 : decide (x36_2 < a2) = false := decide_eq_false c47
       clear c47
       simp only [Option.some.injEq, Prod.mk.injEq] at H
       obtain ⟨rfl, rfl, rfl, rfl⟩ := H
       have hnb77 := NB333_324.out
       have hnc77 := NB324_333.out
       have hnb78 := NB333_325.out
       have hnc78 := NB325_333.out
       have hnb79 := NB333_326.out
       have hnc79 := NB326_333.out
       have hcz80_0 := cz BK333 0 (.int .i64 x334000_2)
       have hcz80_1 := cz BK333 1 (.int .i64 x334001_2)
       have hcz80_2 := cz BK333 2 (u334002)
       have hfz80_0 := fz BK333 0
       have hfz80_1 := fz BK333 1
       have hfz80_2 := fz BK333 2
       have hnb81 := NB326_324.out
       have hnc81 := NB324_326.out
       have hnb82 := NB326_325.out
       have hnc82 := NB325_326.out
       have hcz83_0 := cz BK326 0 (.int .i64 x327000_2)
       have hcz83_1 := cz BK326 1 (.int .i64 x327001_2)
       have hcz83_2 := cz BK326 2 (.slice none 0 0)
       have hfz83_0 := fz BK326 0
       have hfz83_1 := fz BK326 1
       have hfz83_2 := fz BK326 2
       obtain ⟨Ao84, co84, eo84⟩ := Kd.R_slice HO_334002.out
       subst eo84
       go_wp2_with (first | ((with_reducible refine gate_store (t := 35) (p := 6) rfl ?_); refine store_event (t := 35) (p := 6) (v := ?vo_w85) (w1 := (((wr.setCell ⟨gb326, 0, none⟩ (.int .i64 x334000_2)).setCell ⟨gb326, 1, none⟩ (.int .i64 x334001_2)).setCell ⟨gb326, 2, none⟩ (.slice Ao84 x334002_2.length co84))) ?hg ?ho ?hn ?hr ?_; (case ho => rfl); (case hg => rfl); (case hn => rfl); (case hr => first | (go_simp; done) | (go_simp; rfl) | (have hq0_ := (blk_cell BK326.out 0).trans (show _ = some _ from rfl); have hf0_ := blk_frozen BK326.out 0; have hq1_ := (blk_cell BK326.out 1).trans (show _ = some _ from rfl); have hf1_ := blk_frozen BK326.out 1; have hq2_ := (blk_cell BK326.out 2).trans (show _ = some _ from rfl); have hf2_ := blk_frozen BK326.out 2; first | (go_simp; done) | (go_simp; rfl))); intro w85 hw; replace HO_334002 : Aside0 (Kd.R k48 48 w85 w.heap.size (fun _ => True) (.slice Ao84 x334002_2.length co84) x334002_2) := ⟨(by rw [hw]; exact (by (with_reducible repeat (first | apply Kd.R_alloc | apply Kd.R_drewN | apply Kd.R_drew)); exact Kd.R_mono (Kd.R_far (p := ⟨gb326, 2, none⟩) (Kd.R_far (p := ⟨gb326, 1, none⟩) (Kd.R_far (p := ⟨gb326, 0, none⟩) (Kd.R_types HO_334002.out BK326.out (by decide)) (fun _ hk => hk.2) (.int .i64 x334000_2)) (fun _ hk => hk.2) (.int .i64 x334001_2)) (fun _ hk => hk.2) (.slice Ao84 x334002_2.length co84)) (fun _ hk => trivial)))⟩; replace BK324 : Aside0 (w85.heap[gb324]? = some (.cells #[.int .i64 a0_0, .int .i64 a0_1, .int .i64 a0_2, .int .i64 a0_3, .int .i64 a0_4, .int .i64 a0_5, .int .i64 a0_6] 26 (0, 0))) := ⟨(by rw [hw]; exact (bG NB324_326 BK324))⟩; replace BK325 : Aside0 (w85.heap[gb325]? = some (.cells #[.int .i64 a1_0, .int .i64 a1_1, .slice A1_2 l1_2.length c1_2] 35 (0, 0))) := ⟨(by rw [hw]; exact (bG NB325_326 BK325))⟩; replace BK326 : Aside0 (w85.heap[gb326]? = some (.cells #[.int .i64 x334000_2, .int .i64 x334001_2, .slice Ao84 x334002_2.length co84] 35 (0, 0))) := ⟨(by rw [hw]; exact (by refine bU ?_; refine blk_put (cs := #[.int .i64 x334000_2, .int .i64 x334001_2, .slice none 0 0]) ?_ 2 _ rfl; refine bU ?_; refine blk_put (cs := #[.int .i64 x334000_2, .int .i64 x327001_2, .slice none 0 0]) ?_ 1 _ rfl; refine bU ?_; refine blk_put (cs := #[.int .i64 x327000_2, .int .i64 x327001_2, .slice none 0 0]) ?_ 0 _ rfl; refine bU ?_; exact BK326.out))⟩; replace BK333 : Aside0 (w85.heap[gb333]? = some (.cells #[.int .i64 x334000_2, .int .i64 x334001_2, .slice Ao84 x334002_2.length co84] 35 (0, 0))) := ⟨(by rw [hw]; exact (bG NB333_326 BK333))⟩; replace HB : Aside0 (Below w.heap.size w w85) := ⟨(by rw [hw]; exact (lV4 GE324 GE325 GE326 GE333))⟩; clear hw))
       refine bodyPost_ret (results_ct rfl _ _ gb326 35 #[.int .i64 x334000_2, .int .i64 x334001_2, .slice Ao84 x334002_2.length co84] (0, 0) _ rfl (bV BK326) Try.underlying35 rfl (by kernel_rfl)) rfl ?_
       exact ⟨_, eE, by (with_reducible repeat (first | apply Kd.R_alloc | apply Kd.R_drewN | apply Kd.R_drew)); exact HO_334002.out, lV4 GE324 GE325 GE326 GE333⟩
end Go.Proofs.Ythgfobcckoedaaa.PFnExactRunCloud
