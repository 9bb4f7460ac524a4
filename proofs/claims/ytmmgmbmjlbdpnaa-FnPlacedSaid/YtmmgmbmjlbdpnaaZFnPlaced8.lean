/- Texts of a row. -/
import Derived.Test.YtmmgmbmjlbdpnaaZFnPlaced3
import Derived.Test.YtmmgmbmjlbdpnaaZFnPlaced4
import Derived.Test.YtmmgmbmjlbdpnaaZFnPlaced5
import Derived.Test.YtmmgmbmjlbdpnaaZFnPlaced6
import Derived.Test.YtmmgmbmjlbdpnaaZFnPlaced7
import Derived.Test.YtmmgmbmjlbdpnaaZFnPlaced0
import Derived.SizedLaws
import Derived.ChangeArms
import Derived.OpenShut
import Derived.WideShapes
import Derived.WalkKit
import Derived.KernelRfl
import Derived.Laws.BitsLemmas
namespace Go.Proofs.Ytmmgmbmjlbdpnaa.PFnPlaced
open Go.RowKit Go.Proofs.YtmmgmbmjlbdpnaaW.PrintWords Go.Proofs.YtmmgmbmjlbdpnaaW.PrintLast Go.Proofs.YtmmgmbmjlbdpnaaW.PrintMore
attribute [local go_sem] max2_int min2_int max_two min_two max_three min_three max_four min_four   -- for this text's walks alone
set_option linter.unusedVariables false
set_option linter.unusedSimpArgs false
attribute [local go_sem high] eqA24
def laws_FnPlaced.j0 : Nat → List Int → Option (Bool)
 | 0, _ => none
 | k + 1, x1 => (spec_DrawHang.f k x1).bind fun bt480 => ((impl_Hang.f k bt480.1 bt480.2.1 bt480.2.2).bind fun bt485 => ((spec_Hang.f k bt480.1 bt480.2.1 bt480.2.2).bind fun bt489 => (if (bt485.2 != bt489.2) = true then (some false) else (if bt485.2 = true then ((impl_SpotOf.f k bt480.1 bt480.2.1).bind fun bt493 => ((impl_SpotOf.f k bt485.1 bt480.2.1).bind fun bt499 => (if bt493.2.2.2.2 = true then (if bt499.2.2.2.2 = true then (if (bt493.1 == bt499.1 && (bt493.2.1 == bt499.2.1 && (bt493.2.2.1 == bt499.2.2.1 && (bt493.2.2.2.1 == bt499.2.2.2.1)))) = true then (if 0 ≤ bt480.2.1 then (if bt480.2.1 < (bt485.1.length : Int) then (some (((rd_T36 bt485.1 bt480.2.1).f1) == bt480.2.2)) else (none)) else (none)) else (some false)) else (some false)) else (some false)))) else (some ((bt485.1.length : Int) == 0))))))
def laws_FnPlaced.f (k : Nat) (l0 : List Int) (l1 : List Int) : Option (Bool) := if (wrap64 ((l0.length : Int) + (l1.length : Int))) > 1048576 then (some true) else ((spec_DrawBackSpot.f l0).bind fun bt451 => ((impl_BackSpot.f k bt451.1 bt451.2.1 bt451.2.2.1 bt451.2.2.2).bind fun bt456 => ((spec_BackSpot.f k bt451.1 bt451.2.1 bt451.2.2.1 bt451.2.2.2).bind fun bt462 => (if (bt456.2.2.2.2 != bt462.2.2.2.2) = true then (some false) else (if bt456.2.2.2.2 = true then ((impl_JoinSpots.f k bt451.1 bt451.2.1 bt451.2.2.1 bt451.2.2.2 bt456.1 bt456.2.1 bt456.2.2.1 bt456.2.2.2.1).bind fun bt468 => ((impl_JoinSpots.f k bt456.1 bt456.2.1 bt456.2.2.1 bt456.2.2.2.1 bt451.1 bt451.2.1 bt451.2.2.1 bt451.2.2.2).bind fun bt474 => (if bt468.2.2.2.2 = true then (if bt474.2.2.2.2 = true then (if (!(bt468.1 == 0) || (!(bt468.2.1 == 0) || (!(bt468.2.2.1 == 0) || (bt468.2.2.2.1)))) = true then (some false) else (if (!(bt474.1 == 0) || (!(bt474.2.1 == 0) || (!(bt474.2.2.1 == 0) || (bt474.2.2.2.1)))) = true then (some false) else (laws_FnPlaced.j0 k l1))) else (some false)) else (some false)))) else (laws_FnPlaced.j0 k l1))))))
theorem laws_FnPlaced.mono_l : ∀ k, (∀ y0, LeO (laws_FnPlaced.j0 k y0) (laws_FnPlaced.j0 (k + 1) y0))
 | 0 => fun _ r h => by simp [laws_FnPlaced.j0] at h
 | k + 1 => by
  have ih0 := laws_FnPlaced.mono_l k
  ·intro y0
   unfold laws_FnPlaced.j0
   repeat' first
   | (with_reducible exact ih0 _)
   | (with_reducible exact impl_BackSpot.mono _ _ _ _ _)
   | (with_reducible exact impl_Hang.mono _ _ _ _)
   | (with_reducible exact impl_JoinSpots.mono _ _ _ _ _ _ _ _ _)
   | (with_reducible exact impl_SpotOf.mono _ _ _)
   | (with_reducible exact spec_BackSpot.mono _ _ _ _ _)
   | (with_reducible exact spec_DrawHang.mono _ _)
   | (with_reducible exact spec_Hang.mono _ _ _ _)
   | (with_reducible first | exact LeO.refl _ | exact LeO.none _ | refine LeO.ite ?_ ?_ | refine LeO.bind ?_ (fun _ => ?_))
   | exact ih0 _
   | exact impl_BackSpot.mono _ _ _ _ _
   | exact impl_Hang.mono _ _ _ _
   | exact impl_JoinSpots.mono _ _ _ _ _ _ _ _ _
   | exact impl_SpotOf.mono _ _ _
   | exact spec_BackSpot.mono _ _ _ _ _
   | exact spec_DrawHang.mono _ _
   | exact spec_Hang.mono _ _ _ _ | exact LeO.none _ | refine LeO.ite ?_ ?_ | refine LeO.bind ?_ (fun _ => ?_)
theorem laws_FnPlaced.mono : ∀ a0 a1 k, LeO (laws_FnPlaced.f k a0 a1) (laws_FnPlaced.f (k + 1) a0 a1) := by
 intro a0 a1 k
 have ih0 := laws_FnPlaced.mono_l k
 unfold laws_FnPlaced.f
 repeat' first
   | (with_reducible exact ih0 _)
   | (with_reducible exact impl_BackSpot.mono _ _ _ _ _)
   | (with_reducible exact impl_Hang.mono _ _ _ _)
   | (with_reducible exact impl_JoinSpots.mono _ _ _ _ _ _ _ _ _)
   | (with_reducible exact impl_SpotOf.mono _ _ _)
   | (with_reducible exact spec_BackSpot.mono _ _ _ _ _)
   | (with_reducible exact spec_DrawHang.mono _ _)
   | (with_reducible exact spec_Hang.mono _ _ _ _)
   | (with_reducible first | exact LeO.refl _ | exact LeO.none _ | refine LeO.ite ?_ ?_ | refine LeO.bind ?_ (fun _ => ?_))
   | exact ih0 _
   | exact impl_BackSpot.mono _ _ _ _ _
   | exact impl_Hang.mono _ _ _ _
   | exact impl_JoinSpots.mono _ _ _ _ _ _ _ _ _
   | exact impl_SpotOf.mono _ _ _
   | exact spec_BackSpot.mono _ _ _ _ _
   | exact spec_DrawHang.mono _ _
   | exact spec_Hang.mono _ _ _ _ | exact LeO.none _ | refine LeO.ite ?_ ?_ | refine LeO.bind ?_ (fun _ => ?_)
set_option maxHeartbeats 8000000 in
set_option maxRecDepth 100000 in
theorem laws_FnPlaced.calls (k : Nat) (A0 : Option Addr) (c0 : Nat) (l0 : List Int) (A1 : Option Addr) (c1 : Nat) (l1 : List Int) (r : Bool) (w : World) (hr0 : Kd.C (Kd.int .u8) w A0 l0.length l0) (hc0 : l0.length ≤ c0) (hr1 : Kd.C (Kd.int .u8) w A1 l1.length l1) (hc1 : l1.length ≤ c1) (h : laws_FnPlaced.f k l0 l1 = some r) :
  Calls Try.prog 3 #[.slice A0 l0.length c0, .slice A1 l1.length c1] w fun e w' => e = .returned (.bool r) ∧ Below w.heap.size w w' := by
 have hu24 := Try.underlying24
 have HR0 := Aside0.mk hr0
 have HC0 := Aside0.mk hc0
 clear hr0 hc0
 have HR1 := Aside0.mk hr1
 have HC1 := Aside0.mk hc1
 clear hr1 hc1
 have HB := Aside0.mk (Below.refl w.heap.size w)
 have H : (if (wrap64 ((l0.length : Int) + (l1.length : Int))) > 1048576 then (some true) else ((spec_DrawBackSpot.f l0).bind fun bt451 => ((impl_BackSpot.f k bt451.1 bt451.2.1 bt451.2.2.1 bt451.2.2.2).bind fun bt456 => ((spec_BackSpot.f k bt451.1 bt451.2.1 bt451.2.2.1 bt451.2.2.2).bind fun bt462 => (if (bt456.2.2.2.2 != bt462.2.2.2.2) = true then (some false) else (if bt456.2.2.2.2 = true then ((impl_JoinSpots.f k bt451.1 bt451.2.1 bt451.2.2.1 bt451.2.2.2 bt456.1 bt456.2.1 bt456.2.2.1 bt456.2.2.2.1).bind fun bt468 => ((impl_JoinSpots.f k bt456.1 bt456.2.1 bt456.2.2.1 bt456.2.2.2.1 bt451.1 bt451.2.1 bt451.2.2.1 bt451.2.2.2).bind fun bt474 => (if bt468.2.2.2.2 = true then (if bt474.2.2.2.2 = true then (if (!(bt468.1 == 0) || (!(bt468.2.1 == 0) || (!(bt468.2.2.1 == 0) || (bt468.2.2.2.1)))) = true then (some false) else (if (!(bt474.1 == 0) || (!(bt474.2.1 == 0) || (!(bt474.2.2.1 == 0) || (bt474.2.2.2.1)))) = true then (some false) else (laws_FnPlaced.j0 k l1))) else (some false)) else (some false)))) else (laws_FnPlaced.j0 k l1))))))) = some r := h
 clear h
 by_cases c3 : (wrap64 ((l0.length : Int) + (l1.length : Int))) > 1048576
 ·rw [if_pos c3] at H
  have c3b0 : decide (1048576 < (wrap64 ((l0.length : Int) + (l1.length : Int)))) = true := decide_eq_true c3
  clear c3
  obtain rfl := Option.some.inj H
  go_enter Try.func3, Try.ntmps3
  go_wp2
  go_ret
  exact ⟨eE, lU⟩
 ·rw [if_neg c3] at H
  have c3b0 : decide (1048576 < (wrap64 ((l0.length : Int) + (l1.length : Int)))) = false := decide_eq_false c3
  clear c3
  replace H := Option.bind_eq_some_iff.mp H
  obtain ⟨⟨t451, t452, t453, t454⟩, A40, H⟩ := H
  replace H : ((impl_BackSpot.f k t451 t452 t453 t454).bind fun bt456 => ((spec_BackSpot.f k t451 t452 t453 t454).bind fun bt462 => (if (bt456.2.2.2.2 != bt462.2.2.2.2) = true then (some false) else (if bt456.2.2.2.2 = true then ((impl_JoinSpots.f k t451 t452 t453 t454 bt456.1 bt456.2.1 bt456.2.2.1 bt456.2.2.2.1).bind fun bt468 => ((impl_JoinSpots.f k bt456.1 bt456.2.1 bt456.2.2.1 bt456.2.2.2.1 t451 t452 t453 t454).bind fun bt474 => (if bt468.2.2.2.2 = true then (if bt474.2.2.2.2 = true then (if (!(bt468.1 == 0) || (!(bt468.2.1 == 0) || (!(bt468.2.2.1 == 0) || (bt468.2.2.2.1)))) = true then (some false) else (if (!(bt474.1 == 0) || (!(bt474.2.1 == 0) || (!(bt474.2.2.1 == 0) || (bt474.2.2.2.1)))) = true then (some false) else (laws_FnPlaced.j0 k l1))) else (some false)) else (some false)))) else (laws_FnPlaced.j0 k l1))))) = some r := H
  have A4 := Aside0.mk A40
  clear A40
  replace H := Option.bind_eq_some_iff.mp H
  obtain ⟨⟨t456, t457, t458, t459, t460⟩, A50, H⟩ := H
  replace H : ((spec_BackSpot.f k t451 t452 t453 t454).bind fun bt462 => (if (t460 != bt462.2.2.2.2) = true then (some false) else (if t460 = true then ((impl_JoinSpots.f k t451 t452 t453 t454 t456 t457 t458 t459).bind fun bt468 => ((impl_JoinSpots.f k t456 t457 t458 t459 t451 t452 t453 t454).bind fun bt474 => (if bt468.2.2.2.2 = true then (if bt474.2.2.2.2 = true then (if (!(bt468.1 == 0) || (!(bt468.2.1 == 0) || (!(bt468.2.2.1 == 0) || (bt468.2.2.2.1)))) = true then (some false) else (if (!(bt474.1 == 0) || (!(bt474.2.1 == 0) || (!(bt474.2.2.1 == 0) || (bt474.2.2.2.1)))) = true then (some false) else (laws_FnPlaced.j0 k l1))) else (some false)) else (some false)))) else (laws_FnPlaced.j0 k l1)))) = some r := H
  have A5 := Aside0.mk A50
  clear A50
  replace H := Option.bind_eq_some_iff.mp H
  obtain ⟨⟨t462, t463, t464, t465, t466⟩, A60, H⟩ := H
  replace H : (if (t460 != t466) = true then (some false) else (if t460 = true then ((impl_JoinSpots.f k t451 t452 t453 t454 t456 t457 t458 t459).bind fun bt468 => ((impl_JoinSpots.f k t456 t457 t458 t459 t451 t452 t453 t454).bind fun bt474 => (if bt468.2.2.2.2 = true then (if bt474.2.2.2.2 = true then (if (!(bt468.1 == 0) || (!(bt468.2.1 == 0) || (!(bt468.2.2.1 == 0) || (bt468.2.2.2.1)))) = true then (some false) else (if (!(bt474.1 == 0) || (!(bt474.2.1 == 0) || (!(bt474.2.2.1 == 0) || (bt474.2.2.2.1)))) = true then (some false) else (laws_FnPlaced.j0 k l1))) else (some false)) else (some false)))) else (laws_FnPlaced.j0 k l1))) = some r := H
  have A6 := Aside0.mk A60
  clear A60
  by_cases c7 : (t460 != t466) = true
  ·rw [if_pos c7] at H
   have c7b0 : (t460 != t466) = true := c7
   (try (have c7b1 : decide (t460 = t466) = false := by simpa using c7))
   (try (have c7b2 : (t460 == t466) = false := by simpa using c7))
   (try (have c7b3 : ¬ (t460 = t466) := by simpa using c7))
   clear c7
   obtain rfl := Option.some.inj H
   go_enter Try.func3, Try.ntmps3
   go_wp2_with (first | ((with_reducible refine gate_callee (f := 4) rfl ?_); refine goesL_ (some 32) rfl rfl Try.func4 (by kernel_rfl) rfl #[.slice A0 l0.length c0] rfl aE ?_; (with_reducible refine (spec_DrawBackSpot.calls _ _ l0 t451 t452 t453 t454 _ ?side1 ?side2 A4.out).mono ?_); (case side1 => repeat (first | exact HR0.out | (with_reducible refine Kd.C_alloc ?_ _) | (with_reducible refine Kd.C_drewN ?_ _) | (with_reducible refine Kd.C_drew ?_))); (case side2 => exact HC0.out); rintro e w8 ⟨rfl, hb⟩; refine ⟨_, rfl, ?_⟩; replace HB := bH (lU) hb; (try clear hb)) | ((with_reducible refine gate_dst (N := 5) rfl ?_); refine box_event rfl (N := 5) rfl (cs := #[.int .i64 0, .int .i64 0, .int .i64 0, .bool false]) (t := 24) sE ?_; intro gb455 hg w9 hbox hb; have BK455 := Aside0.mk hbox; have GW455 := gS w hg (lU); have GE455 := gS w hg (lU); replace HB := bH (lU) hb; clear hb hbox hg; have hcz10_0 := cz BK455 0 (.int .i64 0); have hcz10_1 := cz BK455 1 (.int .i64 0); have hcz10_2 := cz BK455 2 (.int .i64 0); have hcz10_3 := cz BK455 3 (.bool false); have hfz10_0 := fz BK455 0; have hfz10_1 := fz BK455 1; have hfz10_2 := fz BK455 2; have hfz10_3 := fz BK455 3) | ((with_reducible refine gate_store (t := 24) (p := 5) rfl ?_); refine store_event (t := 24) (p := 5) (v := ?vo_w11) (w1 := ((((w9.setCell ⟨gb455, 0, none⟩ (.int .i64 t451)).setCell ⟨gb455, 1, none⟩ (.int .i64 t452)).setCell ⟨gb455, 2, none⟩ (.int .i64 t453)).setCell ⟨gb455, 3, none⟩ (.bool t454))) ?hg ?ho ?hn ?hr ?_; (case ho => rfl); (case hg => rfl); (case hn => rfl); (case hr => first | (go_simp; done) | (go_simp; rfl) | (have hq0_ := (blk_cell BK455.out 0).trans (show _ = some _ from rfl); have hf0_ := blk_frozen BK455.out 0; have hq1_ := (blk_cell BK455.out 1).trans (show _ = some _ from rfl); have hf1_ := blk_frozen BK455.out 1; have hq2_ := (blk_cell BK455.out 2).trans (show _ = some _ from rfl); have hf2_ := blk_frozen BK455.out 2; have hq3_ := (blk_cell BK455.out 3).trans (show _ = some _ from rfl); have hf3_ := blk_frozen BK455.out 3; first | (go_simp; done) | (go_simp; rfl))); intro w11 hw; replace BK455 : Aside0 (w11.heap[gb455]? = some (.cells #[.int .i64 t451, .int .i64 t452, .int .i64 t453, .bool t454] 24 (0, 0))) := ⟨(by rw [hw]; exact (by refine bU ?_; refine blk_put (cs := #[.int .i64 t451, .int .i64 t452, .int .i64 t453, .bool false]) ?_ 3 _ rfl; refine bU ?_; refine blk_put (cs := #[.int .i64 t451, .int .i64 t452, .int .i64 0, .bool false]) ?_ 2 _ rfl; refine bU ?_; refine blk_put (cs := #[.int .i64 t451, .int .i64 0, .int .i64 0, .bool false]) ?_ 1 _ rfl; refine bU ?_; refine blk_put (cs := #[.int .i64 0, .int .i64 0, .int .i64 0, .bool false]) ?_ 0 _ rfl; refine bU ?_; exact BK455.out))⟩; replace HB : Aside0 (Below w.heap.size w w11) := ⟨(by rw [hw]; exact (lV1 GE455))⟩; clear hw; have hcz12_0 := cz BK455 0 (.int .i64 t451); have hcz12_1 := cz BK455 1 (.int .i64 t452); have hcz12_2 := cz BK455 2 (.int .i64 t453); have hcz12_3 := cz BK455 3 (.bool t454); have hfz12_0 := fz BK455 0; have hfz12_1 := fz BK455 1; have hfz12_2 := fz BK455 2; have hfz12_3 := fz BK455 3) | ((with_reducible refine gate_callee (f := 5) rfl ?_); refine goesL_ (some 35) rfl rfl Try.func5 (by kernel_rfl) rfl #[.agg #[.int .i64 t451, .int .i64 t452, .int .i64 t453, .bool t454]] rfl aE ?_; (with_reducible refine (impl_BackSpot.calls k t451 t452 t453 t454 t456 t457 t458 t459 t460 _ A5.out).mono ?_); rintro e w13 ⟨rfl, hb⟩; refine ⟨_, rfl, ?_⟩; replace BK455 := bB (bV BK455) hb; replace HB := bH (lV1 GE455) hb; (try clear hb)) | ((with_reducible refine gate_dst (N := 6) rfl ?_); refine box_event rfl (N := 6) rfl (cs := #[.int .i64 0, .int .i64 0, .int .i64 0, .bool false]) (t := 24) sE ?_; intro gb461 hg w14 hbox hb; have BK461 := Aside0.mk hbox; have GW461 := gS w hg (lV1 GE455); have GE461 := gS w hg (lV1 GE455); replace HB := bH (lV1 GE455) hb; have NB455_461 := nL hg (bV BK455); have NB461_455 := nG hg (bV BK455); replace BK455 := bB (bV BK455) hb; clear hb hbox hg; have hnb15 := NB461_455.out; have hnc15 := NB455_461.out; have hcz16_0 := cz BK461 0 (.int .i64 0); have hcz16_1 := cz BK461 1 (.int .i64 0); have hcz16_2 := cz BK461 2 (.int .i64 0); have hcz16_3 := cz BK461 3 (.bool false); have hfz16_0 := fz BK461 0; have hfz16_1 := fz BK461 1; have hfz16_2 := fz BK461 2; have hfz16_3 := fz BK461 3) | ((with_reducible refine gate_store (t := 24) (p := 6) rfl ?_); refine store_event (t := 24) (p := 6) (v := ?vo_w17) (w1 := ((((w14.setCell ⟨gb461, 0, none⟩ (.int .i64 t456)).setCell ⟨gb461, 1, none⟩ (.int .i64 t457)).setCell ⟨gb461, 2, none⟩ (.int .i64 t458)).setCell ⟨gb461, 3, none⟩ (.bool t459))) ?hg ?ho ?hn ?hr ?_; (case ho => rfl); (case hg => rfl); (case hn => rfl); (case hr => first | (go_simp; done) | (go_simp; rfl) | (have hq0_ := (blk_cell BK461.out 0).trans (show _ = some _ from rfl); have hf0_ := blk_frozen BK461.out 0; have hq1_ := (blk_cell BK461.out 1).trans (show _ = some _ from rfl); have hf1_ := blk_frozen BK461.out 1; have hq2_ := (blk_cell BK461.out 2).trans (show _ = some _ from rfl); have hf2_ := blk_frozen BK461.out 2; have hq3_ := (blk_cell BK461.out 3).trans (show _ = some _ from rfl); have hf3_ := blk_frozen BK461.out 3; first | (go_simp; done) | (go_simp; rfl))); intro w17 hw; replace BK455 : Aside0 (w17.heap[gb455]? = some (.cells #[.int .i64 t451, .int .i64 t452, .int .i64 t453, .bool t454] 24 (0, 0))) := ⟨(by rw [hw]; exact (bG NB455_461 BK455))⟩; replace BK461 : Aside0 (w17.heap[gb461]? = some (.cells #[.int .i64 t456, .int .i64 t457, .int .i64 t458, .bool t459] 24 (0, 0))) := ⟨(by rw [hw]; exact (by refine bU ?_; refine blk_put (cs := #[.int .i64 t456, .int .i64 t457, .int .i64 t458, .bool false]) ?_ 3 _ rfl; refine bU ?_; refine blk_put (cs := #[.int .i64 t456, .int .i64 t457, .int .i64 0, .bool false]) ?_ 2 _ rfl; refine bU ?_; refine blk_put (cs := #[.int .i64 t456, .int .i64 0, .int .i64 0, .bool false]) ?_ 1 _ rfl; refine bU ?_; refine blk_put (cs := #[.int .i64 0, .int .i64 0, .int .i64 0, .bool false]) ?_ 0 _ rfl; refine bU ?_; exact BK461.out))⟩; replace HB : Aside0 (Below w.heap.size w w17) := ⟨(by rw [hw]; exact (lV2 GE455 GE461))⟩; clear hw; have hcz18_0 := cz BK455 0 (.int .i64 t451); have hcz18_1 := cz BK455 1 (.int .i64 t452); have hcz18_2 := cz BK455 2 (.int .i64 t453); have hcz18_3 := cz BK455 3 (.bool t454); have hfz18_0 := fz BK455 0; have hfz18_1 := fz BK455 1; have hfz18_2 := fz BK455 2; have hfz18_3 := fz BK455 3) | ((with_reducible refine gate_callee (f := 6) rfl ?_); refine goesL_ (some 40) rfl rfl Try.func6 (by kernel_rfl) rfl #[.agg #[.int .i64 t451, .int .i64 t452, .int .i64 t453, .bool t454]] rfl aE ?_; (with_reducible refine (spec_BackSpot.calls k t451 t452 t453 t454 t462 t463 t464 t465 t466 _ A6.out).mono ?_); rintro e w19 ⟨rfl, hb⟩; refine ⟨_, rfl, ?_⟩; replace BK455 := bB (bV BK455) hb; replace BK461 := bB (bV BK461) hb; replace HB := bH (lV2 GE455 GE461) hb; (try clear hb)) | ((with_reducible refine gate_dst (N := 8) rfl ?_); refine box_event rfl (N := 8) rfl (cs := #[.int .i64 0, .int .i64 0, .int .i64 0, .bool false]) (t := 24) sE ?_; intro gb467 hg w20 hbox hb; have BK467 := Aside0.mk hbox; have GW467 := gS w hg (lV2 GE455 GE461); have GE467 := gS w hg (lV2 GE455 GE461); replace HB := bH (lV2 GE455 GE461) hb; have NB455_467 := nL hg (bV BK455); have NB467_455 := nG hg (bV BK455); replace BK455 := bB (bV BK455) hb; have NB461_467 := nL hg (bV BK461); have NB467_461 := nG hg (bV BK461); replace BK461 := bB (bV BK461) hb; clear hb hbox hg; have hnb21 := NB467_455.out; have hnc21 := NB455_467.out; have hnb22 := NB467_461.out; have hnc22 := NB461_467.out; have hcz23_0 := cz BK467 0 (.int .i64 0); have hcz23_1 := cz BK467 1 (.int .i64 0); have hcz23_2 := cz BK467 2 (.int .i64 0); have hcz23_3 := cz BK467 3 (.bool false); have hfz23_0 := fz BK467 0; have hfz23_1 := fz BK467 1; have hfz23_2 := fz BK467 2; have hfz23_3 := fz BK467 3) | ((with_reducible refine gate_store (t := 24) (p := 8) rfl ?_); refine store_event (t := 24) (p := 8) (v := ?vo_w24) (w1 := ((((w20.setCell ⟨gb467, 0, none⟩ (.int .i64 t462)).setCell ⟨gb467, 1, none⟩ (.int .i64 t463)).setCell ⟨gb467, 2, none⟩ (.int .i64 t464)).setCell ⟨gb467, 3, none⟩ (.bool t465))) ?hg ?ho ?hn ?hr ?_; (case ho => rfl); (case hg => rfl); (case hn => rfl); (case hr => first | (go_simp; done) | (go_simp; rfl) | (have hq0_ := (blk_cell BK467.out 0).trans (show _ = some _ from rfl); have hf0_ := blk_frozen BK467.out 0; have hq1_ := (blk_cell BK467.out 1).trans (show _ = some _ from rfl); have hf1_ := blk_frozen BK467.out 1; have hq2_ := (blk_cell BK467.out 2).trans (show _ = some _ from rfl); have hf2_ := blk_frozen BK467.out 2; have hq3_ := (blk_cell BK467.out 3).trans (show _ = some _ from rfl); have hf3_ := blk_frozen BK467.out 3; first | (go_simp; done) | (go_simp; rfl))); intro w24 hw; replace BK455 : Aside0 (w24.heap[gb455]? = some (.cells #[.int .i64 t451, .int .i64 t452, .int .i64 t453, .bool t454] 24 (0, 0))) := ⟨(by rw [hw]; exact (bG NB455_467 BK455))⟩; replace BK461 : Aside0 (w24.heap[gb461]? = some (.cells #[.int .i64 t456, .int .i64 t457, .int .i64 t458, .bool t459] 24 (0, 0))) := ⟨(by rw [hw]; exact (bG NB461_467 BK461))⟩; replace BK467 : Aside0 (w24.heap[gb467]? = some (.cells #[.int .i64 t462, .int .i64 t463, .int .i64 t464, .bool t465] 24 (0, 0))) := ⟨(by rw [hw]; exact (by refine bU ?_; refine blk_put (cs := #[.int .i64 t462, .int .i64 t463, .int .i64 t464, .bool false]) ?_ 3 _ rfl; refine bU ?_; refine blk_put (cs := #[.int .i64 t462, .int .i64 t463, .int .i64 0, .bool false]) ?_ 2 _ rfl; refine bU ?_; refine blk_put (cs := #[.int .i64 t462, .int .i64 0, .int .i64 0, .bool false]) ?_ 1 _ rfl; refine bU ?_; refine blk_put (cs := #[.int .i64 0, .int .i64 0, .int .i64 0, .bool false]) ?_ 0 _ rfl; refine bU ?_; exact BK467.out))⟩; replace HB : Aside0 (Below w.heap.size w w24) := ⟨(by rw [hw]; exact (lV3 GE455 GE461 GE467))⟩; clear hw))
   go_ret
   exact ⟨eE, lV3 GE455 GE461 GE467⟩
  ·rw [if_neg c7] at H
   have c7b0 : (t460 != t466) = false := by simpa using c7
   (try (have c7b1 : decide (t460 = t466) = true := by simpa using c7))
   (try (have c7b2 : (t460 == t466) = true := by simpa using c7))
   clear c7
   have HC25 := Aside0.mk H
   clear H
   go_enter Try.func3, Try.ntmps3
   go_upto_if 46 with (first | ((with_reducible refine gate_callee (f := 4) rfl ?_); refine goesL_ (some 32) rfl rfl Try.func4 (by kernel_rfl) rfl #[.slice A0 l0.length c0] rfl aE ?_; (with_reducible refine (spec_DrawBackSpot.calls _ _ l0 t451 t452 t453 t454 _ ?side1 ?side2 A4.out).mono ?_); (case side1 => repeat (first | exact HR0.out | (with_reducible refine Kd.C_alloc ?_ _) | (with_reducible refine Kd.C_drewN ?_ _) | (with_reducible refine Kd.C_drew ?_))); (case side2 => exact HC0.out); rintro e w26 ⟨rfl, hb⟩; refine ⟨_, rfl, ?_⟩; replace HB := bH (lU) hb; (try clear hb)) | ((with_reducible refine gate_dst (N := 5) rfl ?_); refine box_event rfl (N := 5) rfl (cs := #[.int .i64 0, .int .i64 0, .int .i64 0, .bool false]) (t := 24) sE ?_; intro gb455 hg w27 hbox hb; have BK455 := Aside0.mk hbox; have GW455 := gS w hg (lU); have GE455 := gS w hg (lU); replace HB := bH (lU) hb; clear hb hbox hg; have hcz28_0 := cz BK455 0 (.int .i64 0); have hcz28_1 := cz BK455 1 (.int .i64 0); have hcz28_2 := cz BK455 2 (.int .i64 0); have hcz28_3 := cz BK455 3 (.bool false); have hfz28_0 := fz BK455 0; have hfz28_1 := fz BK455 1; have hfz28_2 := fz BK455 2; have hfz28_3 := fz BK455 3) | ((with_reducible refine gate_store (t := 24) (p := 5) rfl ?_); refine store_event (t := 24) (p := 5) (v := ?vo_w29) (w1 := ((((w27.setCell ⟨gb455, 0, none⟩ (.int .i64 t451)).setCell ⟨gb455, 1, none⟩ (.int .i64 t452)).setCell ⟨gb455, 2, none⟩ (.int .i64 t453)).setCell ⟨gb455, 3, none⟩ (.bool t454))) ?hg ?ho ?hn ?hr ?_; (case ho => rfl); (case hg => rfl); (case hn => rfl); (case hr => first | (go_simp; done) | (go_simp; rfl) | (have hq0_ := (blk_cell BK455.out 0).trans (show _ = some _ from rfl); have hf0_ := blk_frozen BK455.out 0; have hq1_ := (blk_cell BK455.out 1).trans (show _ = some _ from rfl); have hf1_ := blk_frozen BK455.out 1; have hq2_ := (blk_cell BK455.out 2).trans (show _ = some _ from rfl); have hf2_ := blk_frozen BK455.out 2; have hq3_ := (blk_cell BK455.out 3).trans (show _ = some _ from rfl); have hf3_ := blk_frozen BK455.out 3; first | (go_simp; done) | (go_simp; rfl))); intro w29 hw; replace BK455 : Aside0 (w29.heap[gb455]? = some (.cells #[.int .i64 t451, .int .i64 t452, .int .i64 t453, .bool t454] 24 (0, 0))) := ⟨(by rw [hw]; exact (by refine bU ?_; refine blk_put (cs := #[.int .i64 t451, .int .i64 t452, .int .i64 t453, .bool false]) ?_ 3 _ rfl; refine bU ?_; refine blk_put (cs := #[.int .i64 t451, .int .i64 t452, .int .i64 0, .bool false]) ?_ 2 _ rfl; refine bU ?_; refine blk_put (cs := #[.int .i64 t451, .int .i64 0, .int .i64 0, .bool false]) ?_ 1 _ rfl; refine bU ?_; refine blk_put (cs := #[.int .i64 0, .int .i64 0, .int .i64 0, .bool false]) ?_ 0 _ rfl; refine bU ?_; exact BK455.out))⟩; replace HB : Aside0 (Below w.heap.size w w29) := ⟨(by rw [hw]; exact (lV1 GE455))⟩; clear hw; have hcz30_0 := cz BK455 0 (.int .i64 t451); have hcz30_1 := cz BK455 1 (.int .i64 t452); have hcz30_2 := cz BK455 2 (.int .i64 t453); have hcz30_3 := cz BK455 3 (.bool t454); have hfz30_0 := fz BK455 0; have hfz30_1 := fz BK455 1; have hfz30_2 := fz BK455 2; have hfz30_3 := fz BK455 3) | ((with_reducible refine gate_callee (f := 5) rfl ?_); refine goesL_ (some 35) rfl rfl Try.func5 (by kernel_rfl) rfl #[.agg #[.int .i64 t451, .int .i64 t452, .int .i64 t453, .bool t454]] rfl aE ?_; (with_reducible refine (impl_BackSpot.calls k t451 t452 t453 t454 t456 t457 t458 t459 t460 _ A5.out).mono ?_); rintro e w31 ⟨rfl, hb⟩; refine ⟨_, rfl, ?_⟩; replace BK455 := bB (bV BK455) hb; replace HB := bH (lV1 GE455) hb; (try clear hb)) | ((with_reducible refine gate_dst (N := 6) rfl ?_); refine box_event rfl (N := 6) rfl (cs := #[.int .i64 0, .int .i64 0, .int .i64 0, .bool false]) (t := 24) sE ?_; intro gb461 hg w32 hbox hb; have BK461 := Aside0.mk hbox; have GW461 := gS w hg (lV1 GE455); have GE461 := gS w hg (lV1 GE455); replace HB := bH (lV1 GE455) hb; have NB455_461 := nL hg (bV BK455); have NB461_455 := nG hg (bV BK455); replace BK455 := bB (bV BK455) hb; clear hb hbox hg; have hnb33 := NB461_455.out; have hnc33 := NB455_461.out; have hcz34_0 := cz BK461 0 (.int .i64 0); have hcz34_1 := cz BK461 1 (.int .i64 0); have hcz34_2 := cz BK461 2 (.int .i64 0); have hcz34_3 := cz BK461 3 (.bool false); have hfz34_0 := fz BK461 0; have hfz34_1 := fz BK461 1; have hfz34_2 := fz BK461 2; have hfz34_3 := fz BK461 3) | ((with_reducible refine gate_store (t := 24) (p := 6) rfl ?_); refine store_event (t := 24) (p := 6) (v := ?vo_w35) (w1 := ((((w32.setCell ⟨gb461, 0, none⟩ (.int .i64 t456)).setCell ⟨gb461, 1, none⟩ (.int .i64 t457)).setCell ⟨gb461, 2, none⟩ (.int .i64 t458)).setCell ⟨gb461, 3, none⟩ (.bool t459))) ?hg ?ho ?hn ?hr ?_; (case ho => rfl); (case hg => rfl); (case hn => rfl); (case hr => first | (go_simp; done) | (go_simp; rfl) | (have hq0_ := (blk_cell BK461.out 0).trans (show _ = some _ from rfl); have hf0_ := blk_frozen BK461.out 0; have hq1_ := (blk_cell BK461.out 1).trans (show _ = some _ from rfl); have hf1_ := blk_frozen BK461.out 1; have hq2_ := (blk_cell BK461.out 2).trans (show _ = some _ from rfl); have hf2_ := blk_frozen BK461.out 2; have hq3_ := (blk_cell BK461.out 3).trans (show _ = some _ from rfl); have hf3_ := blk_frozen BK461.out 3; first | (go_simp; done) | (go_simp; rfl))); intro w35 hw; replace BK455 : Aside0 (w35.heap[gb455]? = some (.cells #[.int .i64 t451, .int .i64 t452, .int .i64 t453, .bool t454] 24 (0, 0))) := ⟨(by rw [hw]; exact (bG NB455_461 BK455))⟩; replace BK461 : Aside0 (w35.heap[gb461]? = some (.cells #[.int .i64 t456, .int .i64 t457, .int .i64 t458, .bool t459] 24 (0, 0))) := ⟨(by rw [hw]; exact (by refine bU ?_; refine blk_put (cs := #[.int .i64 t456, .int .i64 t457, .int .i64 t458, .bool false]) ?_ 3 _ rfl; refine bU ?_; refine blk_put (cs := #[.int .i64 t456, .int .i64 t457, .int .i64 0, .bool false]) ?_ 2 _ rfl; refine bU ?_; refine blk_put (cs := #[.int .i64 t456, .int .i64 0, .int .i64 0, .bool false]) ?_ 1 _ rfl; refine bU ?_; refine blk_put (cs := #[.int .i64 0, .int .i64 0, .int .i64 0, .bool false]) ?_ 0 _ rfl; refine bU ?_; exact BK461.out))⟩; replace HB : Aside0 (Below w.heap.size w w35) := ⟨(by rw [hw]; exact (lV2 GE455 GE461))⟩; clear hw; have hcz36_0 := cz BK455 0 (.int .i64 t451); have hcz36_1 := cz BK455 1 (.int .i64 t452); have hcz36_2 := cz BK455 2 (.int .i64 t453); have hcz36_3 := cz BK455 3 (.bool t454); have hfz36_0 := fz BK455 0; have hfz36_1 := fz BK455 1; have hfz36_2 := fz BK455 2; have hfz36_3 := fz BK455 3) | ((with_reducible refine gate_callee (f := 6) rfl ?_); refine goesL_ (some 40) rfl rfl Try.func6 (by kernel_rfl) rfl #[.agg #[.int .i64 t451, .int .i64 t452, .int .i64 t453, .bool t454]] rfl aE ?_; (with_reducible refine (spec_BackSpot.calls k t451 t452 t453 t454 t462 t463 t464 t465 t466 _ A6.out).mono ?_); rintro e w37 ⟨rfl, hb⟩; refine ⟨_, rfl, ?_⟩; replace BK455 := bB (bV BK455) hb; replace BK461 := bB (bV BK461) hb; replace HB := bH (lV2 GE455 GE461) hb; (try clear hb)) | ((with_reducible refine gate_dst (N := 8) rfl ?_); refine box_event rfl (N := 8) rfl (cs := #[.int .i64 0, .int .i64 0, .int .i64 0, .bool false]) (t := 24) sE ?_; intro gb467 hg w38 hbox hb; have BK467 := Aside0.mk hbox; have GW467 := gS w hg (lV2 GE455 GE461); have GE467 := gS w hg (lV2 GE455 GE461); replace HB := bH (lV2 GE455 GE461) hb; have NB455_467 := nL hg (bV BK455); have NB467_455 := nG hg (bV BK455); replace BK455 := bB (bV BK455) hb; have NB461_467 := nL hg (bV BK461); have NB467_461 := nG hg (bV BK461); replace BK461 := bB (bV BK461) hb; clear hb hbox hg; have hnb39 := NB467_455.out; have hnc39 := NB455_467.out; have hnb40 := NB467_461.out; have hnc40 := NB461_467.out; have hcz41_0 := cz BK467 0 (.int .i64 0); have hcz41_1 := cz BK467 1 (.int .i64 0); have hcz41_2 := cz BK467 2 (.int .i64 0); have hcz41_3 := cz BK467 3 (.bool false); have hfz41_0 := fz BK467 0; have hfz41_1 := fz BK467 1; have hfz41_2 := fz BK467 2; have hfz41_3 := fz BK467 3) | ((with_reducible refine gate_store (t := 24) (p := 8) rfl ?_); refine store_event (t := 24) (p := 8) (v := ?vo_w42) (w1 := ((((w38.setCell ⟨gb467, 0, none⟩ (.int .i64 t462)).setCell ⟨gb467, 1, none⟩ (.int .i64 t463)).setCell ⟨gb467, 2, none⟩ (.int .i64 t464)).setCell ⟨gb467, 3, none⟩ (.bool t465))) ?hg ?ho ?hn ?hr ?_; (case ho => rfl); (case hg => rfl); (case hn => rfl); (case hr => first | (go_simp; done) | (go_simp; rfl) | (have hq0_ := (blk_cell BK467.out 0).trans (show _ = some _ from rfl); have hf0_ := blk_frozen BK467.out 0; have hq1_ := (blk_cell BK467.out 1).trans (show _ = some _ from rfl); have hf1_ := blk_frozen BK467.out 1; have hq2_ := (blk_cell BK467.out 2).trans (show _ = some _ from rfl); have hf2_ := blk_frozen BK467.out 2; have hq3_ := (blk_cell BK467.out 3).trans (show _ = some _ from rfl); have hf3_ := blk_frozen BK467.out 3; first | (go_simp; done) | (go_simp; rfl))); intro w42 hw; replace BK455 : Aside0 (w42.heap[gb455]? = some (.cells #[.int .i64 t451, .int .i64 t452, .int .i64 t453, .bool t454] 24 (0, 0))) := ⟨(by rw [hw]; exact (bG NB455_467 BK455))⟩; replace BK461 : Aside0 (w42.heap[gb461]? = some (.cells #[.int .i64 t456, .int .i64 t457, .int .i64 t458, .bool t459] 24 (0, 0))) := ⟨(by rw [hw]; exact (bG NB461_467 BK461))⟩; replace BK467 : Aside0 (w42.heap[gb467]? = some (.cells #[.int .i64 t462, .int .i64 t463, .int .i64 t464, .bool t465] 24 (0, 0))) := ⟨(by rw [hw]; exact (by refine bU ?_; refine blk_put (cs := #[.int .i64 t462, .int .i64 t463, .int .i64 t464, .bool false]) ?_ 3 _ rfl; refine bU ?_; refine blk_put (cs := #[.int .i64 t462, .int .i64 t463, .int .i64 0, .bool false]) ?_ 2 _ rfl; refine bU ?_; refine blk_put (cs := #[.int .i64 t462, .int .i64 0, .int .i64 0, .bool false]) ?_ 1 _ rfl; refine bU ?_; refine blk_put (cs := #[.int .i64 0, .int .i64 0, .int .i64 0, .bool false]) ?_ 0 _ rfl; refine bU ?_; exact BK467.out))⟩; replace HB : Aside0 (Below w.heap.size w w42) := ⟨(by rw [hw]; exact (lV3 GE455 GE461 GE467))⟩; clear hw))
   (try simp only [Act.put, List.setIfInBounds_toArray, List.set_cons_zero, List.set_cons_succ])
   go_cut [] (fun wc => ∃ (kq : Nat), Aside0 (laws_FnPlaced.j0 kq l1 = some r) ∧ Aside0 (kq ≤ k) ∧ Aside0 (wc.heap[gb455]? = some (.cells #[.int .i64 t451, .int .i64 t452, .int .i64 t453, .bool t454] 24 (0, 0))) ∧ Aside0 (wc.heap[gb461]? = some (.cells #[.int .i64 t456, .int .i64 t457, .int .i64 t458, .bool t459] 24 (0, 0))) ∧ Aside0 (wc.heap[gb467]? = some (.cells #[.int .i64 t462, .int .i64 t463, .int .i64 t464, .bool t465] 24 (0, 0))) ∧ Aside0 (Below w.heap.size w wc))
   case first =>
    have H := HC25.out
    clear HC25
    by_cases c43 : t460 = true
    ·subst c43
     have H1 : ((impl_JoinSpots.f k t451 t452 t453 t454 t456 t457 t458 t459).bind fun bt468 => ((impl_JoinSpots.f k t456 t457 t458 t459 t451 t452 t453 t454).bind fun bt474 => (if bt468.2.2.2.2 = true then (if bt474.2.2.2.2 = true then (if (!(bt468.1 == 0) || (!(bt468.2.1 == 0) || (!(bt468.2.2.1 == 0) || (bt468.2.2.2.1)))) = true then (some false) else (if (!(bt474.1 == 0) || (!(bt474.2.1 == 0) || (!(bt474.2.2.1 == 0) || (bt474.2.2.2.1)))) = true then (some false) else (laws_FnPlaced.j0 k l1))) else (some false)) else (some false)))) = some r := by rw [if_pos rfl] at H; exact H
     clear H
     have H := H1
     clear H1
     replace H := Option.bind_eq_some_iff.mp H
     obtain ⟨⟨t468, t469, t470, t471, t472⟩, A440, H⟩ := H
     replace H : ((impl_JoinSpots.f k t456 t457 t458 t459 t451 t452 t453 t454).bind fun bt474 => (if t472 = true then (if bt474.2.2.2.2 = true then (if (!(t468 == 0) || (!(t469 == 0) || (!(t470 == 0) || (t471)))) = true then (some false) else (if (!(bt474.1 == 0) || (!(bt474.2.1 == 0) || (!(bt474.2.2.1 == 0) || (bt474.2.2.2.1)))) = true then (some false) else (laws_FnPlaced.j0 k l1))) else (some false)) else (some false))) = some r := H
     have A44 := Aside0.mk A440
     clear A440
     replace H := Option.bind_eq_some_iff.mp H
     obtain ⟨⟨t474, t475, t476, t477, t478⟩, A450, H⟩ := H
     replace H : (if t472 = true then (if t478 = true then (if (!(t468 == 0) || (!(t469 == 0) || (!(t470 == 0) || (t471)))) = true then (some false) else (if (!(t474 == 0) || (!(t475 == 0) || (!(t476 == 0) || (t477)))) = true then (some false) else (laws_FnPlaced.j0 k l1))) else (some false)) else (some false)) = some r := H
     have A45 := Aside0.mk A450
     clear A450
     by_cases c46 : t472 = true
     ·subst c46
      have H1 : (if t478 = true then (if (!(t468 == 0) || (!(t469 == 0) || (!(t470 == 0) || (t471)))) = true then (some false) else (if (!(t474 == 0) || (!(t475 == 0) || (!(t476 == 0) || (t477)))) = true then (some false) else (laws_FnPlaced.j0 k l1))) else (some false)) = some r := by rw [if_pos rfl] at H; exact H
      clear H
      have H := H1
      clear H1
      by_cases c47 : t478 = true
      ·subst c47
       have H1 : (if (!(t468 == 0) || (!(t469 == 0) || (!(t470 == 0) || (t471)))) = true then (some false) else (if (!(t474 == 0) || (!(t475 == 0) || (!(t476 == 0) || (t477)))) = true then (some false) else (laws_FnPlaced.j0 k l1))) = some r := by rw [if_pos rfl] at H; exact H
       clear H
       have H := H1
       clear H1
       by_cases c48 : (!(t468 == 0) || (!(t469 == 0) || (!(t470 == 0) || (t471)))) = true
       ·rw [if_pos c48] at H
        have c48b0 : (!(t468 == 0) || (!(t469 == 0) || (!(t470 == 0) || (t471)))) = true := c48
        clear c48
        (first | rw [c48b0] | (simp only [i64_w, i32_w]; rw [c48b0]) | (rw [c48b2]; simp only [Bool.not_false, Bool.not_true]) | skip)
        obtain rfl := Option.some.inj H
        have hnb49 := NB455_461.out
        have hnc49 := NB461_455.out
        have hnb50 := NB455_467.out
        have hnc50 := NB467_455.out
        have hcz51_0 := cz BK455 0 (.int .i64 t451)
        have hcz51_1 := cz BK455 1 (.int .i64 t452)
        have hcz51_2 := cz BK455 2 (.int .i64 t453)
        have hcz51_3 := cz BK455 3 (.bool t454)
        have hfz51_0 := fz BK455 0
        have hfz51_1 := fz BK455 1
        have hfz51_2 := fz BK455 2
        have hfz51_3 := fz BK455 3
        have hnb52 := NB461_467.out
        have hnc52 := NB467_461.out
        have hcz53_0 := cz BK461 0 (.int .i64 t456)
        have hcz53_1 := cz BK461 1 (.int .i64 t457)
        have hcz53_2 := cz BK461 2 (.int .i64 t458)
        have hcz53_3 := cz BK461 3 (.bool t459)
        have hfz53_0 := fz BK461 0
        have hfz53_1 := fz BK461 1
        have hfz53_2 := fz BK461 2
        have hfz53_3 := fz BK461 3
        go_wp2_with (first | ((with_reducible refine gate_callee (f := 7) rfl ?_); refine goesL_ (some 50) rfl rfl Try.func7 (by kernel_rfl) rfl #[.agg #[.int .i64 t451, .int .i64 t452, .int .i64 t453, .bool t454], .agg #[.int .i64 t456, .int .i64 t457, .int .i64 t458, .bool t459]] rfl aE ?_; (with_reducible refine (impl_JoinSpots.calls k t451 t452 t453 t454 t456 t457 t458 t459 t468 t469 t470 t471 true _ A44.out).mono ?_); rintro e w54 ⟨rfl, hb⟩; refine ⟨_, rfl, ?_⟩; replace BK455 := bB (bV BK455) hb; replace BK461 := bB (bV BK461) hb; replace BK467 := bB (bV BK467) hb; replace HB := bH (lV3 GE455 GE461 GE467) hb; (try clear hb)) | ((with_reducible refine gate_dst (N := 10) rfl ?_); refine box_event rfl (N := 10) rfl (cs := #[.int .i64 0, .int .i64 0, .int .i64 0, .bool false]) (t := 24) sE ?_; intro gb473 hg w55 hbox hb; have BK473 := Aside0.mk hbox; have GW473 := gS w hg (lV3 GE455 GE461 GE467); have GE473 := gS w hg (lV3 GE455 GE461 GE467); replace HB := bH (lV3 GE455 GE461 GE467) hb; have NB455_473 := nL hg (bV BK455); have NB473_455 := nG hg (bV BK455); replace BK455 := bB (bV BK455) hb; have NB461_473 := nL hg (bV BK461); have NB473_461 := nG hg (bV BK461); replace BK461 := bB (bV BK461) hb; have NB467_473 := nL hg (bV BK467); have NB473_467 := nG hg (bV BK467); replace BK467 := bB (bV BK467) hb; clear hb hbox hg; have hnb56 := NB473_455.out; have hnc56 := NB455_473.out; have hnb57 := NB473_461.out; have hnc57 := NB461_473.out; have hnb58 := NB473_467.out; have hnc58 := NB467_473.out; have hcz59_0 := cz BK473 0 (.int .i64 0); have hcz59_1 := cz BK473 1 (.int .i64 0); have hcz59_2 := cz BK473 2 (.int .i64 0); have hcz59_3 := cz BK473 3 (.bool false); have hfz59_0 := fz BK473 0; have hfz59_1 := fz BK473 1; have hfz59_2 := fz BK473 2; have hfz59_3 := fz BK473 3) | ((with_reducible refine gate_store (t := 24) (p := 10) rfl ?_); refine store_event (t := 24) (p := 10) (v := ?vo_w60) (w1 := ((((w55.setCell ⟨gb473, 0, none⟩ (.int .i64 t468)).setCell ⟨gb473, 1, none⟩ (.int .i64 t469)).setCell ⟨gb473, 2, none⟩ (.int .i64 t470)).setCell ⟨gb473, 3, none⟩ (.bool t471))) ?hg ?ho ?hn ?hr ?_; (case ho => rfl); (case hg => rfl); (case hn => rfl); (case hr => first | (go_simp; done) | (go_simp; rfl) | (have hq0_ := (blk_cell BK473.out 0).trans (show _ = some _ from rfl); have hf0_ := blk_frozen BK473.out 0; have hq1_ := (blk_cell BK473.out 1).trans (show _ = some _ from rfl); have hf1_ := blk_frozen BK473.out 1; have hq2_ := (blk_cell BK473.out 2).trans (show _ = some _ from rfl); have hf2_ := blk_frozen BK473.out 2; have hq3_ := (blk_cell BK473.out 3).trans (show _ = some _ from rfl); have hf3_ := blk_frozen BK473.out 3; first | (go_simp; done) | (go_simp; rfl))); intro w60 hw; replace BK455 : Aside0 (w60.heap[gb455]? = some (.cells #[.int .i64 t451, .int .i64 t452, .int .i64 t453, .bool t454] 24 (0, 0))) := ⟨(by rw [hw]; exact (bG NB455_473 BK455))⟩; replace BK461 : Aside0 (w60.heap[gb461]? = some (.cells #[.int .i64 t456, .int .i64 t457, .int .i64 t458, .bool t459] 24 (0, 0))) := ⟨(by rw [hw]; exact (bG NB461_473 BK461))⟩; replace BK467 : Aside0 (w60.heap[gb467]? = some (.cells #[.int .i64 t462, .int .i64 t463, .int .i64 t464, .bool t465] 24 (0, 0))) := ⟨(by rw [hw]; exact (bG NB467_473 BK467))⟩; replace BK473 : Aside0 (w60.heap[gb473]? = some (.cells #[.int .i64 t468, .int .i64 t469, .int .i64 t470, .bool t471] 24 (0, 0))) := ⟨(by rw [hw]; exact (by refine bU ?_; refine blk_put (cs := #[.int .i64 t468, .int .i64 t469, .int .i64 t470, .bool false]) ?_ 3 _ rfl; refine bU ?_; refine blk_put (cs := #[.int .i64 t468, .int .i64 t469, .int .i64 0, .bool false]) ?_ 2 _ rfl; refine bU ?_; refine blk_put (cs := #[.int .i64 t468, .int .i64 0, .int .i64 0, .bool false]) ?_ 1 _ rfl; refine bU ?_; refine blk_put (cs := #[.int .i64 0, .int .i64 0, .int .i64 0, .bool false]) ?_ 0 _ rfl; refine bU ?_; exact BK473.out))⟩; replace HB : Aside0 (Below w.heap.size w w60) := ⟨(by rw [hw]; exact (lV4 GE455 GE461 GE467 GE473))⟩; clear hw; have hcz61_0 := cz BK461 0 (.int .i64 t456); have hcz61_1 := cz BK461 1 (.int .i64 t457); have hcz61_2 := cz BK461 2 (.int .i64 t458); have hcz61_3 := cz BK461 3 (.bool t459); have hfz61_0 := fz BK461 0; have hfz61_1 := fz BK461 1; have hfz61_2 := fz BK461 2; have hfz61_3 := fz BK461 3; have hcz62_0 := cz BK455 0 (.int .i64 t451); have hcz62_1 := cz BK455 1 (.int .i64 t452); have hcz62_2 := cz BK455 2 (.int .i64 t453); have hcz62_3 := cz BK455 3 (.bool t454); have hfz62_0 := fz BK455 0; have hfz62_1 := fz BK455 1; have hfz62_2 := fz BK455 2; have hfz62_3 := fz BK455 3) | ((with_reducible refine gate_callee (f := 7) rfl ?_); refine goesL_ (some 56) rfl rfl Try.func7 (by kernel_rfl) rfl #[.agg #[.int .i64 t456, .int .i64 t457, .int .i64 t458, .bool t459], .agg #[.int .i64 t451, .int .i64 t452, .int .i64 t453, .bool t454]] rfl aE ?_; (with_reducible refine (impl_JoinSpots.calls k t456 t457 t458 t459 t451 t452 t453 t454 t474 t475 t476 t477 true _ A45.out).mono ?_); rintro e w63 ⟨rfl, hb⟩; refine ⟨_, rfl, ?_⟩; replace BK455 := bB (bV BK455) hb; replace BK461 := bB (bV BK461) hb; replace BK467 := bB (bV BK467) hb; replace BK473 := bB (bV BK473) hb; replace HB := bH (lV4 GE455 GE461 GE467 GE473) hb; (try clear hb)) | ((with_reducible refine gate_dst (N := 12) rfl ?_); refine box_event rfl (N := 12) rfl (cs := #[.int .i64 0, .int .i64 0, .int .i64 0, .bool false]) (t := 24) sE ?_; intro gb479 hg w64 hbox hb; have BK479 := Aside0.mk hbox; have GW479 := gS w hg (lV4 GE455 GE461 GE467 GE473); have GE479 := gS w hg (lV4 GE455 GE461 GE467 GE473); replace HB := bH (lV4 GE455 GE461 GE467 GE473) hb; have NB455_479 := nL hg (bV BK455); have NB479_455 := nG hg (bV BK455); replace BK455 := bB (bV BK455) hb; have NB461_479 := nL hg (bV BK461); have NB479_461 := nG hg (bV BK461); replace BK461 := bB (bV BK461) hb; have NB467_479 := nL hg (bV BK467); have NB479_467 := nG hg (bV BK467); replace BK467 := bB (bV BK467) hb; have NB473_479 := nL hg (bV BK473); have NB479_473 := nG hg (bV BK473); replace BK473 := bB (bV BK473) hb; clear hb hbox hg; have hnb65 := NB479_455.out; have hnc65 := NB455_479.out; have hnb66 := NB479_461.out; have hnc66 := NB461_479.out; have hnb67 := NB479_467.out; have hnc67 := NB467_479.out; have hnb68 := NB479_473.out; have hnc68 := NB473_479.out; have hcz69_0 := cz BK479 0 (.int .i64 0); have hcz69_1 := cz BK479 1 (.int .i64 0); have hcz69_2 := cz BK479 2 (.int .i64 0); have hcz69_3 := cz BK479 3 (.bool false); have hfz69_0 := fz BK479 0; have hfz69_1 := fz BK479 1; have hfz69_2 := fz BK479 2; have hfz69_3 := fz BK479 3) | ((with_reducible refine gate_store (t := 24) (p := 12) rfl ?_); refine store_event (t := 24) (p := 12) (v := ?vo_w70) (w1 := ((((w64.setCell ⟨gb479, 0, none⟩ (.int .i64 t474)).setCell ⟨gb479, 1, none⟩ (.int .i64 t475)).setCell ⟨gb479, 2, none⟩ (.int .i64 t476)).setCell ⟨gb479, 3, none⟩ (.bool t477))) ?hg ?ho ?hn ?hr ?_; (case ho => rfl); (case hg => rfl); (case hn => rfl); (case hr => first | (go_simp; done) | (go_simp; rfl) | (have hq0_ := (blk_cell BK479.out 0).trans (show _ = some _ from rfl); have hf0_ := blk_frozen BK479.out 0; have hq1_ := (blk_cell BK479.out 1).trans (show _ = some _ from rfl); have hf1_ := blk_frozen BK479.out 1; have hq2_ := (blk_cell BK479.out 2).trans (show _ = some _ from rfl); have hf2_ := blk_frozen BK479.out 2; have hq3_ := (blk_cell BK479.out 3).trans (show _ = some _ from rfl); have hf3_ := blk_frozen BK479.out 3; first | (go_simp; done) | (go_simp; rfl))); intro w70 hw; replace BK455 : Aside0 (w70.heap[gb455]? = some (.cells #[.int .i64 t451, .int .i64 t452, .int .i64 t453, .bool t454] 24 (0, 0))) := ⟨(by rw [hw]; exact (bG NB455_479 BK455))⟩; replace BK461 : Aside0 (w70.heap[gb461]? = some (.cells #[.int .i64 t456, .int .i64 t457, .int .i64 t458, .bool t459] 24 (0, 0))) := ⟨(by rw [hw]; exact (bG NB461_479 BK461))⟩; replace BK467 : Aside0 (w70.heap[gb467]? = some (.cells #[.int .i64 t462, .int .i64 t463, .int .i64 t464, .bool t465] 24 (0, 0))) := ⟨(by rw [hw]; exact (bG NB467_479 BK467))⟩; replace BK473 : Aside0 (w70.heap[gb473]? = some (.cells #[.int .i64 t468, .int .i64 t469, .int .i64 t470, .bool t471] 24 (0, 0))) := ⟨(by rw [hw]; exact (bG NB473_479 BK473))⟩; replace BK479 : Aside0 (w70.heap[gb479]? = some (.cells #[.int .i64 t474, .int .i64 t475, .int .i64 t476, .bool t477] 24 (0, 0))) := ⟨(by rw [hw]; exact (by refine bU ?_; refine blk_put (cs := #[.int .i64 t474, .int .i64 t475, .int .i64 t476, .bool false]) ?_ 3 _ rfl; refine bU ?_; refine blk_put (cs := #[.int .i64 t474, .int .i64 t475, .int .i64 0, .bool false]) ?_ 2 _ rfl; refine bU ?_; refine blk_put (cs := #[.int .i64 t474, .int .i64 0, .int .i64 0, .bool false]) ?_ 1 _ rfl; refine bU ?_; refine blk_put (cs := #[.int .i64 0, .int .i64 0, .int .i64 0, .bool false]) ?_ 0 _ rfl; refine bU ?_; exact BK479.out))⟩; replace HB : Aside0 (Below w.heap.size w w70) := ⟨(by rw [hw]; exact (lV5 GE455 GE461 GE467 GE473 GE479))⟩; clear hw; have hcz71_0 := cz BK473 0 (.int .i64 t468); have hcz71_1 := cz BK473 1 (.int .i64 t469); have hcz71_2 := cz BK473 2 (.int .i64 t470); have hcz71_3 := cz BK473 3 (.bool t471); have hfz71_0 := fz BK473 0; have hfz71_1 := fz BK473 1; have hfz71_2 := fz BK473 2; have hfz71_3 := fz BK473 3))
        go_ret
        exact ⟨eE, lV5 GE455 GE461 GE467 GE473 GE479⟩
       ·rw [if_neg c48] at H
        have c48b0 : (!(t468 == 0) || (!(t469 == 0) || (!(t470 == 0) || (t471)))) = false := by simpa using c48
        clear c48
        (first | rw [c48b0] | (simp only [i64_w, i32_w]; rw [c48b0]) | (rw [c48b2]; simp only [Bool.not_false, Bool.not_true]) | skip)
        by_cases c72 : (!(t474 == 0) || (!(t475 == 0) || (!(t476 == 0) || (t477)))) = true
        ·rw [if_pos c72] at H
         have c72b0 : (!(t474 == 0) || (!(t475 == 0) || (!(t476 == 0) || (t477)))) = true := c72
         clear c72
         obtain rfl := Option.some.inj H
         have hnb73 := NB455_461.out
         have hnc73 := NB461_455.out
         have hnb74 := NB455_467.out
         have hnc74 := NB467_455.out
         have hcz75_0 := cz BK455 0 (.int .i64 t451)
         have hcz75_1 := cz BK455 1 (.int .i64 t452)
         have hcz75_2 := cz BK455 2 (.int .i64 t453)
         have hcz75_3 := cz BK455 3 (.bool t454)
         have hfz75_0 := fz BK455 0
         have hfz75_1 := fz BK455 1
         have hfz75_2 := fz BK455 2
         have hfz75_3 := fz BK455 3
         have hnb76 := NB461_467.out
         have hnc76 := NB467_461.out
         have hcz77_0 := cz BK461 0 (.int .i64 t456)
         have hcz77_1 := cz BK461 1 (.int .i64 t457)
         have hcz77_2 := cz BK461 2 (.int .i64 t458)
         have hcz77_3 := cz BK461 3 (.bool t459)
         have hfz77_0 := fz BK461 0
         have hfz77_1 := fz BK461 1
         have hfz77_2 := fz BK461 2
         have hfz77_3 := fz BK461 3
         go_wp2_with (first | ((with_reducible refine gate_callee (f := 7) rfl ?_); refine goesL_ (some 50) rfl rfl Try.func7 (by kernel_rfl) rfl #[.agg #[.int .i64 t451, .int .i64 t452, .int .i64 t453, .bool t454], .agg #[.int .i64 t456, .int .i64 t457, .int .i64 t458, .bool t459]] rfl aE ?_; (with_reducible refine (impl_JoinSpots.calls k t451 t452 t453 t454 t456 t457 t458 t459 t468 t469 t470 t471 true _ A44.out).mono ?_); rintro e w78 ⟨rfl, hb⟩; refine ⟨_, rfl, ?_⟩; replace BK455 := bB (bV BK455) hb; replace BK461 := bB (bV BK461) hb; replace BK467 := bB (bV BK467) hb; replace HB := bH (lV3 GE455 GE461 GE467) hb; (try clear hb)) | ((with_reducible refine gate_dst (N := 10) rfl ?_); refine box_event rfl (N := 10) rfl (cs := #[.int .i64 0, .int .i64 0, .int .i64 0, .bool false]) (t := 24) sE ?_; intro gb473 hg w79 hbox hb; have BK473 := Aside0.mk hbox; have GW473 := gS w hg (lV3 GE455 GE461 GE467); have GE473 := gS w hg (lV3 GE455 GE461 GE467); replace HB := bH (lV3 GE455 GE461 GE467) hb; have NB455_473 := nL hg (bV BK455); have NB473_455 := nG hg (bV BK455); replace BK455 := bB (bV BK455) hb; have NB461_473 := nL hg (bV BK461); have NB473_461 := nG hg (bV BK461); replace BK461 := bB (bV BK461) hb; have NB467_473 := nL hg (bV BK467); have NB473_467 := nG hg (bV BK467); replace BK467 := bB (bV BK467) hb; clear hb hbox hg; have hnb80 := NB473_455.out; have hnc80 := NB455_473.out; have hnb81 := NB473_461.out; have hnc81 := NB461_473.out; have hnb82 := NB473_467.out; have hnc82 := NB467_473.out; have hcz83_0 := cz BK473 0 (.int .i64 0); have hcz83_1 := cz BK473 1 (.int .i64 0); have hcz83_2 := cz BK473 2 (.int .i64 0); have hcz83_3 := cz BK473 3 (.bool false); have hfz83_0 := fz BK473 0; have hfz83_1 := fz BK473 1; have hfz83_2 := fz BK473 2; have hfz83_3 := fz BK473 3) | ((with_reducible refine gate_store (t := 24) (p := 10) rfl ?_); refine store_event (t := 24) (p := 10) (v := ?vo_w84) (w1 := ((((w79.setCell ⟨gb473, 0, none⟩ (.int .i64 t468)).setCell ⟨gb473, 1, none⟩ (.int .i64 t469)).setCell ⟨gb473, 2, none⟩ (.int .i64 t470)).setCell ⟨gb473, 3, none⟩ (.bool t471))) ?hg ?ho ?hn ?hr ?_; (case ho => rfl); (case hg => rfl); (case hn => rfl); (case hr => first | (go_simp; done) | (go_simp; rfl) | (have hq0_ := (blk_cell BK473.out 0).trans (show _ = some _ from rfl); have hf0_ := blk_frozen BK473.out 0; have hq1_ := (blk_cell BK473.out 1).trans (show _ = some _ from rfl); have hf1_ := blk_frozen BK473.out 1; have hq2_ := (blk_cell BK473.out 2).trans (show _ = some _ from rfl); have hf2_ := blk_frozen BK473.out 2; have hq3_ := (blk_cell BK473.out 3).trans (show _ = some _ from rfl); have hf3_ := blk_frozen BK473.out 3; first | (go_simp; done) | (go_simp; rfl))); intro w84 hw; replace BK455 : Aside0 (w84.heap[gb455]? = some (.cells #[.int .i64 t451, .int .i64 t452, .int .i64 t453, .bool t454] 24 (0, 0))) := ⟨(by rw [hw]; exact (bG NB455_473 BK455))⟩; replace BK461 : Aside0 (w84.heap[gb461]? = some (.cells #[.int .i64 t456, .int .i64 t457, .int .i64 t458, .bool t459] 24 (0, 0))) := ⟨(by rw [hw]; exact (bG NB461_473 BK461))⟩; replace BK467 : Aside0 (w84.heap[gb467]? = some (.cells #[.int .i64 t462, .int .i64 t463, .int .i64 t464, .bool t465] 24 (0, 0))) := ⟨(by rw [hw]; exact (bG NB467_473 BK467))⟩; replace BK473 : Aside0 (w84.heap[gb473]? = some (.cells #[.int .i64 t468, .int .i64 t469, .int .i64 t470, .bool t471] 24 (0, 0))) := ⟨(by rw [hw]; exact (by refine bU ?_; refine blk_put (cs := #[.int .i64 t468, .int .i64 t469, .int .i64 t470, .bool false]) ?_ 3 _ rfl; refine bU ?_; refine blk_put (cs := #[.int .i64 t468, .int .i64 t469, .int .i64 0, .bool false]) ?_ 2 _ rfl; refine bU ?_; refine blk_put (cs := #[.int .i64 t468, .int .i64 0, .int .i64 0, .bool false]) ?_ 1 _ rfl; refine bU ?_; refine blk_put (cs := #[.int .i64 0, .int .i64 0, .int .i64 0, .bool false]) ?_ 0 _ rfl; refine bU ?_; exact BK473.out))⟩; replace HB : Aside0 (Below w.heap.size w w84) := ⟨(by rw [hw]; exact (lV4 GE455 GE461 GE467 GE473))⟩; clear hw; have hcz85_0 := cz BK461 0 (.int .i64 t456); have hcz85_1 := cz BK461 1 (.int .i64 t457); have hcz85_2 := cz BK461 2 (.int .i64 t458); have hcz85_3 := cz BK461 3 (.bool t459); have hfz85_0 := fz BK461 0; have hfz85_1 := fz BK461 1; have hfz85_2 := fz BK461 2; have hfz85_3 := fz BK461 3; have hcz86_0 := cz BK455 0 (.int .i64 t451); have hcz86_1 := cz BK455 1 (.int .i64 t452); have hcz86_2 := cz BK455 2 (.int .i64 t453); have hcz86_3 := cz BK455 3 (.bool t454); have hfz86_0 := fz BK455 0; have hfz86_1 := fz BK455 1; have hfz86_2 := fz BK455 2; have hfz86_3 := fz BK455 3) | ((with_reducible refine gate_callee (f := 7) rfl ?_); refine goesL_ (some 56) rfl rfl Try.func7 (by kernel_rfl) rfl #[.agg #[.int .i64 t456, .int .i64 t457, .int .i64 t458, .bool t459], .agg #[.int .i64 t451, .int .i64 t452, .int .i64 t453, .bool t454]] rfl aE ?_; (with_reducible refine (impl_JoinSpots.calls k t456 t457 t458 t459 t451 t452 t453 t454 t474 t475 t476 t477 true _ A45.out).mono ?_); rintro e w87 ⟨rfl, hb⟩; refine ⟨_, rfl, ?_⟩; replace BK455 := bB (bV BK455) hb; replace BK461 := bB (bV BK461) hb; replace BK467 := bB (bV BK467) hb; replace BK473 := bB (bV BK473) hb; replace HB := bH (lV4 GE455 GE461 GE467 GE473) hb; (try clear hb)) | ((with_reducible refine gate_dst (N := 12) rfl ?_); refine box_event rfl (N := 12) rfl (cs := #[.int .i64 0, .int .i64 0, .int .i64 0, .bool false]) (t := 24) sE ?_; intro gb479 hg w88 hbox hb; have BK479 := Aside0.mk hbox; have GW479 := gS w hg (lV4 GE455 GE461 GE467 GE473); have GE479 := gS w hg (lV4 GE455 GE461 GE467 GE473); replace HB := bH (lV4 GE455 GE461 GE467 GE473) hb; have NB455_479 := nL hg (bV BK455); have NB479_455 := nG hg (bV BK455); replace BK455 := bB (bV BK455) hb; have NB461_479 := nL hg (bV BK461); have NB479_461 := nG hg (bV BK461); replace BK461 := bB (bV BK461) hb; have NB467_479 := nL hg (bV BK467); have NB479_467 := nG hg (bV BK467); replace BK467 := bB (bV BK467) hb; have NB473_479 := nL hg (bV BK473); have NB479_473 := nG hg (bV BK473); replace BK473 := bB (bV BK473) hb; clear hb hbox hg; have hnb89 := NB479_455.out; have hnc89 := NB455_479.out; have hnb90 := NB479_461.out; have hnc90 := NB461_479.out; have hnb91 := NB479_467.out; have hnc91 := NB467_479.out; have hnb92 := NB479_473.out; have hnc92 := NB473_479.out; have hcz93_0 := cz BK479 0 (.int .i64 0); have hcz93_1 := cz BK479 1 (.int .i64 0); have hcz93_2 := cz BK479 2 (.int .i64 0); have hcz93_3 := cz BK479 3 (.bool false); have hfz93_0 := fz BK479 0; have hfz93_1 := fz BK479 1; have hfz93_2 := fz BK479 2; have hfz93_3 := fz BK479 3) | ((with_reducible refine gate_store (t := 24) (p := 12) rfl ?_); refine store_event (t := 24) (p := 12) (v := ?vo_w94) (w1 := ((((w88.setCell ⟨gb479, 0, none⟩ (.int .i64 t474)).setCell ⟨gb479, 1, none⟩ (.int .i64 t475)).setCell ⟨gb479, 2, none⟩ (.int .i64 t476)).setCell ⟨gb479, 3, none⟩ (.bool t477))) ?hg ?ho ?hn ?hr ?_; (case ho => rfl); (case hg => rfl); (case hn => rfl); (case hr => first | (go_simp; done) | (go_simp; rfl) | (have hq0_ := (blk_cell BK479.out 0).trans (show _ = some _ from rfl); have hf0_ := blk_frozen BK479.out 0; have hq1_ := (blk_cell BK479.out 1).trans (show _ = some _ from rfl); have hf1_ := blk_frozen BK479.out 1; have hq2_ := (blk_cell BK479.out 2).trans (show _ = some _ from rfl); have hf2_ := blk_frozen BK479.out 2; have hq3_ := (blk_cell BK479.out 3).trans (show _ = some _ from rfl); have hf3_ := blk_frozen BK479.out 3; first | (go_simp; done) | (go_simp; rfl))); intro w94 hw; replace BK455 : Aside0 (w94.heap[gb455]? = some (.cells #[.int .i64 t451, .int .i64 t452, .int .i64 t453, .bool t454] 24 (0, 0))) := ⟨(by rw [hw]; exact (bG NB455_479 BK455))⟩; replace BK461 : Aside0 (w94.heap[gb461]? = some (.cells #[.int .i64 t456, .int .i64 t457, .int .i64 t458, .bool t459] 24 (0, 0))) := ⟨(by rw [hw]; exact (bG NB461_479 BK461))⟩; replace BK467 : Aside0 (w94.heap[gb467]? = some (.cells #[.int .i64 t462, .int .i64 t463, .int .i64 t464, .bool t465] 24 (0, 0))) := ⟨(by rw [hw]; exact (bG NB467_479 BK467))⟩; replace BK473 : Aside0 (w94.heap[gb473]? = some (.cells #[.int .i64 t468, .int .i64 t469, .int .i64 t470, .bool t471] 24 (0, 0))) := ⟨(by rw [hw]; exact (bG NB473_479 BK473))⟩; replace BK479 : Aside0 (w94.heap[gb479]? = some (.cells #[.int .i64 t474, .int .i64 t475, .int .i64 t476, .bool t477] 24 (0, 0))) := ⟨(by rw [hw]; exact (by refine bU ?_; refine blk_put (cs := #[.int .i64 t474, .int .i64 t475, .int .i64 t476, .bool false]) ?_ 3 _ rfl; refine bU ?_; refine blk_put (cs := #[.int .i64 t474, .int .i64 t475, .int .i64 0, .bool false]) ?_ 2 _ rfl; refine bU ?_; refine blk_put (cs := #[.int .i64 t474, .int .i64 0, .int .i64 0, .bool false]) ?_ 1 _ rfl; refine bU ?_; refine blk_put (cs := #[.int .i64 0, .int .i64 0, .int .i64 0, .bool false]) ?_ 0 _ rfl; refine bU ?_; exact BK479.out))⟩; replace HB : Aside0 (Below w.heap.size w w94) := ⟨(by rw [hw]; exact (lV5 GE455 GE461 GE467 GE473 GE479))⟩; clear hw; have hcz95_0 := cz BK473 0 (.int .i64 t468); have hcz95_1 := cz BK473 1 (.int .i64 t469); have hcz95_2 := cz BK473 2 (.int .i64 t470); have hcz95_3 := cz BK473 3 (.bool t471); have hfz95_0 := fz BK473 0; have hfz95_1 := fz BK473 1; have hfz95_2 := fz BK473 2; have hfz95_3 := fz BK473 3; have hcz96_0 := cz BK479 0 (.int .i64 t474); have hcz96_1 := cz BK479 1 (.int .i64 t475); have hcz96_2 := cz BK479 2 (.int .i64 t476); have hcz96_3 := cz BK479 3 (.bool t477); have hfz96_0 := fz BK479 0; have hfz96_1 := fz BK479 1; have hfz96_2 := fz BK479 2; have hfz96_3 := fz BK479 3))
         go_ret
         exact ⟨eE, lV5 GE455 GE461 GE467 GE473 GE479⟩
        ·rw [if_neg c72] at H
         have c72b0 : (!(t474 == 0) || (!(t475 == 0) || (!(t476 == 0) || (t477)))) = false := by simpa using c72
         clear c72
         have H' := Aside0.mk H
         clear H
         have hnb97 := NB455_461.out
         have hnc97 := NB461_455.out
         have hnb98 := NB455_467.out
         have hnc98 := NB467_455.out
         have hcz99_0 := cz BK455 0 (.int .i64 t451)
         have hcz99_1 := cz BK455 1 (.int .i64 t452)
         have hcz99_2 := cz BK455 2 (.int .i64 t453)
         have hcz99_3 := cz BK455 3 (.bool t454)
         have hfz99_0 := fz BK455 0
         have hfz99_1 := fz BK455 1
         have hfz99_2 := fz BK455 2
         have hfz99_3 := fz BK455 3
         have hnb100 := NB461_467.out
         have hnc100 := NB467_461.out
         have hcz101_0 := cz BK461 0 (.int .i64 t456)
         have hcz101_1 := cz BK461 1 (.int .i64 t457)
         have hcz101_2 := cz BK461 2 (.int .i64 t458)
         have hcz101_3 := cz BK461 3 (.bool t459)
         have hfz101_0 := fz BK461 0
         have hfz101_1 := fz BK461 1
         have hfz101_2 := fz BK461 2
         have hfz101_3 := fz BK461 3
         go_wp2_with (first | ((with_reducible refine gate_callee (f := 7) rfl ?_); refine goesL_ (some 50) rfl rfl Try.func7 (by kernel_rfl) rfl #[.agg #[.int .i64 t451, .int .i64 t452, .int .i64 t453, .bool t454], .agg #[.int .i64 t456, .int .i64 t457, .int .i64 t458, .bool t459]] rfl aE ?_; (with_reducible refine (impl_JoinSpots.calls k t451 t452 t453 t454 t456 t457 t458 t459 t468 t469 t470 t471 true _ A44.out).mono ?_); rintro e w102 ⟨rfl, hb⟩; refine ⟨_, rfl, ?_⟩; replace BK455 := bB (bV BK455) hb; replace BK461 := bB (bV BK461) hb; replace BK467 := bB (bV BK467) hb; replace HB := bH (lV3 GE455 GE461 GE467) hb; (try clear hb)) | ((with_reducible refine gate_dst (N := 10) rfl ?_); refine box_event rfl (N := 10) rfl (cs := #[.int .i64 0, .int .i64 0, .int .i64 0, .bool false]) (t := 24) sE ?_; intro gb473 hg w103 hbox hb; have BK473 := Aside0.mk hbox; have GW473 := gS w hg (lV3 GE455 GE461 GE467); have GE473 := gS w hg (lV3 GE455 GE461 GE467); replace HB := bH (lV3 GE455 GE461 GE467) hb; have NB455_473 := nL hg (bV BK455); have NB473_455 := nG hg (bV BK455); replace BK455 := bB (bV BK455) hb; have NB461_473 := nL hg (bV BK461); have NB473_461 := nG hg (bV BK461); replace BK461 := bB (bV BK461) hb; have NB467_473 := nL hg (bV BK467); have NB473_467 := nG hg (bV BK467); replace BK467 := bB (bV BK467) hb; clear hb hbox hg; have hnb104 := NB473_455.out; have hnc104 := NB455_473.out; have hnb105 := NB473_461.out; have hnc105 := NB461_473.out; have hnb106 := NB473_467.out; have hnc106 := NB467_473.out; have hcz107_0 := cz BK473 0 (.int .i64 0); have hcz107_1 := cz BK473 1 (.int .i64 0); have hcz107_2 := cz BK473 2 (.int .i64 0); have hcz107_3 := cz BK473 3 (.bool false); have hfz107_0 := fz BK473 0; have hfz107_1 := fz BK473 1; have hfz107_2 := fz BK473 2; have hfz107_3 := fz BK473 3) | ((with_reducible refine gate_store (t := 24) (p := 10) rfl ?_); refine store_event (t := 24) (p := 10) (v := ?vo_w108) (w1 := ((((w103.setCell ⟨gb473, 0, none⟩ (.int .i64 t468)).setCell ⟨gb473, 1, none⟩ (.int .i64 t469)).setCell ⟨gb473, 2, none⟩ (.int .i64 t470)).setCell ⟨gb473, 3, none⟩ (.bool t471))) ?hg ?ho ?hn ?hr ?_; (case ho => rfl); (case hg => rfl); (case hn => rfl); (case hr => first | (go_simp; done) | (go_simp; rfl) | (have hq0_ := (blk_cell BK473.out 0).trans (show _ = some _ from rfl); have hf0_ := blk_frozen BK473.out 0; have hq1_ := (blk_cell BK473.out 1).trans (show _ = some _ from rfl); have hf1_ := blk_frozen BK473.out 1; have hq2_ := (blk_cell BK473.out 2).trans (show _ = some _ from rfl); have hf2_ := blk_frozen BK473.out 2; have hq3_ := (blk_cell BK473.out 3).trans (show _ = some _ from rfl); have hf3_ := blk_frozen BK473.out 3; first | (go_simp; done) | (go_simp; rfl))); intro w108 hw; replace BK455 : Aside0 (w108.heap[gb455]? = some (.cells #[.int .i64 t451, .int .i64 t452, .int .i64 t453, .bool t454] 24 (0, 0))) := ⟨(by rw [hw]; exact (bG NB455_473 BK455))⟩; replace BK461 : Aside0 (w108.heap[gb461]? = some (.cells #[.int .i64 t456, .int .i64 t457, .int .i64 t458, .bool t459] 24 (0, 0))) := ⟨(by rw [hw]; exact (bG NB461_473 BK461))⟩; replace BK467 : Aside0 (w108.heap[gb467]? = some (.cells #[.int .i64 t462, .int .i64 t463, .int .i64 t464, .bool t465] 24 (0, 0))) := ⟨(by rw [hw]; exact (bG NB467_473 BK467))⟩; replace BK473 : Aside0 (w108.heap[gb473]? = some (.cells #[.int .i64 t468, .int .i64 t469, .int .i64 t470, .bool t471] 24 (0, 0))) := ⟨(by rw [hw]; exact (by refine bU ?_; refine blk_put (cs := #[.int .i64 t468, .int .i64 t469, .int .i64 t470, .bool false]) ?_ 3 _ rfl; refine bU ?_; refine blk_put (cs := #[.int .i64 t468, .int .i64 t469, .int .i64 0, .bool false]) ?_ 2 _ rfl; refine bU ?_; refine blk_put (cs := #[.int .i64 t468, .int .i64 0, .int .i64 0, .bool false]) ?_ 1 _ rfl; refine bU ?_; refine blk_put (cs := #[.int .i64 0, .int .i64 0, .int .i64 0, .bool false]) ?_ 0 _ rfl; refine bU ?_; exact BK473.out))⟩; replace HB : Aside0 (Below w.heap.size w w108) := ⟨(by rw [hw]; exact (lV4 GE455 GE461 GE467 GE473))⟩; clear hw; have hcz109_0 := cz BK461 0 (.int .i64 t456); have hcz109_1 := cz BK461 1 (.int .i64 t457); have hcz109_2 := cz BK461 2 (.int .i64 t458); have hcz109_3 := cz BK461 3 (.bool t459); have hfz109_0 := fz BK461 0; have hfz109_1 := fz BK461 1; have hfz109_2 := fz BK461 2; have hfz109_3 := fz BK461 3; have hcz110_0 := cz BK455 0 (.int .i64 t451); have hcz110_1 := cz BK455 1 (.int .i64 t452); have hcz110_2 := cz BK455 2 (.int .i64 t453); have hcz110_3 := cz BK455 3 (.bool t454); have hfz110_0 := fz BK455 0; have hfz110_1 := fz BK455 1; have hfz110_2 := fz BK455 2; have hfz110_3 := fz BK455 3) | ((with_reducible refine gate_callee (f := 7) rfl ?_); refine goesL_ (some 56) rfl rfl Try.func7 (by kernel_rfl) rfl #[.agg #[.int .i64 t456, .int .i64 t457, .int .i64 t458, .bool t459], .agg #[.int .i64 t451, .int .i64 t452, .int .i64 t453, .bool t454]] rfl aE ?_; (with_reducible refine (impl_JoinSpots.calls k t456 t457 t458 t459 t451 t452 t453 t454 t474 t475 t476 t477 true _ A45.out).mono ?_); rintro e w111 ⟨rfl, hb⟩; refine ⟨_, rfl, ?_⟩; replace BK455 := bB (bV BK455) hb; replace BK461 := bB (bV BK461) hb; replace BK467 := bB (bV BK467) hb; replace BK473 := bB (bV BK473) hb; replace HB := bH (lV4 GE455 GE461 GE467 GE473) hb; (try clear hb)) | ((with_reducible refine gate_dst (N := 12) rfl ?_); refine box_event rfl (N := 12) rfl (cs := #[.int .i64 0, .int .i64 0, .int .i64 0, .bool false]) (t := 24) sE ?_; intro gb479 hg w112 hbox hb; have BK479 := Aside0.mk hbox; have GW479 := gS w hg (lV4 GE455 GE461 GE467 GE473); have GE479 := gS w hg (lV4 GE455 GE461 GE467 GE473); replace HB := bH (lV4 GE455 GE461 GE467 GE473) hb; have NB455_479 := nL hg (bV BK455); have NB479_455 := nG hg (bV BK455); replace BK455 := bB (bV BK455) hb; have NB461_479 := nL hg (bV BK461); have NB479_461 := nG hg (bV BK461); replace BK461 := bB (bV BK461) hb; have NB467_479 := nL hg (bV BK467); have NB479_467 := nG hg (bV BK467); replace BK467 := bB (bV BK467) hb; have NB473_479 := nL hg (bV BK473); have NB479_473 := nG hg (bV BK473); replace BK473 := bB (bV BK473) hb; clear hb hbox hg; have hnb113 := NB479_455.out; have hnc113 := NB455_479.out; have hnb114 := NB479_461.out; have hnc114 := NB461_479.out; have hnb115 := NB479_467.out; have hnc115 := NB467_479.out; have hnb116 := NB479_473.out; have hnc116 := NB473_479.out; have hcz117_0 := cz BK479 0 (.int .i64 0); have hcz117_1 := cz BK479 1 (.int .i64 0); have hcz117_2 := cz BK479 2 (.int .i64 0); have hcz117_3 := cz BK479 3 (.bool false); have hfz117_0 := fz BK479 0; have hfz117_1 := fz BK479 1; have hfz117_2 := fz BK479 2; have hfz117_3 := fz BK479 3) | ((with_reducible refine gate_store (t := 24) (p := 12) rfl ?_); refine store_event (t := 24) (p := 12) (v := ?vo_w118) (w1 := ((((w112.setCell ⟨gb479, 0, none⟩ (.int .i64 t474)).setCell ⟨gb479, 1, none⟩ (.int .i64 t475)).setCell ⟨gb479, 2, none⟩ (.int .i64 t476)).setCell ⟨gb479, 3, none⟩ (.bool t477))) ?hg ?ho ?hn ?hr ?_; (case ho => rfl); (case hg => rfl); (case hn => rfl); (case hr => first | (go_simp; done) | (go_simp; rfl) | (have hq0_ := (blk_cell BK479.out 0).trans (show _ = some _ from rfl); have hf0_ := blk_frozen BK479.out 0; have hq1_ := (blk_cell BK479.out 1).trans (show _ = some _ from rfl); have hf1_ := blk_frozen BK479.out 1; have hq2_ := (blk_cell BK479.out 2).trans (show _ = some _ from rfl); have hf2_ := blk_frozen BK479.out 2; have hq3_ := (blk_cell BK479.out 3).trans (show _ = some _ from rfl); have hf3_ := blk_frozen BK479.out 3; first | (go_simp; done) | (go_simp; rfl))); intro w118 hw; replace BK455 : Aside0 (w118.heap[gb455]? = some (.cells #[.int .i64 t451, .int .i64 t452, .int .i64 t453, .bool t454] 24 (0, 0))) := ⟨(by rw [hw]; exact (bG NB455_479 BK455))⟩; replace BK461 : Aside0 (w118.heap[gb461]? = some (.cells #[.int .i64 t456, .int .i64 t457, .int .i64 t458, .bool t459] 24 (0, 0))) := ⟨(by rw [hw]; exact (bG NB461_479 BK461))⟩; replace BK467 : Aside0 (w118.heap[gb467]? = some (.cells #[.int .i64 t462, .int .i64 t463, .int .i64 t464, .bool t465] 24 (0, 0))) := ⟨(by rw [hw]; exact (bG NB467_479 BK467))⟩; replace BK473 : Aside0 (w118.heap[gb473]? = some (.cells #[.int .i64 t468, .int .i64 t469, .int .i64 t470, .bool t471] 24 (0, 0))) := ⟨(by rw [hw]; exact (bG NB473_479 BK473))⟩; replace BK479 : Aside0 (w118.heap[gb479]? = some (.cells #[.int .i64 t474, .int .i64 t475, .int .i64 t476, .bool t477] 24 (0, 0))) := ⟨(by rw [hw]; exact (by refine bU ?_; refine blk_put (cs := #[.int .i64 t474, .int .i64 t475, .int .i64 t476, .bool false]) ?_ 3 _ rfl; refine bU ?_; refine blk_put (cs := #[.int .i64 t474, .int .i64 t475, .int .i64 0, .bool false]) ?_ 2 _ rfl; refine bU ?_; refine blk_put (cs := #[.int .i64 t474, .int .i64 0, .int .i64 0, .bool false]) ?_ 1 _ rfl; refine bU ?_; refine blk_put (cs := #[.int .i64 0, .int .i64 0, .int .i64 0, .bool false]) ?_ 0 _ rfl; refine bU ?_; exact BK479.out))⟩; replace HB : Aside0 (Below w.heap.size w w118) := ⟨(by rw [hw]; exact (lV5 GE455 GE461 GE467 GE473 GE479))⟩; clear hw; have hcz119_0 := cz BK473 0 (.int .i64 t468); have hcz119_1 := cz BK473 1 (.int .i64 t469); have hcz119_2 := cz BK473 2 (.int .i64 t470); have hcz119_3 := cz BK473 3 (.bool t471); have hfz119_0 := fz BK473 0; have hfz119_1 := fz BK473 1; have hfz119_2 := fz BK473 2; have hfz119_3 := fz BK473 3; have hcz120_0 := cz BK479 0 (.int .i64 t474); have hcz120_1 := cz BK479 1 (.int .i64 t475); have hcz120_2 := cz BK479 2 (.int .i64 t476); have hcz120_3 := cz BK479 3 (.bool t477); have hfz120_0 := fz BK479 0; have hfz120_1 := fz BK479 1; have hfz120_2 := fz BK479 2; have hfz120_3 := fz BK479 3))
         go_meet
         case rel => exact ⟨_, H', ⟨by first | omega | exact Nat.le_refl _⟩, ⟨by refine bU ?_; exact BK455.out⟩, ⟨by refine bU ?_; exact BK461.out⟩, ⟨by refine bU ?_; exact BK467.out⟩, ⟨by repeat (first | (with_reducible first | exact HB.out | apply below_alloc | apply pw_below_drewN | apply below_drew1 | refine below_set ?_ GE455.out | refine below_set ?_ GE461.out | refine below_set ?_ GE467.out | refine below_set ?_ GE473.out | refine below_set ?_ GE479.out) | exact HB.out)⟩⟩
      ·replace c47 := Bool.eq_false_iff.mpr c47
       subst c47
       have H1 : (some false) = some r := by rw [if_neg (show ¬ (false = true) by decide)] at H; exact H
       clear H
       have H := H1
       clear H1
       obtain rfl := Option.some.inj H
       have hnb121 := NB455_461.out
       have hnc121 := NB461_455.out
       have hnb122 := NB455_467.out
       have hnc122 := NB467_455.out
       have hcz123_0 := cz BK455 0 (.int .i64 t451)
       have hcz123_1 := cz BK455 1 (.int .i64 t452)
       have hcz123_2 := cz BK455 2 (.int .i64 t453)
       have hcz123_3 := cz BK455 3 (.bool t454)
       have hfz123_0 := fz BK455 0
       have hfz123_1 := fz BK455 1
       have hfz123_2 := fz BK455 2
       have hfz123_3 := fz BK455 3
       have hnb124 := NB461_467.out
       have hnc124 := NB467_461.out
       have hcz125_0 := cz BK461 0 (.int .i64 t456)
       have hcz125_1 := cz BK461 1 (.int .i64 t457)
       have hcz125_2 := cz BK461 2 (.int .i64 t458)
       have hcz125_3 := cz BK461 3 (.bool t459)
       have hfz125_0 := fz BK461 0
       have hfz125_1 := fz BK461 1
       have hfz125_2 := fz BK461 2
       have hfz125_3 := fz BK461 3
       go_wp2_with (first | ((with_reducible refine gate_callee (f := 7) rfl ?_); refine goesL_ (some 50) rfl rfl Try.func7 (by kernel_rfl) rfl #[.agg #[.int .i64 t451, .int .i64 t452, .int .i64 t453, .bool t454], .agg #[.int .i64 t456, .int .i64 t457, .int .i64 t458, .bool t459]] rfl aE ?_; (with_reducible refine (impl_JoinSpots.calls k t451 t452 t453 t454 t456 t457 t458 t459 t468 t469 t470 t471 true _ A44.out).mono ?_); rintro e w126 ⟨rfl, hb⟩; refine ⟨_, rfl, ?_⟩; replace BK455 := bB (bV BK455) hb; replace BK461 := bB (bV BK461) hb; replace BK467 := bB (bV BK467) hb; replace HB := bH (lV3 GE455 GE461 GE467) hb; (try clear hb)) | ((with_reducible refine gate_dst (N := 10) rfl ?_); refine box_event rfl (N := 10) rfl (cs := #[.int .i64 0, .int .i64 0, .int .i64 0, .bool false]) (t := 24) sE ?_; intro gb473 hg w127 hbox hb; have BK473 := Aside0.mk hbox; have GW473 := gS w hg (lV3 GE455 GE461 GE467); have GE473 := gS w hg (lV3 GE455 GE461 GE467); replace HB := bH (lV3 GE455 GE461 GE467) hb; have NB455_473 := nL hg (bV BK455); have NB473_455 := nG hg (bV BK455); replace BK455 := bB (bV BK455) hb; have NB461_473 := nL hg (bV BK461); have NB473_461 := nG hg (bV BK461); replace BK461 := bB (bV BK461) hb; have NB467_473 := nL hg (bV BK467); have NB473_467 := nG hg (bV BK467); replace BK467 := bB (bV BK467) hb; clear hb hbox hg; have hnb128 := NB473_455.out; have hnc128 := NB455_473.out; have hnb129 := NB473_461.out; have hnc129 := NB461_473.out; have hnb130 := NB473_467.out; have hnc130 := NB467_473.out; have hcz131_0 := cz BK473 0 (.int .i64 0); have hcz131_1 := cz BK473 1 (.int .i64 0); have hcz131_2 := cz BK473 2 (.int .i64 0); have hcz131_3 := cz BK473 3 (.bool false); have hfz131_0 := fz BK473 0; have hfz131_1 := fz BK473 1; have hfz131_2 := fz BK473 2; have hfz131_3 := fz BK473 3) | ((with_reducible refine gate_store (t := 24) (p := 10) rfl ?_); refine store_event (t := 24) (p := 10) (v := ?vo_w132) (w1 := ((((w127.setCell ⟨gb473, 0, none⟩ (.int .i64 t468)).setCell ⟨gb473, 1, none⟩ (.int .i64 t469)).setCell ⟨gb473, 2, none⟩ (.int .i64 t470)).setCell ⟨gb473, 3, none⟩ (.bool t471))) ?hg ?ho ?hn ?hr ?_; (case ho => rfl); (case hg => rfl); (case hn => rfl); (case hr => first | (go_simp; done) | (go_simp; rfl) | (have hq0_ := (blk_cell BK473.out 0).trans (show _ = some _ from rfl); have hf0_ := blk_frozen BK473.out 0; have hq1_ := (blk_cell BK473.out 1).trans (show _ = some _ from rfl); have hf1_ := blk_frozen BK473.out 1; have hq2_ := (blk_cell BK473.out 2).trans (show _ = some _ from rfl); have hf2_ := blk_frozen BK473.out 2; have hq3_ := (blk_cell BK473.out 3).trans (show _ = some _ from rfl); have hf3_ := blk_frozen BK473.out 3; first | (go_simp; done) | (go_simp; rfl))); intro w132 hw; replace BK455 : Aside0 (w132.heap[gb455]? = some (.cells #[.int .i64 t451, .int .i64 t452, .int .i64 t453, .bool t454] 24 (0, 0))) := ⟨(by rw [hw]; exact (bG NB455_473 BK455))⟩; replace BK461 : Aside0 (w132.heap[gb461]? = some (.cells #[.int .i64 t456, .int .i64 t457, .int .i64 t458, .bool t459] 24 (0, 0))) := ⟨(by rw [hw]; exact (bG NB461_473 BK461))⟩; replace BK467 : Aside0 (w132.heap[gb467]? = some (.cells #[.int .i64 t462, .int .i64 t463, .int .i64 t464, .bool t465] 24 (0, 0))) := ⟨(by rw [hw]; exact (bG NB467_473 BK467))⟩; replace BK473 : Aside0 (w132.heap[gb473]? = some (.cells #[.int .i64 t468, .int .i64 t469, .int .i64 t470, .bool t471] 24 (0, 0))) := ⟨(by rw [hw]; exact (by refine bU ?_; refine blk_put (cs := #[.int .i64 t468, .int .i64 t469, .int .i64 t470, .bool false]) ?_ 3 _ rfl; refine bU ?_; refine blk_put (cs := #[.int .i64 t468, .int .i64 t469, .int .i64 0, .bool false]) ?_ 2 _ rfl; refine bU ?_; refine blk_put (cs := #[.int .i64 t468, .int .i64 0, .int .i64 0, .bool false]) ?_ 1 _ rfl; refine bU ?_; refine blk_put (cs := #[.int .i64 0, .int .i64 0, .int .i64 0, .bool false]) ?_ 0 _ rfl; refine bU ?_; exact BK473.out))⟩; replace HB : Aside0 (Below w.heap.size w w132) := ⟨(by rw [hw]; exact (lV4 GE455 GE461 GE467 GE473))⟩; clear hw; have hcz133_0 := cz BK461 0 (.int .i64 t456); have hcz133_1 := cz BK461 1 (.int .i64 t457); have hcz133_2 := cz BK461 2 (.int .i64 t458); have hcz133_3 := cz BK461 3 (.bool t459); have hfz133_0 := fz BK461 0; have hfz133_1 := fz BK461 1; have hfz133_2 := fz BK461 2; have hfz133_3 := fz BK461 3; have hcz134_0 := cz BK455 0 (.int .i64 t451); have hcz134_1 := cz BK455 1 (.int .i64 t452); have hcz134_2 := cz BK455 2 (.int .i64 t453); have hcz134_3 := cz BK455 3 (.bool t454); have hfz134_0 := fz BK455 0; have hfz134_1 := fz BK455 1; have hfz134_2 := fz BK455 2; have hfz134_3 := fz BK455 3) | ((with_reducible refine gate_callee (f := 7) rfl ?_); refine goesL_ (some 56) rfl rfl Try.func7 (by kernel_rfl) rfl #[.agg #[.int .i64 t456, .int .i64 t457, .int .i64 t458, .bool t459], .agg #[.int .i64 t451, .int .i64 t452, .int .i64 t453, .bool t454]] rfl aE ?_; (with_reducible refine (impl_JoinSpots.calls k t456 t457 t458 t459 t451 t452 t453 t454 t474 t475 t476 t477 false _ A45.out).mono ?_); rintro e w135 ⟨rfl, hb⟩; refine ⟨_, rfl, ?_⟩; replace BK455 := bB (bV BK455) hb; replace BK461 := bB (bV BK461) hb; replace BK467 := bB (bV BK467) hb; replace BK473 := bB (bV BK473) hb; replace HB := bH (lV4 GE455 GE461 GE467 GE473) hb; (try clear hb)) | ((with_reducible refine gate_dst (N := 12) rfl ?_); refine box_event rfl (N := 12) rfl (cs := #[.int .i64 0, .int .i64 0, .int .i64 0, .bool false]) (t := 24) sE ?_; intro gb479 hg w136 hbox hb; have BK479 := Aside0.mk hbox; have GW479 := gS w hg (lV4 GE455 GE461 GE467 GE473); have GE479 := gS w hg (lV4 GE455 GE461 GE467 GE473); replace HB := bH (lV4 GE455 GE461 GE467 GE473) hb; have NB455_479 := nL hg (bV BK455); have NB479_455 := nG hg (bV BK455); replace BK455 := bB (bV BK455) hb; have NB461_479 := nL hg (bV BK461); have NB479_461 := nG hg (bV BK461); replace BK461 := bB (bV BK461) hb; have NB467_479 := nL hg (bV BK467); have NB479_467 := nG hg (bV BK467); replace BK467 := bB (bV BK467) hb; have NB473_479 := nL hg (bV BK473); have NB479_473 := nG hg (bV BK473); replace BK473 := bB (bV BK473) hb; clear hb hbox hg; have hnb137 := NB479_455.out; have hnc137 := NB455_479.out; have hnb138 := NB479_461.out; have hnc138 := NB461_479.out; have hnb139 := NB479_467.out; have hnc139 := NB467_479.out; have hnb140 := NB479_473.out; have hnc140 := NB473_479.out; have hcz141_0 := cz BK479 0 (.int .i64 0); have hcz141_1 := cz BK479 1 (.int .i64 0); have hcz141_2 := cz BK479 2 (.int .i64 0); have hcz141_3 := cz BK479 3 (.bool false); have hfz141_0 := fz BK479 0; have hfz141_1 := fz BK479 1; have hfz141_2 := fz BK479 2; have hfz141_3 := fz BK479 3) | ((with_reducible refine gate_store (t := 24) (p := 12) rfl ?_); refine store_event (t := 24) (p := 12) (v := ?vo_w142) (w1 := ((((w136.setCell ⟨gb479, 0, none⟩ (.int .i64 t474)).setCell ⟨gb479, 1, none⟩ (.int .i64 t475)).setCell ⟨gb479, 2, none⟩ (.int .i64 t476)).setCell ⟨gb479, 3, none⟩ (.bool t477))) ?hg ?ho ?hn ?hr ?_; (case ho => rfl); (case hg => rfl); (case hn => rfl); (case hr => first | (go_simp; done) | (go_simp; rfl) | (have hq0_ := (blk_cell BK479.out 0).trans (show _ = some _ from rfl); have hf0_ := blk_frozen BK479.out 0; have hq1_ := (blk_cell BK479.out 1).trans (show _ = some _ from rfl); have hf1_ := blk_frozen BK479.out 1; have hq2_ := (blk_cell BK479.out 2).trans (show _ = some _ from rfl); have hf2_ := blk_frozen BK479.out 2; have hq3_ := (blk_cell BK479.out 3).trans (show _ = some _ from rfl); have hf3_ := blk_frozen BK479.out 3; first | (go_simp; done) | (go_simp; rfl))); intro w142 hw; replace BK455 : Aside0 (w142.heap[gb455]? = some (.cells #[.int .i64 t451, .int .i64 t452, .int .i64 t453, .bool t454] 24 (0, 0))) := ⟨(by rw [hw]; exact (bG NB455_479 BK455))⟩; replace BK461 : Aside0 (w142.heap[gb461]? = some (.cells #[.int .i64 t456, .int .i64 t457, .int .i64 t458, .bool t459] 24 (0, 0))) := ⟨(by rw [hw]; exact (bG NB461_479 BK461))⟩; replace BK467 : Aside0 (w142.heap[gb467]? = some (.cells #[.int .i64 t462, .int .i64 t463, .int .i64 t464, .bool t465] 24 (0, 0))) := ⟨(by rw [hw]; exact (bG NB467_479 BK467))⟩; replace BK473 : Aside0 (w142.heap[gb473]? = some (.cells #[.int .i64 t468, .int .i64 t469, .int .i64 t470, .bool t471] 24 (0, 0))) := ⟨(by rw [hw]; exact (bG NB473_479 BK473))⟩; replace BK479 : Aside0 (w142.heap[gb479]? = some (.cells #[.int .i64 t474, .int .i64 t475, .int .i64 t476, .bool t477] 24 (0, 0))) := ⟨(by rw [hw]; exact (by refine bU ?_; refine blk_put (cs := #[.int .i64 t474, .int .i64 t475, .int .i64 t476, .bool false]) ?_ 3 _ rfl; refine bU ?_; refine blk_put (cs := #[.int .i64 t474, .int .i64 t475, .int .i64 0, .bool false]) ?_ 2 _ rfl; refine bU ?_; refine blk_put (cs := #[.int .i64 t474, .int .i64 0, .int .i64 0, .bool false]) ?_ 1 _ rfl; refine bU ?_; refine blk_put (cs := #[.int .i64 0, .int .i64 0, .int .i64 0, .bool false]) ?_ 0 _ rfl; refine bU ?_; exact BK479.out))⟩; replace HB : Aside0 (Below w.heap.size w w142) := ⟨(by rw [hw]; exact (lV5 GE455 GE461 GE467 GE473 GE479))⟩; clear hw))
       go_ret
       exact ⟨eE, lV5 GE455 GE461 GE467 GE473 GE479⟩
     ·replace c46 := Bool.eq_false_iff.mpr c46
      subst c46
      have H1 : (some false) = some r := by rw [if_neg (show ¬ (false = true) by decide)] at H; exact H
      clear H
      have H := H1
      clear H1
      obtain rfl := Option.some.inj H
      have hnb143 := NB455_461.out
      have hnc143 := NB461_455.out
      have hnb144 := NB455_467.out
      have hnc144 := NB467_455.out
      have hcz145_0 := cz BK455 0 (.int .i64 t451)
      have hcz145_1 := cz BK455 1 (.int .i64 t452)
      have hcz145_2 := cz BK455 2 (.int .i64 t453)
      have hcz145_3 := cz BK455 3 (.bool t454)
      have hfz145_0 := fz BK455 0
      have hfz145_1 := fz BK455 1
      have hfz145_2 := fz BK455 2
      have hfz145_3 := fz BK455 3
      have hnb146 := NB461_467.out
      have hnc146 := NB467_461.out
      have hcz147_0 := cz BK461 0 (.int .i64 t456)
      have hcz147_1 := cz BK461 1 (.int .i64 t457)
      have hcz147_2 := cz BK461 2 (.int .i64 t458)
      have hcz147_3 := cz BK461 3 (.bool t459)
      have hfz147_0 := fz BK461 0
      have hfz147_1 := fz BK461 1
      have hfz147_2 := fz BK461 2
      have hfz147_3 := fz BK461 3
      go_wp2_with (first | ((with_reducible refine gate_callee (f := 7) rfl ?_); refine goesL_ (some 50) rfl rfl Try.func7 (by kernel_rfl) rfl #[.agg #[.int .i64 t451, .int .i64 t452, .int .i64 t453, .bool t454], .agg #[.int .i64 t456, .int .i64 t457, .int .i64 t458, .bool t459]] rfl aE ?_; (with_reducible refine (impl_JoinSpots.calls k t451 t452 t453 t454 t456 t457 t458 t459 t468 t469 t470 t471 false _ A44.out).mono ?_); rintro e w148 ⟨rfl, hb⟩; refine ⟨_, rfl, ?_⟩; replace BK455 := bB (bV BK455) hb; replace BK461 := bB (bV BK461) hb; replace BK467 := bB (bV BK467) hb; replace HB := bH (lV3 GE455 GE461 GE467) hb; (try clear hb)) | ((with_reducible refine gate_dst (N := 10) rfl ?_); refine box_event rfl (N := 10) rfl (cs := #[.int .i64 0, .int .i64 0, .int .i64 0, .bool false]) (t := 24) sE ?_; intro gb473 hg w149 hbox hb; have BK473 := Aside0.mk hbox; have GW473 := gS w hg (lV3 GE455 GE461 GE467); have GE473 := gS w hg (lV3 GE455 GE461 GE467); replace HB := bH (lV3 GE455 GE461 GE467) hb; have NB455_473 := nL hg (bV BK455); have NB473_455 := nG hg (bV BK455); replace BK455 := bB (bV BK455) hb; have NB461_473 := nL hg (bV BK461); have NB473_461 := nG hg (bV BK461); replace BK461 := bB (bV BK461) hb; have NB467_473 := nL hg (bV BK467); have NB473_467 := nG hg (bV BK467); replace BK467 := bB (bV BK467) hb; clear hb hbox hg; have hnb150 := NB473_455.out; have hnc150 := NB455_473.out; have hnb151 := NB473_461.out; have hnc151 := NB461_473.out; have hnb152 := NB473_467.out; have hnc152 := NB467_473.out; have hcz153_0 := cz BK473 0 (.int .i64 0); have hcz153_1 := cz BK473 1 (.int .i64 0); have hcz153_2 := cz BK473 2 (.int .i64 0); have hcz153_3 := cz BK473 3 (.bool false); have hfz153_0 := fz BK473 0; have hfz153_1 := fz BK473 1; have hfz153_2 := fz BK473 2; have hfz153_3 := fz BK473 3) | ((with_reducible refine gate_store (t := 24) (p := 10) rfl ?_); refine store_event (t := 24) (p := 10) (v := ?vo_w154) (w1 := ((((w149.setCell ⟨gb473, 0, none⟩ (.int .i64 t468)).setCell ⟨gb473, 1, none⟩ (.int .i64 t469)).setCell ⟨gb473, 2, none⟩ (.int .i64 t470)).setCell ⟨gb473, 3, none⟩ (.bool t471))) ?hg ?ho ?hn ?hr ?_; (case ho => rfl); (case hg => rfl); (case hn => rfl); (case hr => first | (go_simp; done) | (go_simp; rfl) | (have hq0_ := (blk_cell BK473.out 0).trans (show _ = some _ from rfl); have hf0_ := blk_frozen BK473.out 0; have hq1_ := (blk_cell BK473.out 1).trans (show _ = some _ from rfl); have hf1_ := blk_frozen BK473.out 1; have hq2_ := (blk_cell BK473.out 2).trans (show _ = some _ from rfl); have hf2_ := blk_frozen BK473.out 2; have hq3_ := (blk_cell BK473.out 3).trans (show _ = some _ from rfl); have hf3_ := blk_frozen BK473.out 3; first | (go_simp; done) | (go_simp; rfl))); intro w154 hw; replace BK455 : Aside0 (w154.heap[gb455]? = some (.cells #[.int .i64 t451, .int .i64 t452, .int .i64 t453, .bool t454] 24 (0, 0))) := ⟨(by rw [hw]; exact (bG NB455_473 BK455))⟩; replace BK461 : Aside0 (w154.heap[gb461]? = some (.cells #[.int .i64 t456, .int .i64 t457, .int .i64 t458, .bool t459] 24 (0, 0))) := ⟨(by rw [hw]; exact (bG NB461_473 BK461))⟩; replace BK467 : Aside0 (w154.heap[gb467]? = some (.cells #[.int .i64 t462, .int .i64 t463, .int .i64 t464, .bool t465] 24 (0, 0))) := ⟨(by rw [hw]; exact (bG NB467_473 BK467))⟩; replace BK473 : Aside0 (w154.heap[gb473]? = some (.cells #[.int .i64 t468, .int .i64 t469, .int .i64 t470, .bool t471] 24 (0, 0))) := ⟨(by rw [hw]; exact (by refine bU ?_; refine blk_put (cs := #[.int .i64 t468, .int .i64 t469, .int .i64 t470, .bool false]) ?_ 3 _ rfl; refine bU ?_; refine blk_put (cs := #[.int .i64 t468, .int .i64 t469, .int .i64 0, .bool false]) ?_ 2 _ rfl; refine bU ?_; refine blk_put (cs := #[.int .i64 t468, .int .i64 0, .int .i64 0, .bool false]) ?_ 1 _ rfl; refine bU ?_; refine blk_put (cs := #[.int .i64 0, .int .i64 0, .int .i64 0, .bool false]) ?_ 0 _ rfl; refine bU ?_; exact BK473.out))⟩; replace HB : Aside0 (Below w.heap.size w w154) := ⟨(by rw [hw]; exact (lV4 GE455 GE461 GE467 GE473))⟩; clear hw; have hcz155_0 := cz BK461 0 (.int .i64 t456); have hcz155_1 := cz BK461 1 (.int .i64 t457); have hcz155_2 := cz BK461 2 (.int .i64 t458); have hcz155_3 := cz BK461 3 (.bool t459); have hfz155_0 := fz BK461 0; have hfz155_1 := fz BK461 1; have hfz155_2 := fz BK461 2; have hfz155_3 := fz BK461 3; have hcz156_0 := cz BK455 0 (.int .i64 t451); have hcz156_1 := cz BK455 1 (.int .i64 t452); have hcz156_2 := cz BK455 2 (.int .i64 t453); have hcz156_3 := cz BK455 3 (.bool t454); have hfz156_0 := fz BK455 0; have hfz156_1 := fz BK455 1; have hfz156_2 := fz BK455 2; have hfz156_3 := fz BK455 3) | ((with_reducible refine gate_callee (f := 7) rfl ?_); refine goesL_ (some 56) rfl rfl Try.func7 (by kernel_rfl) rfl #[.agg #[.int .i64 t456, .int .i64 t457, .int .i64 t458, .bool t459], .agg #[.int .i64 t451, .int .i64 t452, .int .i64 t453, .bool t454]] rfl aE ?_; (with_reducible refine (impl_JoinSpots.calls k t456 t457 t458 t459 t451 t452 t453 t454 t474 t475 t476 t477 t478 _ A45.out).mono ?_); rintro e w157 ⟨rfl, hb⟩; refine ⟨_, rfl, ?_⟩; replace BK455 := bB (bV BK455) hb; replace BK461 := bB (bV BK461) hb; replace BK467 := bB (bV BK467) hb; replace BK473 := bB (bV BK473) hb; replace HB := bH (lV4 GE455 GE461 GE467 GE473) hb; (try clear hb)) | ((with_reducible refine gate_dst (N := 12) rfl ?_); refine box_event rfl (N := 12) rfl (cs := #[.int .i64 0, .int .i64 0, .int .i64 0, .bool false]) (t := 24) sE ?_; intro gb479 hg w158 hbox hb; have BK479 := Aside0.mk hbox; have GW479 := gS w hg (lV4 GE455 GE461 GE467 GE473); have GE479 := gS w hg (lV4 GE455 GE461 GE467 GE473); replace HB := bH (lV4 GE455 GE461 GE467 GE473) hb; have NB455_479 := nL hg (bV BK455); have NB479_455 := nG hg (bV BK455); replace BK455 := bB (bV BK455) hb; have NB461_479 := nL hg (bV BK461); have NB479_461 := nG hg (bV BK461); replace BK461 := bB (bV BK461) hb; have NB467_479 := nL hg (bV BK467); have NB479_467 := nG hg (bV BK467); replace BK467 := bB (bV BK467) hb; have NB473_479 := nL hg (bV BK473); have NB479_473 := nG hg (bV BK473); replace BK473 := bB (bV BK473) hb; clear hb hbox hg; have hnb159 := NB479_455.out; have hnc159 := NB455_479.out; have hnb160 := NB479_461.out; have hnc160 := NB461_479.out; have hnb161 := NB479_467.out; have hnc161 := NB467_479.out; have hnb162 := NB479_473.out; have hnc162 := NB473_479.out; have hcz163_0 := cz BK479 0 (.int .i64 0); have hcz163_1 := cz BK479 1 (.int .i64 0); have hcz163_2 := cz BK479 2 (.int .i64 0); have hcz163_3 := cz BK479 3 (.bool false); have hfz163_0 := fz BK479 0; have hfz163_1 := fz BK479 1; have hfz163_2 := fz BK479 2; have hfz163_3 := fz BK479 3) | ((with_reducible refine gate_store (t := 24) (p := 12) rfl ?_); refine store_event (t := 24) (p := 12) (v := ?vo_w164) (w1 := ((((w158.setCell ⟨gb479, 0, none⟩ (.int .i64 t474)).setCell ⟨gb479, 1, none⟩ (.int .i64 t475)).setCell ⟨gb479, 2, none⟩ (.int .i64 t476)).setCell ⟨gb479, 3, none⟩ (.bool t477))) ?hg ?ho ?hn ?hr ?_; (case ho => rfl); (case hg => rfl); (case hn => rfl); (case hr => first | (go_simp; done) | (go_simp; rfl) | (have hq0_ := (blk_cell BK479.out 0).trans (show _ = some _ from rfl); have hf0_ := blk_frozen BK479.out 0; have hq1_ := (blk_cell BK479.out 1).trans (show _ = some _ from rfl); have hf1_ := blk_frozen BK479.out 1; have hq2_ := (blk_cell BK479.out 2).trans (show _ = some _ from rfl); have hf2_ := blk_frozen BK479.out 2; have hq3_ := (blk_cell BK479.out 3).trans (show _ = some _ from rfl); have hf3_ := blk_frozen BK479.out 3; first | (go_simp; done) | (go_simp; rfl))); intro w164 hw; replace BK455 : Aside0 (w164.heap[gb455]? = some (.cells #[.int .i64 t451, .int .i64 t452, .int .i64 t453, .bool t454] 24 (0, 0))) := ⟨(by rw [hw]; exact (bG NB455_479 BK455))⟩; replace BK461 : Aside0 (w164.heap[gb461]? = some (.cells #[.int .i64 t456, .int .i64 t457, .int .i64 t458, .bool t459] 24 (0, 0))) := ⟨(by rw [hw]; exact (bG NB461_479 BK461))⟩; replace BK467 : Aside0 (w164.heap[gb467]? = some (.cells #[.int .i64 t462, .int .i64 t463, .int .i64 t464, .bool t465] 24 (0, 0))) := ⟨(by rw [hw]; exact (bG NB467_479 BK467))⟩; replace BK473 : Aside0 (w164.heap[gb473]? = some (.cells #[.int .i64 t468, .int .i64 t469, .int .i64 t470, .bool t471] 24 (0, 0))) := ⟨(by rw [hw]; exact (bG NB473_479 BK473))⟩; replace BK479 : Aside0 (w164.heap[gb479]? = some (.cells #[.int .i64 t474, .int .i64 t475, .int .i64 t476, .bool t477] 24 (0, 0))) := ⟨(by rw [hw]; exact (by refine bU ?_; refine blk_put (cs := #[.int .i64 t474, .int .i64 t475, .int .i64 t476, .bool false]) ?_ 3 _ rfl; refine bU ?_; refine blk_put (cs := #[.int .i64 t474, .int .i64 t475, .int .i64 0, .bool false]) ?_ 2 _ rfl; refine bU ?_; refine blk_put (cs := #[.int .i64 t474, .int .i64 0, .int .i64 0, .bool false]) ?_ 1 _ rfl; refine bU ?_; refine blk_put (cs := #[.int .i64 0, .int .i64 0, .int .i64 0, .bool false]) ?_ 0 _ rfl; refine bU ?_; exact BK479.out))⟩; replace HB : Aside0 (Below w.heap.size w w164) := ⟨(by rw [hw]; exact (lV5 GE455 GE461 GE467 GE473 GE479))⟩; clear hw))
      go_ret
      exact ⟨eE, lV5 GE455 GE461 GE467 GE473 GE479⟩
    ·replace c43 := Bool.eq_false_iff.mpr c43
     subst c43
     have H1 : (laws_FnPlaced.j0 k l1) = some r := by rw [if_neg (show ¬ (false = true) by decide)] at H; exact H
     clear H
     have H := H1
     clear H1
     have H' := Aside0.mk H
     clear H
     go_wp2
     go_meet
     case rel => exact ⟨_, H', ⟨by first | omega | exact Nat.le_refl _⟩, ⟨by refine bU ?_; exact BK455.out⟩, ⟨by refine bU ?_; exact BK461.out⟩, ⟨by refine bU ?_; exact BK467.out⟩, ⟨by repeat (first | (with_reducible first | exact HB.out | apply below_alloc | apply pw_below_drewN | apply below_drew1 | refine below_set ?_ GE455.out | refine below_set ?_ GE461.out | refine below_set ?_ GE467.out) | exact HB.out)⟩⟩
   case rest =>
    clear HC25
    try clear c1
    try clear q1
    try clear c2
    try clear p2
    try clear q2
    try clear hf2
    try clear c3
    try clear c3b0
    try clear q3
    try clear hf3
    try clear c4
    try clear c5
    try clear c6
    try clear p6
    try clear c7
    try clear c7b0
    try clear c7b1
    try clear c7b2
    try clear c8
    try clear c9
    try clear c10
    try clear c11
    try clear c12
    try clear c13
    try clear c14
    try clear c15
    try clear c16
    try clear c21
    try clear c22
    try clear c33
    try clear c39
    try clear c40
    try clear c43
    try clear c46
    try clear c47
    try clear c48
    try clear c48b0
    try clear c48b2
    try clear c49
    try clear c50
    try clear c52
    try clear c56
    try clear c57
    try clear c58
    try clear p64
    try clear c65
    try clear c66
    try clear c67
    try clear c68
    try clear c72
    try clear c72b0
    try clear c73
    try clear c74
    try clear c76
    try clear c80
    try clear c81
    try clear c82
    try clear c89
    try clear c90
    try clear c91
    try clear c92
    try clear c97
    try clear c98
    try clear c100
    try clear c104
    try clear c105
    try clear c106
    try clear c113
    try clear c114
    try clear c115
    try clear c116
    try clear c121
    try clear c122
    try clear c124
    try clear c128
    try clear c129
    try clear c130
    try clear c137
    try clear c138
    try clear c139
    try clear c140
    try clear c143
    try clear c144
    try clear c146
    try clear c150
    try clear c151
    try clear c152
    try clear c159
    try clear c160
    try clear c161
    try clear c162
    try clear hcz101_0
    try clear hcz101_1
    try clear hcz101_2
    try clear hcz101_3
    try clear hcz107_0
    try clear hcz107_1
    try clear hcz107_2
    try clear hcz107_3
    try clear hcz109_0
    try clear hcz109_1
    try clear hcz109_2
    try clear hcz109_3
    try clear hcz10_0
    try clear hcz10_1
    try clear hcz10_2
    try clear hcz10_3
    try clear hcz110_0
    try clear hcz110_1
    try clear hcz110_2
    try clear hcz110_3
    try clear hcz117_0
    try clear hcz117_1
    try clear hcz117_2
    try clear hcz117_3
    try clear hcz119_0
    try clear hcz119_1
    try clear hcz119_2
    try clear hcz119_3
    try clear hcz120_0
    try clear hcz120_1
    try clear hcz120_2
    try clear hcz120_3
    try clear hcz123_0
    try clear hcz123_1
    try clear hcz123_2
    try clear hcz123_3
    try clear hcz125_0
    try clear hcz125_1
    try clear hcz125_2
    try clear hcz125_3
    try clear hcz12_0
    try clear hcz12_1
    try clear hcz12_2
    try clear hcz12_3
    try clear hcz131_0
    try clear hcz131_1
    try clear hcz131_2
    try clear hcz131_3
    try clear hcz133_0
    try clear hcz133_1
    try clear hcz133_2
    try clear hcz133_3
    try clear hcz134_0
    try clear hcz134_1
    try clear hcz134_2
    try clear hcz134_3
    try clear hcz141_0
    try clear hcz141_1
    try clear hcz141_2
    try clear hcz141_3
    try clear hcz145_0
    try clear hcz145_1
    try clear hcz145_2
    try clear hcz145_3
    try clear hcz147_0
    try clear hcz147_1
    try clear hcz147_2
    try clear hcz147_3
    try clear hcz153_0
    try clear hcz153_1
    try clear hcz153_2
    try clear hcz153_3
    try clear hcz155_0
    try clear hcz155_1
    try clear hcz155_2
    try clear hcz155_3
    try clear hcz156_0
    try clear hcz156_1
    try clear hcz156_2
    try clear hcz156_3
    try clear hcz163_0
    try clear hcz163_1
    try clear hcz163_2
    try clear hcz163_3
    try clear hcz16_0
    try clear hcz16_1
    try clear hcz16_2
    try clear hcz16_3
    try clear hcz18_0
    try clear hcz18_1
    try clear hcz18_2
    try clear hcz18_3
    try clear hcz23_0
    try clear hcz23_1
    try clear hcz23_2
    try clear hcz23_3
    try clear hcz28_0
    try clear hcz28_1
    try clear hcz28_2
    try clear hcz28_3
    try clear hcz30_0
    try clear hcz30_1
    try clear hcz30_2
    try clear hcz30_3
    try clear hcz34_0
    try clear hcz34_1
    try clear hcz34_2
    try clear hcz34_3
    try clear hcz36_0
    try clear hcz36_1
    try clear hcz36_2
    try clear hcz36_3
    try clear hcz41_0
    try clear hcz41_1
    try clear hcz41_2
    try clear hcz41_3
    try clear hcz51_0
    try clear hcz51_1
    try clear hcz51_2
    try clear hcz51_3
    try clear hcz53_0
    try clear hcz53_1
    try clear hcz53_2
    try clear hcz53_3
    try clear hcz59_0
    try clear hcz59_1
    try clear hcz59_2
    try clear hcz59_3
    try clear hcz61_0
    try clear hcz61_1
    try clear hcz61_2
    try clear hcz61_3
    try clear hcz62_0
    try clear hcz62_1
    try clear hcz62_2
    try clear hcz62_3
    try clear hcz69_0
    try clear hcz69_1
    try clear hcz69_2
    try clear hcz69_3
    try clear hcz71_0
    try clear hcz71_1
    try clear hcz71_2
    try clear hcz71_3
    try clear hcz75_0
    try clear hcz75_1
    try clear hcz75_2
    try clear hcz75_3
    try clear hcz77_0
    try clear hcz77_1
    try clear hcz77_2
    try clear hcz77_3
    try clear hcz83_0
    try clear hcz83_1
    try clear hcz83_2
    try clear hcz83_3
    try clear hcz85_0
    try clear hcz85_1
    try clear hcz85_2
    try clear hcz85_3
    try clear hcz86_0
    try clear hcz86_1
    try clear hcz86_2
    try clear hcz86_3
    try clear hcz93_0
    try clear hcz93_1
    try clear hcz93_2
    try clear hcz93_3
    try clear hcz95_0
    try clear hcz95_1
    try clear hcz95_2
    try clear hcz95_3
    try clear hcz96_0
    try clear hcz96_1
    try clear hcz96_2
    try clear hcz96_3
    try clear hcz99_0
    try clear hcz99_1
    try clear hcz99_2
    try clear hcz99_3
    try clear hfz101_0
    try clear hfz101_1
    try clear hfz101_2
    try clear hfz101_3
    try clear hfz107_0
    try clear hfz107_1
    try clear hfz107_2
    try clear hfz107_3
    try clear hfz109_0
    try clear hfz109_1
    try clear hfz109_2
    try clear hfz109_3
    try clear hfz10_0
    try clear hfz10_1
    try clear hfz10_2
    try clear hfz10_3
    try clear hfz110_0
    try clear hfz110_1
    try clear hfz110_2
    try clear hfz110_3
    try clear hfz117_0
    try clear hfz117_1
    try clear hfz117_2
    try clear hfz117_3
    try clear hfz119_0
    try clear hfz119_1
    try clear hfz119_2
    try clear hfz119_3
    try clear hfz120_0
    try clear hfz120_1
    try clear hfz120_2
    try clear hfz120_3
    try clear hfz123_0
    try clear hfz123_1
    try clear hfz123_2
    try clear hfz123_3
    try clear hfz125_0
    try clear hfz125_1
    try clear hfz125_2
    try clear hfz125_3
    try clear hfz12_0
    try clear hfz12_1
    try clear hfz12_2
    try clear hfz12_3
    try clear hfz131_0
    try clear hfz131_1
    try clear hfz131_2
    try clear hfz131_3
    try clear hfz133_0
    try clear hfz133_1
    try clear hfz133_2
    try clear hfz133_3
    try clear hfz134_0
    try clear hfz134_1
    try clear hfz134_2
    try clear hfz134_3
    try clear hfz141_0
    try clear hfz141_1
    try clear hfz141_2
    try clear hfz141_3
    try clear hfz145_0
    try clear hfz145_1
    try clear hfz145_2
    try clear hfz145_3
    try clear hfz147_0
    try clear hfz147_1
    try clear hfz147_2
    try clear hfz147_3
    try clear hfz153_0
    try clear hfz153_1
    try clear hfz153_2
    try clear hfz153_3
    try clear hfz155_0
    try clear hfz155_1
    try clear hfz155_2
    try clear hfz155_3
    try clear hfz156_0
    try clear hfz156_1
    try clear hfz156_2
    try clear hfz156_3
    try clear hfz163_0
    try clear hfz163_1
    try clear hfz163_2
    try clear hfz163_3
    try clear hfz16_0
    try clear hfz16_1
    try clear hfz16_2
    try clear hfz16_3
    try clear hfz18_0
    try clear hfz18_1
    try clear hfz18_2
    try clear hfz18_3
    try clear hfz23_0
    try clear hfz23_1
    try clear hfz23_2
    try clear hfz23_3
    try clear hfz28_0
    try clear hfz28_1
    try clear hfz28_2
    try clear hfz28_3
    try clear hfz30_0
    try clear hfz30_1
    try clear hfz30_2
    try clear hfz30_3
    try clear hfz34_0
    try clear hfz34_1
    try clear hfz34_2
    try clear hfz34_3
    try clear hfz36_0
    try clear hfz36_1
    try clear hfz36_2
    try clear hfz36_3
    try clear hfz41_0
    try clear hfz41_1
    try clear hfz41_2
    try clear hfz41_3
    try clear hfz51_0
    try clear hfz51_1
    try clear hfz51_2
    try clear hfz51_3
    try clear hfz53_0
    try clear hfz53_1
    try clear hfz53_2
    try clear hfz53_3
    try clear hfz59_0
    try clear hfz59_1
    try clear hfz59_2
    try clear hfz59_3
    try clear hfz61_0
    try clear hfz61_1
    try clear hfz61_2
    try clear hfz61_3
    try clear hfz62_0
    try clear hfz62_1
    try clear hfz62_2
    try clear hfz62_3
    try clear hfz69_0
    try clear hfz69_1
    try clear hfz69_2
    try clear hfz69_3
    try clear hfz71_0
    try clear hfz71_1
    try clear hfz71_2
    try clear hfz71_3
    try clear hfz75_0
    try clear hfz75_1
    try clear hfz75_2
    try clear hfz75_3
    try clear hfz77_0
    try clear hfz77_1
    try clear hfz77_2
    try clear hfz77_3
    try clear hfz83_0
    try clear hfz83_1
    try clear hfz83_2
    try clear hfz83_3
    try clear hfz85_0
    try clear hfz85_1
    try clear hfz85_2
    try clear hfz85_3
    try clear hfz86_0
    try clear hfz86_1
    try clear hfz86_2
    try clear hfz86_3
    try clear hfz93_0
    try clear hfz93_1
    try clear hfz93_2
    try clear hfz93_3
    try clear hfz95_0
    try clear hfz95_1
    try clear hfz95_2
    try clear hfz95_3
    try clear hfz96_0
    try clear hfz96_1
    try clear hfz96_2
    try clear hfz96_3
    try clear hfz99_0
    try clear hfz99_1
    try clear hfz99_2
    try clear hfz99_3
    obtain ⟨kq, HA, HJ24, BK455, BK461, BK467, HB⟩ := hcut
    cases kq with
    | zero => exact absurd HA.out (by simp [laws_FnPlaced.j0])
    | succ kj24 =>
     have H := HA.out
     clear HA
     simp only [laws_FnPlaced.j0] at H
     replace H := Option.bind_eq_some_iff.mp H
     obtain ⟨⟨t480, t481, t482⟩, A1650, H⟩ := H
     replace H : ((impl_Hang.f kj24 t480 t481 t482).bind fun bt485 => ((spec_Hang.f kj24 t480 t481 t482).bind fun bt489 => (if (bt485.2 != bt489.2) = true then (some false) else (if bt485.2 = true then ((impl_SpotOf.f kj24 t480 t481).bind fun bt493 => ((impl_SpotOf.f kj24 bt485.1 t481).bind fun bt499 => (if bt493.2.2.2.2 = true then (if bt499.2.2.2.2 = true then (if (bt493.1 == bt499.1 && (bt493.2.1 == bt499.2.1 && (bt493.2.2.1 == bt499.2.2.1 && (bt493.2.2.2.1 == bt499.2.2.2.1)))) = true then (if 0 ≤ t481 then (if t481 < (bt485.1.length : Int) then (some (((rd_T36 bt485.1 t481).f1) == t482)) else (none)) else (none)) else (some false)) else (some false)) else (some false)))) else (some ((bt485.1.length : Int) == 0)))))) = some r := H
     have A165 := Aside0.mk A1650
     clear A1650
     replace H := Option.bind_eq_some_iff.mp H
     obtain ⟨⟨t485, t486⟩, A1660, H⟩ := H
     replace H : ((spec_Hang.f kj24 t480 t481 t482).bind fun bt489 => (if (t486 != bt489.2) = true then (some false) else (if t486 = true then ((impl_SpotOf.f kj24 t480 t481).bind fun bt493 => ((impl_SpotOf.f kj24 t485 t481).bind fun bt499 => (if bt493.2.2.2.2 = true then (if bt499.2.2.2.2 = true then (if (bt493.1 == bt499.1 && (bt493.2.1 == bt499.2.1 && (bt493.2.2.1 == bt499.2.2.1 && (bt493.2.2.2.1 == bt499.2.2.2.1)))) = true then (if 0 ≤ t481 then (if t481 < (t485.length : Int) then (some (((rd_T36 t485 t481).f1) == t482)) else (none)) else (none)) else (some false)) else (some false)) else (some false)))) else (some ((t485.length : Int) == 0))))) = some r := H
     have A166 := Aside0.mk A1660
     clear A1660
     replace H := Option.bind_eq_some_iff.mp H
     obtain ⟨⟨t489, t490⟩, A1670, H⟩ := H
     replace H : (if (t486 != t490) = true then (some false) else (if t486 = true then ((impl_SpotOf.f kj24 t480 t481).bind fun bt493 => ((impl_SpotOf.f kj24 t485 t481).bind fun bt499 => (if bt493.2.2.2.2 = true then (if bt499.2.2.2.2 = true then (if (bt493.1 == bt499.1 && (bt493.2.1 == bt499.2.1 && (bt493.2.2.1 == bt499.2.2.1 && (bt493.2.2.2.1 == bt499.2.2.2.1)))) = true then (if 0 ≤ t481 then (if t481 < (t485.length : Int) then (some (((rd_T36 t485 t481).f1) == t482)) else (none)) else (none)) else (some false)) else (some false)) else (some false)))) else (some ((t485.length : Int) == 0)))) = some r := H
     have A167 := Aside0.mk A1670
     clear A1670
     by_cases c168 : (t486 != t490) = true
     ·rw [if_pos c168] at H
      have c168b0 : (t486 != t490) = true := c168
      (try (have c168b1 : decide (t486 = t490) = false := by simpa using c168))
      (try (have c168b2 : (t486 == t490) = false := by simpa using c168))
      (try (have c168b3 : ¬ (t486 = t490) := by simpa using c168))
      clear c168
      obtain rfl := Option.some.inj H
      go_wp2_with (first | ((with_reducible refine gate_callee (f := 8) rfl ?_); refine goesL_ (some 77) rfl rfl Try.func8 (by kernel_rfl) rfl #[.slice A1 l1.length c1] rfl aE ?_; (with_reducible refine (spec_DrawHang.calls kj24 _ _ l1 t480 t481 t482 _ ?side1 ?side2 A165.out).mono ?_); (case side1 => exact cU (Kd.C_below HR1.out HB.out)); (case side2 => exact HC1.out); rintro e w169 ⟨v483, rfl, ho0, hb⟩; refine ⟨_, rfl, ?_⟩; have HO484 := Aside0.mk (Kd.R_lower ho0 (below_size (lV3 GE455 GE461 GE467))); replace BK455 := bB (bV BK455) hb; replace BK461 := bB (bV BK461) hb; replace BK467 := bB (bV BK467) hb; replace HB := bH (lV3 GE455 GE461 GE467) hb; (try clear hb); (try clear ho0); obtain ⟨Ao170, co170, eo170⟩ := Kd.R_slice HO484.out; subst eo170) | ((with_reducible refine gate_callee (f := 9) rfl ?_); refine goesL_ (some 85) rfl rfl Try.func9 (by kernel_rfl) rfl #[.slice Ao170 t480.length co170, .int .i64 t481, .int .i64 t482] rfl aE ?_; (with_reducible refine (impl_Hang.calls kj24 _ _ t480 t481 t482 t485 t486 _ ?side1 ?side2 A166.out).mono ?_); (case side1 => exact cU (Kd.R_reads' HO484.out).2.2); (case side2 => exact (Kd.R_reads' HO484.out).2.1); rintro e w171 ⟨v487, rfl, ho0, hb⟩; refine ⟨_, rfl, ?_⟩; have HO488 := Aside0.mk (Kd.R_lower (Kd.R_new' ho0 (Kd.R_lt (rU HO484.out))) (below_size (lV3 GE455 GE461 GE467))); replace HO484 := Aside0.mk (Kd.R_elder' (rU HO484.out) (Kd.R_base ho0) hb); replace BK455 := bB (bV BK455) hb; replace BK461 := bB (bV BK461) hb; replace BK467 := bB (bV BK467) hb; replace HB := bH (lV3 GE455 GE461 GE467) hb; (try clear hb); (try clear ho0)) | ((with_reducible refine gate_callee (f := 10) rfl ?_); refine goesL_ (some 92) rfl rfl Try.func10 (by kernel_rfl) rfl #[.slice Ao170 t480.length co170, .int .i64 t481, .int .i64 t482] rfl aE ?_; (with_reducible refine (spec_Hang.calls kj24 _ _ t480 t481 t482 t489 t490 _ ?side1 ?side2 A167.out).mono ?_); (case side1 => exact cU (Kd.R_reads' HO484.out).2.2); (case side2 => exact (Kd.R_reads' HO484.out).2.1); rintro e w172 ⟨v491, rfl, ho0, hb⟩; refine ⟨_, rfl, ?_⟩; have HO492 := Aside0.mk (Kd.R_lower (Kd.R_new' (Kd.R_new' ho0 (Kd.R_lt (rU HO484.out))) (Kd.R_lt (rU HO488.out))) (below_size (lV3 GE455 GE461 GE467))); replace HO484 := Aside0.mk (Kd.R_elder' (rU HO484.out) (Kd.R_base ho0) hb); replace HO488 := Aside0.mk (Kd.R_elder' (rU HO488.out) (Kd.R_base ho0) hb); replace BK455 := bB (bV BK455) hb; replace BK461 := bB (bV BK461) hb; replace BK467 := bB (bV BK467) hb; replace HB := bH (lV3 GE455 GE461 GE467) hb; (try clear hb); (try clear ho0)))
      go_ret
      exact ⟨eE, lV3 GE455 GE461 GE467⟩
     ·rw [if_neg c168] at H
      have c168b0 : (t486 != t490) = false := by simpa using c168
      (try (have c168b1 : decide (t486 = t490) = true := by simpa using c168))
      (try (have c168b2 : (t486 == t490) = true := by simpa using c168))
      clear c168
      by_cases c173 : t486 = true
      ·subst c173
       have H1 : ((impl_SpotOf.f kj24 t480 t481).bind fun bt493 => ((impl_SpotOf.f kj24 t485 t481).bind fun bt499 => (if bt493.2.2.2.2 = true then (if bt499.2.2.2.2 = true then (if (bt493.1 == bt499.1 && (bt493.2.1 == bt499.2.1 && (bt493.2.2.1 == bt499.2.2.1 && (bt493.2.2.2.1 == bt499.2.2.2.1)))) = true then (if 0 ≤ t481 then (if t481 < (t485.length : Int) then (some (((rd_T36 t485 t481).f1) == t482)) else (none)) else (none)) else (some false)) else (some false)) else (some false)))) = some r := by rw [if_pos rfl] at H; exact H
       clear H
       have H := H1
       clear H1
       replace H := Option.bind_eq_some_iff.mp H
       obtain ⟨⟨t493, t494, t495, t496, t497⟩, A1740, H⟩ := H
       replace H : ((impl_SpotOf.f kj24 t485 t481).bind fun bt499 => (if t497 = true then (if bt499.2.2.2.2 = true then (if (t493 == bt499.1 && (t494 == bt499.2.1 && (t495 == bt499.2.2.1 && (t496 == bt499.2.2.2.1)))) = true then (if 0 ≤ t481 then (if t481 < (t485.length : Int) then (some (((rd_T36 t485 t481).f1) == t482)) else (none)) else (none)) else (some false)) else (some false)) else (some false))) = some r := H
       have A174 := Aside0.mk A1740
       clear A1740
       replace H := Option.bind_eq_some_iff.mp H
       obtain ⟨⟨t499, t500, t501, t502, t503⟩, A1750, H⟩ := H
       replace H : (if t497 = true then (if t503 = true then (if (t493 == t499 && (t494 == t500 && (t495 == t501 && (t496 == t502)))) = true then (if 0 ≤ t481 then (if t481 < (t485.length : Int) then (some (((rd_T36 t485 t481).f1) == t482)) else (none)) else (none)) else (some false)) else (some false)) else (some false)) = some r := H
       have A175 := Aside0.mk A1750
       clear A1750
       by_cases c176 : t497 = true
       ·subst c176
        have H1 : (if t503 = true then (if (t493 == t499 && (t494 == t500 && (t495 == t501 && (t496 == t502)))) = true then (if 0 ≤ t481 then (if t481 < (t485.length : Int) then (some (((rd_T36 t485 t481).f1) == t482)) else (none)) else (none)) else (some false)) else (some false)) = some r := by rw [if_pos rfl] at H; exact H
        clear H
        have H := H1
        clear H1
        by_cases c177 : t503 = true
        ·subst c177
         have H1 : (if (t493 == t499 && (t494 == t500 && (t495 == t501 && (t496 == t502)))) = true then (if 0 ≤ t481 then (if t481 < (t485.length : Int) then (some (((rd_T36 t485 t481).f1) == t482)) else (none)) else (none)) else (some false)) = some r := by rw [if_pos rfl] at H; exact H
         clear H
         have H := H1
         clear H1
         by_cases c178 : (t493 == t499 && (t494 == t500 && (t495 == t501 && (t496 == t502)))) = true
         ·rw [if_pos c178] at H
          have c178b0 : (t493 == t499 && (t494 == t500 && (t495 == t501 && (t496 == t502)))) = true := c178
          (try (have c178b1 : decide (t493 = t499 && (t494 == t500 && (t495 == t501 && (t496 == t502)))) = true := by simpa using c178))
          (try (have c178b2 : (t493 == t499 && (t494 == t500 && (t495 == t501 && (t496 == t502)))) = true := by simpa using c178))
          clear c178
          by_cases c179 : 0 ≤ t481
          ·rw [if_pos c179] at H
           have c179b0 : decide (0 ≤ t481) = true := decide_eq_true c179
           clear c179
           by_cases c180 : t481 < (t485.length : Int)
           ·rw [if_pos c180] at H
            have c180b0 : decide (t481 < (t485.length : Int)) = true := decide_eq_true c180
            clear c180
            obtain rfl := Option.some.inj H
            go_wp2_with (first | ((with_reducible refine gate_callee (f := 8) rfl ?_); refine goesL_ (some 77) rfl rfl Try.func8 (by kernel_rfl) rfl #[.slice A1 l1.length c1] rfl aE ?_; (with_reducible refine (spec_DrawHang.calls kj24 _ _ l1 t480 t481 t482 _ ?side1 ?side2 A165.out).mono ?_); (case side1 => exact cU (Kd.C_below HR1.out HB.out)); (case side2 => exact HC1.out); rintro e w181 ⟨v483, rfl, ho0, hb⟩; refine ⟨_, rfl, ?_⟩; have HO484 := Aside0.mk (Kd.R_lower ho0 (below_size (lV3 GE455 GE461 GE467))); replace BK455 := bB (bV BK455) hb; replace BK461 := bB (bV BK461) hb; replace BK467 := bB (bV BK467) hb; replace HB := bH (lV3 GE455 GE461 GE467) hb; (try clear hb); (try clear ho0); obtain ⟨Ao182, co182, eo182⟩ := Kd.R_slice HO484.out; subst eo182) | ((with_reducible refine gate_callee (f := 9) rfl ?_); refine goesL_ (some 85) rfl rfl Try.func9 (by kernel_rfl) rfl #[.slice Ao182 t480.length co182, .int .i64 t481, .int .i64 t482] rfl aE ?_; (with_reducible refine (impl_Hang.calls kj24 _ _ t480 t481 t482 t485 true _ ?side1 ?side2 A166.out).mono ?_); (case side1 => exact cU (Kd.R_reads' HO484.out).2.2); (case side2 => exact (Kd.R_reads' HO484.out).2.1); rintro e w183 ⟨v487, rfl, ho0, hb⟩; refine ⟨_, rfl, ?_⟩; have HO488 := Aside0.mk (Kd.R_lower (Kd.R_new' ho0 (Kd.R_lt (rU HO484.out))) (below_size (lV3 GE455 GE461 GE467))); replace HO484 := Aside0.mk (Kd.R_elder' (rU HO484.out) (Kd.R_base ho0) hb); replace BK455 := bB (bV BK455) hb; replace BK461 := bB (bV BK461) hb; replace BK467 := bB (bV BK467) hb; replace HB := bH (lV3 GE455 GE461 GE467) hb; (try clear hb); (try clear ho0)) | ((with_reducible refine gate_callee (f := 10) rfl ?_); refine goesL_ (some 92) rfl rfl Try.func10 (by kernel_rfl) rfl #[.slice Ao182 t480.length co182, .int .i64 t481, .int .i64 t482] rfl aE ?_; (with_reducible refine (spec_Hang.calls kj24 _ _ t480 t481 t482 t489 t490 _ ?side1 ?side2 A167.out).mono ?_); (case side1 => exact cU (Kd.R_reads' HO484.out).2.2); (case side2 => exact (Kd.R_reads' HO484.out).2.1); rintro e w184 ⟨v491, rfl, ho0, hb⟩; refine ⟨_, rfl, ?_⟩; have HO492 := Aside0.mk (Kd.R_lower (Kd.R_new' (Kd.R_new' ho0 (Kd.R_lt (rU HO484.out))) (Kd.R_lt (rU HO488.out))) (below_size (lV3 GE455 GE461 GE467))); replace HO484 := Aside0.mk (Kd.R_elder' (rU HO484.out) (Kd.R_base ho0) hb); replace HO488 := Aside0.mk (Kd.R_elder' (rU HO488.out) (Kd.R_base ho0) hb); replace BK455 := bB (bV BK455) hb; replace BK461 := bB (bV BK461) hb; replace BK467 := bB (bV BK467) hb; replace HB := bH (lV3 GE455 GE461 GE467) hb; (try clear hb); (try clear ho0)) | ((with_reducible refine gate_callee (f := 11) rfl ?_); refine goesL_ (some 106) rfl rfl Try.func11 (by kernel_rfl) rfl #[.slice Ao182 t480.length co182, .int .i64 t481] rfl aE ?_; (with_reducible refine (impl_SpotOf.calls kj24 _ _ t480 t481 t493 t494 t495 t496 true _ ?side1 ?side2 A174.out).mono ?_); (case side1 => exact cU (Kd.R_reads' HO484.out).2.2); (case side2 => exact (Kd.R_reads' HO484.out).2.1); rintro e w185 ⟨rfl, hb⟩; refine ⟨_, rfl, ?_⟩; replace HO484 := Aside0.mk (Kd.R_below (rU HO484.out) hb); replace HO488 := Aside0.mk (Kd.R_below (rU HO488.out) hb); replace HO492 := Aside0.mk (Kd.R_below (rU HO492.out) hb); replace BK455 := bB (bV BK455) hb; replace BK461 := bB (bV BK461) hb; replace BK467 := bB (bV BK467) hb; replace HB := bH (lV3 GE455 GE461 GE467) hb; (try clear hb)) | ((with_reducible refine gate_dst (N := 21) rfl ?_); refine box_event rfl (N := 21) rfl (cs := #[.int .i64 0, .int .i64 0, .int .i64 0, .bool false]) (t := 24) sE ?_; intro gb498 hg w186 hbox hb; replace HO484 := Aside0.mk (Kd.R_below (rU HO484.out) hb); replace HO488 := Aside0.mk (Kd.R_below (rU HO488.out) hb); replace HO492 := Aside0.mk (Kd.R_below (rU HO492.out) hb); have BK498 := Aside0.mk hbox; have GW498 := gS w hg (lV3 GE455 GE461 GE467); have GE498 := gS w hg (lV3 GE455 GE461 GE467); replace HB := bH (lV3 GE455 GE461 GE467) hb; have NB455_498 := nL hg (bV BK455); have NB498_455 := nG hg (bV BK455); replace BK455 := bB (bV BK455) hb; have NB461_498 := nL hg (bV BK461); have NB498_461 := nG hg (bV BK461); replace BK461 := bB (bV BK461) hb; have NB467_498 := nL hg (bV BK467); have NB498_467 := nG hg (bV BK467); replace BK467 := bB (bV BK467) hb; clear hb hbox hg; have hnb187 := NB498_455.out; have hnc187 := NB455_498.out; have hnb188 := NB498_461.out; have hnc188 := NB461_498.out; have hnb189 := NB498_467.out; have hnc189 := NB467_498.out; have hcz190_0 := cz BK498 0 (.int .i64 0); have hcz190_1 := cz BK498 1 (.int .i64 0); have hcz190_2 := cz BK498 2 (.int .i64 0); have hcz190_3 := cz BK498 3 (.bool false); have hfz190_0 := fz BK498 0; have hfz190_1 := fz BK498 1; have hfz190_2 := fz BK498 2; have hfz190_3 := fz BK498 3) | ((with_reducible refine gate_store (t := 24) (p := 21) rfl ?_); refine store_event (t := 24) (p := 21) (v := ?vo_w191) (w1 := ((((w186.setCell ⟨gb498, 0, none⟩ (.int .i64 t493)).setCell ⟨gb498, 1, none⟩ (.int .i64 t494)).setCell ⟨gb498, 2, none⟩ (.int .i64 t495)).setCell ⟨gb498, 3, none⟩ (.bool t496))) ?hg ?ho ?hn ?hr ?_; (case ho => rfl); (case hg => rfl); (case hn => rfl); (case hr => first | (go_simp; done) | (go_simp; rfl) | (have hq0_ := (blk_cell BK498.out 0).trans (show _ = some _ from rfl); have hf0_ := blk_frozen BK498.out 0; have hq1_ := (blk_cell BK498.out 1).trans (show _ = some _ from rfl); have hf1_ := blk_frozen BK498.out 1; have hq2_ := (blk_cell BK498.out 2).trans (show _ = some _ from rfl); have hf2_ := blk_frozen BK498.out 2; have hq3_ := (blk_cell BK498.out 3).trans (show _ = some _ from rfl); have hf3_ := blk_frozen BK498.out 3; first | (go_simp; done) | (go_simp; rfl))); intro w191 hw; replace HO484 : Aside0 (Kd.R k36 36 w191 w.heap.size (fun k_ => some k_ ≠ (v487 : Value).ownBlock ∧ some k_ ≠ (v491 : Value).ownBlock) (.slice Ao182 t480.length co182) t480) := ⟨(by rw [hw]; exact (by (with_reducible repeat (first | apply Kd.R_alloc | apply Kd.R_drewN | apply Kd.R_drew)); exact Kd.R_mono (Kd.R_far (p := ⟨gb498, 3, none⟩) (Kd.R_far (p := ⟨gb498, 2, none⟩) (Kd.R_far (p := ⟨gb498, 1, none⟩) (Kd.R_far (p := ⟨gb498, 0, none⟩) (Kd.R_types HO484.out BK498.out (by decide)) (fun _ hk => hk.2) (.int .i64 t493)) (fun _ hk => hk.2) (.int .i64 t494)) (fun _ hk => hk.2) (.int .i64 t495)) (fun _ hk => hk.2) (.bool t496)) (fun _ hk => ⟨hk.1.1.2, hk.1.2⟩)))⟩; replace HO488 : Aside0 (Kd.R k36 36 w191 w.heap.size (fun k_ => some k_ ≠ (.slice Ao182 t480.length co182 : Value).ownBlock ∧ some k_ ≠ (v491 : Value).ownBlock) v487 t485) := ⟨(by rw [hw]; exact (by (with_reducible repeat (first | apply Kd.R_alloc | apply Kd.R_drewN | apply Kd.R_drew)); exact Kd.R_mono (Kd.R_far (p := ⟨gb498, 3, none⟩) (Kd.R_far (p := ⟨gb498, 2, none⟩) (Kd.R_far (p := ⟨gb498, 1, none⟩) (Kd.R_far (p := ⟨gb498, 0, none⟩) (Kd.R_types HO488.out BK498.out (by decide)) (fun _ hk => hk.2) (.int .i64 t493)) (fun _ hk => hk.2) (.int .i64 t494)) (fun _ hk => hk.2) (.int .i64 t495)) (fun _ hk => hk.2) (.bool t496)) (fun _ hk => ⟨hk.1.1.2, hk.1.2⟩)))⟩; replace HO492 : Aside0 (Kd.R k36 36 w191 w.heap.size (fun k_ => some k_ ≠ (.slice Ao182 t480.length co182 : Value).ownBlock ∧ some k_ ≠ (v487 : Value).ownBlock) v491 t489) := ⟨(by rw [hw]; exact (by (with_reducible repeat (first | apply Kd.R_alloc | apply Kd.R_drewN | apply Kd.R_drew)); exact Kd.R_mono (Kd.R_far (p := ⟨gb498, 3, none⟩) (Kd.R_far (p := ⟨gb498, 2, none⟩) (Kd.R_far (p := ⟨gb498, 1, none⟩) (Kd.R_far (p := ⟨gb498, 0, none⟩) (Kd.R_types HO492.out BK498.out (by decide)) (fun _ hk => hk.2) (.int .i64 t493)) (fun _ hk => hk.2) (.int .i64 t494)) (fun _ hk => hk.2) (.int .i64 t495)) (fun _ hk => hk.2) (.bool t496)) (fun _ hk => ⟨hk.1.1.2, hk.1.2⟩)))⟩; replace BK455 : Aside0 (w191.heap[gb455]? = some (.cells #[.int .i64 t451, .int .i64 t452, .int .i64 t453, .bool t454] 24 (0, 0))) := ⟨(by rw [hw]; exact (bG NB455_498 BK455))⟩; replace BK461 : Aside0 (w191.heap[gb461]? = some (.cells #[.int .i64 t456, .int .i64 t457, .int .i64 t458, .bool t459] 24 (0, 0))) := ⟨(by rw [hw]; exact (bG NB461_498 BK461))⟩; replace BK467 : Aside0 (w191.heap[gb467]? = some (.cells #[.int .i64 t462, .int .i64 t463, .int .i64 t464, .bool t465] 24 (0, 0))) := ⟨(by rw [hw]; exact (bG NB467_498 BK467))⟩; replace BK498 : Aside0 (w191.heap[gb498]? = some (.cells #[.int .i64 t493, .int .i64 t494, .int .i64 t495, .bool t496] 24 (0, 0))) := ⟨(by rw [hw]; exact (by refine bU ?_; refine blk_put (cs := #[.int .i64 t493, .int .i64 t494, .int .i64 t495, .bool false]) ?_ 3 _ rfl; refine bU ?_; refine blk_put (cs := #[.int .i64 t493, .int .i64 t494, .int .i64 0, .bool false]) ?_ 2 _ rfl; refine bU ?_; refine blk_put (cs := #[.int .i64 t493, .int .i64 0, .int .i64 0, .bool false]) ?_ 1 _ rfl; refine bU ?_; refine blk_put (cs := #[.int .i64 0, .int .i64 0, .int .i64 0, .bool false]) ?_ 0 _ rfl; refine bU ?_; exact BK498.out))⟩; replace HB : Aside0 (Below w.heap.size w w191) := ⟨(by rw [hw]; exact (lV4 GE455 GE461 GE467 GE498))⟩; clear hw; obtain ⟨Ao192, co192, eo192⟩ := Kd.R_slice HO488.out; subst eo192) | ((with_reducible refine gate_callee (f := 11) rfl ?_); refine goesL_ (some 112) rfl rfl Try.func11 (by kernel_rfl) rfl #[.slice Ao192 t485.length co192, .int .i64 t481] rfl aE ?_; (with_reducible refine (impl_SpotOf.calls kj24 _ _ t485 t481 t499 t500 t501 t502 true _ ?side1 ?side2 A175.out).mono ?_); (case side1 => exact cU (Kd.R_reads' HO488.out).2.2); (case side2 => exact (Kd.R_reads' HO488.out).2.1); rintro e w193 ⟨rfl, hb⟩; refine ⟨_, rfl, ?_⟩; replace HO484 := Aside0.mk (Kd.R_below (rU HO484.out) hb); replace HO488 := Aside0.mk (Kd.R_below (rU HO488.out) hb); replace HO492 := Aside0.mk (Kd.R_below (rU HO492.out) hb); replace BK455 := bB (bV BK455) hb; replace BK461 := bB (bV BK461) hb; replace BK467 := bB (bV BK467) hb; replace BK498 := bB (bV BK498) hb; replace HB := bH (lV4 GE455 GE461 GE467 GE498) hb; (try clear hb)) | ((with_reducible refine gate_dst (N := 23) rfl ?_); refine box_event rfl (N := 23) rfl (cs := #[.int .i64 0, .int .i64 0, .int .i64 0, .bool false]) (t := 24) sE ?_; intro gb504 hg w194 hbox hb; replace HO484 := Aside0.mk (Kd.R_below (rU HO484.out) hb); replace HO488 := Aside0.mk (Kd.R_below (rU HO488.out) hb); replace HO492 := Aside0.mk (Kd.R_below (rU HO492.out) hb); have BK504 := Aside0.mk hbox; have GW504 := gS w hg (lV4 GE455 GE461 GE467 GE498); have GE504 := gS w hg (lV4 GE455 GE461 GE467 GE498); replace HB := bH (lV4 GE455 GE461 GE467 GE498) hb; have NB455_504 := nL hg (bV BK455); have NB504_455 := nG hg (bV BK455); replace BK455 := bB (bV BK455) hb; have NB461_504 := nL hg (bV BK461); have NB504_461 := nG hg (bV BK461); replace BK461 := bB (bV BK461) hb; have NB467_504 := nL hg (bV BK467); have NB504_467 := nG hg (bV BK467); replace BK467 := bB (bV BK467) hb; have NB498_504 := nL hg (bV BK498); have NB504_498 := nG hg (bV BK498); replace BK498 := bB (bV BK498) hb; clear hb hbox hg; have hnb195 := NB504_455.out; have hnc195 := NB455_504.out; have hnb196 := NB504_461.out; have hnc196 := NB461_504.out; have hnb197 := NB504_467.out; have hnc197 := NB467_504.out; have hnb198 := NB504_498.out; have hnc198 := NB498_504.out; have hcz199_0 := cz BK504 0 (.int .i64 0); have hcz199_1 := cz BK504 1 (.int .i64 0); have hcz199_2 := cz BK504 2 (.int .i64 0); have hcz199_3 := cz BK504 3 (.bool false); have hfz199_0 := fz BK504 0; have hfz199_1 := fz BK504 1; have hfz199_2 := fz BK504 2; have hfz199_3 := fz BK504 3) | ((with_reducible refine gate_store (t := 24) (p := 23) rfl ?_); refine store_event (t := 24) (p := 23) (v := ?vo_w200) (w1 := ((((w194.setCell ⟨gb504, 0, none⟩ (.int .i64 t499)).setCell ⟨gb504, 1, none⟩ (.int .i64 t500)).setCell ⟨gb504, 2, none⟩ (.int .i64 t501)).setCell ⟨gb504, 3, none⟩ (.bool t502))) ?hg ?ho ?hn ?hr ?_; (case ho => rfl); (case hg => rfl); (case hn => rfl); (case hr => first | (go_simp; done) | (go_simp; rfl) | (have hq0_ := (blk_cell BK504.out 0).trans (show _ = some _ from rfl); have hf0_ := blk_frozen BK504.out 0; have hq1_ := (blk_cell BK504.out 1).trans (show _ = some _ from rfl); have hf1_ := blk_frozen BK504.out 1; have hq2_ := (blk_cell BK504.out 2).trans (show _ = some _ from rfl); have hf2_ := blk_frozen BK504.out 2; have hq3_ := (blk_cell BK504.out 3).trans (show _ = some _ from rfl); have hf3_ := blk_frozen BK504.out 3; first | (go_simp; done) | (go_simp; rfl))); intro w200 hw; replace HO484 : Aside0 (Kd.R k36 36 w200 w.heap.size (fun k_ => some k_ ≠ (.slice Ao192 t485.length co192 : Value).ownBlock ∧ some k_ ≠ (v491 : Value).ownBlock) (.slice Ao182 t480.length co182) t480) := ⟨(by rw [hw]; exact (by (with_reducible repeat (first | apply Kd.R_alloc | apply Kd.R_drewN | apply Kd.R_drew)); exact Kd.R_mono (Kd.R_far (p := ⟨gb504, 3, none⟩) (Kd.R_far (p := ⟨gb504, 2, none⟩) (Kd.R_far (p := ⟨gb504, 1, none⟩) (Kd.R_far (p := ⟨gb504, 0, none⟩) (Kd.R_types HO484.out BK504.out (by decide)) (fun _ hk => hk.2) (.int .i64 t499)) (fun _ hk => hk.2) (.int .i64 t500)) (fun _ hk => hk.2) (.int .i64 t501)) (fun _ hk => hk.2) (.bool t502)) (fun _ hk => ⟨hk.1.1, hk.1.2⟩)))⟩; replace HO488 : Aside0 (Kd.R k36 36 w200 w.heap.size (fun k_ => some k_ ≠ (.slice Ao182 t480.length co182 : Value).ownBlock ∧ some k_ ≠ (v491 : Value).ownBlock) (.slice Ao192 t485.length co192) t485) := ⟨(by rw [hw]; exact (by (with_reducible repeat (first | apply Kd.R_alloc | apply Kd.R_drewN | apply Kd.R_drew)); exact Kd.R_mono (Kd.R_far (p := ⟨gb504, 3, none⟩) (Kd.R_far (p := ⟨gb504, 2, none⟩) (Kd.R_far (p := ⟨gb504, 1, none⟩) (Kd.R_far (p := ⟨gb504, 0, none⟩) (Kd.R_types HO488.out BK504.out (by decide)) (fun _ hk => hk.2) (.int .i64 t499)) (fun _ hk => hk.2) (.int .i64 t500)) (fun _ hk => hk.2) (.int .i64 t501)) (fun _ hk => hk.2) (.bool t502)) (fun _ hk => ⟨hk.1.1, hk.1.2⟩)))⟩; replace HO492 : Aside0 (Kd.R k36 36 w200 w.heap.size (fun k_ => some k_ ≠ (.slice Ao182 t480.length co182 : Value).ownBlock ∧ some k_ ≠ (.slice Ao192 t485.length co192 : Value).ownBlock) v491 t489) := ⟨(by rw [hw]; exact (by (with_reducible repeat (first | apply Kd.R_alloc | apply Kd.R_drewN | apply Kd.R_drew)); exact Kd.R_mono (Kd.R_far (p := ⟨gb504, 3, none⟩) (Kd.R_far (p := ⟨gb504, 2, none⟩) (Kd.R_far (p := ⟨gb504, 1, none⟩) (Kd.R_far (p := ⟨gb504, 0, none⟩) (Kd.R_types HO492.out BK504.out (by decide)) (fun _ hk => hk.2) (.int .i64 t499)) (fun _ hk => hk.2) (.int .i64 t500)) (fun _ hk => hk.2) (.int .i64 t501)) (fun _ hk => hk.2) (.bool t502)) (fun _ hk => ⟨hk.1.1, hk.1.2⟩)))⟩; replace BK455 : Aside0 (w200.heap[gb455]? = some (.cells #[.int .i64 t451, .int .i64 t452, .int .i64 t453, .bool t454] 24 (0, 0))) := ⟨(by rw [hw]; exact (bG NB455_504 BK455))⟩; replace BK461 : Aside0 (w200.heap[gb461]? = some (.cells #[.int .i64 t456, .int .i64 t457, .int .i64 t458, .bool t459] 24 (0, 0))) := ⟨(by rw [hw]; exact (bG NB461_504 BK461))⟩; replace BK467 : Aside0 (w200.heap[gb467]? = some (.cells #[.int .i64 t462, .int .i64 t463, .int .i64 t464, .bool t465] 24 (0, 0))) := ⟨(by rw [hw]; exact (bG NB467_504 BK467))⟩; replace BK498 : Aside0 (w200.heap[gb498]? = some (.cells #[.int .i64 t493, .int .i64 t494, .int .i64 t495, .bool t496] 24 (0, 0))) := ⟨(by rw [hw]; exact (bG NB498_504 BK498))⟩; replace BK504 : Aside0 (w200.heap[gb504]? = some (.cells #[.int .i64 t499, .int .i64 t500, .int .i64 t501, .bool t502] 24 (0, 0))) := ⟨(by rw [hw]; exact (by refine bU ?_; refine blk_put (cs := #[.int .i64 t499, .int .i64 t500, .int .i64 t501, .bool false]) ?_ 3 _ rfl; refine bU ?_; refine blk_put (cs := #[.int .i64 t499, .int .i64 t500, .int .i64 0, .bool false]) ?_ 2 _ rfl; refine bU ?_; refine blk_put (cs := #[.int .i64 t499, .int .i64 0, .int .i64 0, .bool false]) ?_ 1 _ rfl; refine bU ?_; refine blk_put (cs := #[.int .i64 0, .int .i64 0, .int .i64 0, .bool false]) ?_ 0 _ rfl; refine bU ?_; exact BK504.out))⟩; replace HB : Aside0 (Below w.heap.size w w200) := ⟨(by rw [hw]; exact (lV5 GE455 GE461 GE467 GE498 GE504))⟩; clear hw; have hcz201_0 := cz BK498 0 (.int .i64 t493); have hcz201_1 := cz BK498 1 (.int .i64 t494); have hcz201_2 := cz BK498 2 (.int .i64 t495); have hcz201_3 := cz BK498 3 (.bool t496); have hfz201_0 := fz BK498 0; have hfz201_1 := fz BK498 1; have hfz201_2 := fz BK498 2; have hfz201_3 := fz BK498 3; have hcz202_0 := cz BK504 0 (.int .i64 t499); have hcz202_1 := cz BK504 1 (.int .i64 t500); have hcz202_2 := cz BK504 2 (.int .i64 t501); have hcz202_3 := cz BK504 3 (.bool t502); have hfz202_0 := fz BK504 0; have hfz202_1 := fz BK504 1; have hfz202_2 := fz BK504 2; have hfz202_3 := fz BK504 3; have p505 : 0 ≤ (t481 : Int) := of_decide_eq_true hE; have q505 : t481 < (t485.length : Int) := of_decide_eq_true hE; obtain ⟨ad505, e505, hx505_0, hx505_1, hx505_2, hx505_3, hx505_4, hx505_5⟩ := at_T36 (Kd.R_reads' HO488.out).2.2 t481 p505 q505; cases e505; replace p505 := eq_true p505; replace q505 := eq_true q505))
            go_ret
            exact ⟨eE, lV5 GE455 GE461 GE467 GE498 GE504⟩
           ·rw [if_neg c180] at H
            exact absurd H (by simp)
          ·rw [if_neg c179] at H
           exact absurd H (by simp)
         ·rw [if_neg c178] at H
          have c178b0 : (t493 == t499 && (t494 == t500 && (t495 == t501 && (t496 == t502)))) = false := by simpa using c178
          (try (have c178b1 : decide (t493 = t499 && (t494 == t500 && (t495 == t501 && (t496 == t502)))) = false := by simpa using c178))
          (try (have c178b2 : (t493 == t499 && (t494 == t500 && (t495 == t501 && (t496 == t502)))) = false := by simpa using c178))
          (try (have c178b3 : ¬ (t493 = t499 && (t494 == t500 && (t495 == t501 && (t496 == t502)))) := by simpa using c178))
          clear c178
          obtain rfl := Option.some.inj H
          go_wp2_with (first | ((with_reducible refine gate_callee (f := 8) rfl ?_); refine goesL_ (some 77) rfl rfl Try.func8 (by kernel_rfl) rfl #[.slice A1 l1.length c1] rfl aE ?_; (with_reducible refine (spec_DrawHang.calls kj24 _ _ l1 t480 t481 t482 _ ?side1 ?side2 A165.out).mono ?_); (case side1 => exact cU (Kd.C_below HR1.out HB.out)); (case side2 => exact HC1.out); rintro e w203 ⟨v483, rfl, ho0, hb⟩; refine ⟨_, rfl, ?_⟩; have HO484 := Aside0.mk (Kd.R_lower ho0 (below_size (lV3 GE455 GE461 GE467))); replace BK455 := bB (bV BK455) hb; replace BK461 := bB (bV BK461) hb; replace BK467 := bB (bV BK467) hb; replace HB := bH (lV3 GE455 GE461 GE467) hb; (try clear hb); (try clear ho0); obtain ⟨Ao204, co204, eo204⟩ := Kd.R_slice HO484.out; subst eo204) | ((with_reducible refine gate_callee (f := 9) rfl ?_); refine goesL_ (some 85) rfl rfl Try.func9 (by kernel_rfl) rfl #[.slice Ao204 t480.length co204, .int .i64 t481, .int .i64 t482] rfl aE ?_; (with_reducible refine (impl_Hang.calls kj24 _ _ t480 t481 t482 t485 true _ ?side1 ?side2 A166.out).mono ?_); (case side1 => exact cU (Kd.R_reads' HO484.out).2.2); (case side2 => exact (Kd.R_reads' HO484.out).2.1); rintro e w205 ⟨v487, rfl, ho0, hb⟩; refine ⟨_, rfl, ?_⟩; have HO488 := Aside0.mk (Kd.R_lower (Kd.R_new' ho0 (Kd.R_lt (rU HO484.out))) (below_size (lV3 GE455 GE461 GE467))); replace HO484 := Aside0.mk (Kd.R_elder' (rU HO484.out) (Kd.R_base ho0) hb); replace BK455 := bB (bV BK455) hb; replace BK461 := bB (bV BK461) hb; replace BK467 := bB (bV BK467) hb; replace HB := bH (lV3 GE455 GE461 GE467) hb; (try clear hb); (try clear ho0)) | ((with_reducible refine gate_callee (f := 10) rfl ?_); refine goesL_ (some 92) rfl rfl Try.func10 (by kernel_rfl) rfl #[.slice Ao204 t480.length co204, .int .i64 t481, .int .i64 t482] rfl aE ?_; (with_reducible refine (spec_Hang.calls kj24 _ _ t480 t481 t482 t489 t490 _ ?side1 ?side2 A167.out).mono ?_); (case side1 => exact cU (Kd.R_reads' HO484.out).2.2); (case side2 => exact (Kd.R_reads' HO484.out).2.1); rintro e w206 ⟨v491, rfl, ho0, hb⟩; refine ⟨_, rfl, ?_⟩; have HO492 := Aside0.mk (Kd.R_lower (Kd.R_new' (Kd.R_new' ho0 (Kd.R_lt (rU HO484.out))) (Kd.R_lt (rU HO488.out))) (below_size (lV3 GE455 GE461 GE467))); replace HO484 := Aside0.mk (Kd.R_elder' (rU HO484.out) (Kd.R_base ho0) hb); replace HO488 := Aside0.mk (Kd.R_elder' (rU HO488.out) (Kd.R_base ho0) hb); replace BK455 := bB (bV BK455) hb; replace BK461 := bB (bV BK461) hb; replace BK467 := bB (bV BK467) hb; replace HB := bH (lV3 GE455 GE461 GE467) hb; (try clear hb); (try clear ho0)) | ((with_reducible refine gate_callee (f := 11) rfl ?_); refine goesL_ (some 106) rfl rfl Try.func11 (by kernel_rfl) rfl #[.slice Ao204 t480.length co204, .int .i64 t481] rfl aE ?_; (with_reducible refine (impl_SpotOf.calls kj24 _ _ t480 t481 t493 t494 t495 t496 true _ ?side1 ?side2 A174.out).mono ?_); (case side1 => exact cU (Kd.R_reads' HO484.out).2.2); (case side2 => exact (Kd.R_reads' HO484.out).2.1); rintro e w207 ⟨rfl, hb⟩; refine ⟨_, rfl, ?_⟩; replace HO484 := Aside0.mk (Kd.R_below (rU HO484.out) hb); replace HO488 := Aside0.mk (Kd.R_below (rU HO488.out) hb); replace HO492 := Aside0.mk (Kd.R_below (rU HO492.out) hb); replace BK455 := bB (bV BK455) hb; replace BK461 := bB (bV BK461) hb; replace BK467 := bB (bV BK467) hb; replace HB := bH (lV3 GE455 GE461 GE467) hb; (try clear hb)) | ((with_reducible refine gate_dst (N := 21) rfl ?_); refine box_event rfl (N := 21) rfl (cs := #[.int .i64 0, .int .i64 0, .int .i64 0, .bool false]) (t := 24) sE ?_; intro gb498 hg w208 hbox hb; replace HO484 := Aside0.mk (Kd.R_below (rU HO484.out) hb); replace HO488 := Aside0.mk (Kd.R_below (rU HO488.out) hb); replace HO492 := Aside0.mk (Kd.R_below (rU HO492.out) hb); have BK498 := Aside0.mk hbox; have GW498 := gS w hg (lV3 GE455 GE461 GE467); have GE498 := gS w hg (lV3 GE455 GE461 GE467); replace HB := bH (lV3 GE455 GE461 GE467) hb; have NB455_498 := nL hg (bV BK455); have NB498_455 := nG hg (bV BK455); replace BK455 := bB (bV BK455) hb; have NB461_498 := nL hg (bV BK461); have NB498_461 := nG hg (bV BK461); replace BK461 := bB (bV BK461) hb; have NB467_498 := nL hg (bV BK467); have NB498_467 := nG hg (bV BK467); replace BK467 := bB (bV BK467) hb; clear hb hbox hg; have hnb209 := NB498_455.out; have hnc209 := NB455_498.out; have hnb210 := NB498_461.out; have hnc210 := NB461_498.out; have hnb211 := NB498_467.out; have hnc211 := NB467_498.out; have hcz212_0 := cz BK498 0 (.int .i64 0); have hcz212_1 := cz BK498 1 (.int .i64 0); have hcz212_2 := cz BK498 2 (.int .i64 0); have hcz212_3 := cz BK498 3 (.bool false); have hfz212_0 := fz BK498 0; have hfz212_1 := fz BK498 1; have hfz212_2 := fz BK498 2; have hfz212_3 := fz BK498 3) | ((with_reducible refine gate_store (t := 24) (p := 21) rfl ?_); refine store_event (t := 24) (p := 21) (v := ?vo_w213) (w1 := ((((w208.setCell ⟨gb498, 0, none⟩ (.int .i64 t493)).setCell ⟨gb498, 1, none⟩ (.int .i64 t494)).setCell ⟨gb498, 2, none⟩ (.int .i64 t495)).setCell ⟨gb498, 3, none⟩ (.bool t496))) ?hg ?ho ?hn ?hr ?_; (case ho => rfl); (case hg => rfl); (case hn => rfl); (case hr => first | (go_simp; done) | (go_simp; rfl) | (have hq0_ := (blk_cell BK498.out 0).trans (show _ = some _ from rfl); have hf0_ := blk_frozen BK498.out 0; have hq1_ := (blk_cell BK498.out 1).trans (show _ = some _ from rfl); have hf1_ := blk_frozen BK498.out 1; have hq2_ := (blk_cell BK498.out 2).trans (show _ = some _ from rfl); have hf2_ := blk_frozen BK498.out 2; have hq3_ := (blk_cell BK498.out 3).trans (show _ = some _ from rfl); have hf3_ := blk_frozen BK498.out 3; first | (go_simp; done) | (go_simp; rfl))); intro w213 hw; replace HO484 : Aside0 (Kd.R k36 36 w213 w.heap.size (fun k_ => some k_ ≠ (v487 : Value).ownBlock ∧ some k_ ≠ (v491 : Value).ownBlock) (.slice Ao204 t480.length co204) t480) := ⟨(by rw [hw]; exact (by (with_reducible repeat (first | apply Kd.R_alloc | apply Kd.R_drewN | apply Kd.R_drew)); exact Kd.R_mono (Kd.R_far (p := ⟨gb498, 3, none⟩) (Kd.R_far (p := ⟨gb498, 2, none⟩) (Kd.R_far (p := ⟨gb498, 1, none⟩) (Kd.R_far (p := ⟨gb498, 0, none⟩) (Kd.R_types HO484.out BK498.out (by decide)) (fun _ hk => hk.2) (.int .i64 t493)) (fun _ hk => hk.2) (.int .i64 t494)) (fun _ hk => hk.2) (.int .i64 t495)) (fun _ hk => hk.2) (.bool t496)) (fun _ hk => ⟨hk.1.1.2, hk.1.2⟩)))⟩; replace HO488 : Aside0 (Kd.R k36 36 w213 w.heap.size (fun k_ => some k_ ≠ (.slice Ao204 t480.length co204 : Value).ownBlock ∧ some k_ ≠ (v491 : Value).ownBlock) v487 t485) := ⟨(by rw [hw]; exact (by (with_reducible repeat (first | apply Kd.R_alloc | apply Kd.R_drewN | apply Kd.R_drew)); exact Kd.R_mono (Kd.R_far (p := ⟨gb498, 3, none⟩) (Kd.R_far (p := ⟨gb498, 2, none⟩) (Kd.R_far (p := ⟨gb498, 1, none⟩) (Kd.R_far (p := ⟨gb498, 0, none⟩) (Kd.R_types HO488.out BK498.out (by decide)) (fun _ hk => hk.2) (.int .i64 t493)) (fun _ hk => hk.2) (.int .i64 t494)) (fun _ hk => hk.2) (.int .i64 t495)) (fun _ hk => hk.2) (.bool t496)) (fun _ hk => ⟨hk.1.1.2, hk.1.2⟩)))⟩; replace HO492 : Aside0 (Kd.R k36 36 w213 w.heap.size (fun k_ => some k_ ≠ (.slice Ao204 t480.length co204 : Value).ownBlock ∧ some k_ ≠ (v487 : Value).ownBlock) v491 t489) := ⟨(by rw [hw]; exact (by (with_reducible repeat (first | apply Kd.R_alloc | apply Kd.R_drewN | apply Kd.R_drew)); exact Kd.R_mono (Kd.R_far (p := ⟨gb498, 3, none⟩) (Kd.R_far (p := ⟨gb498, 2, none⟩) (Kd.R_far (p := ⟨gb498, 1, none⟩) (Kd.R_far (p := ⟨gb498, 0, none⟩) (Kd.R_types HO492.out BK498.out (by decide)) (fun _ hk => hk.2) (.int .i64 t493)) (fun _ hk => hk.2) (.int .i64 t494)) (fun _ hk => hk.2) (.int .i64 t495)) (fun _ hk => hk.2) (.bool t496)) (fun _ hk => ⟨hk.1.1.2, hk.1.2⟩)))⟩; replace BK455 : Aside0 (w213.heap[gb455]? = some (.cells #[.int .i64 t451, .int .i64 t452, .int .i64 t453, .bool t454] 24 (0, 0))) := ⟨(by rw [hw]; exact (bG NB455_498 BK455))⟩; replace BK461 : Aside0 (w213.heap[gb461]? = some (.cells #[.int .i64 t456, .int .i64 t457, .int .i64 t458, .bool t459] 24 (0, 0))) := ⟨(by rw [hw]; exact (bG NB461_498 BK461))⟩; replace BK467 : Aside0 (w213.heap[gb467]? = some (.cells #[.int .i64 t462, .int .i64 t463, .int .i64 t464, .bool t465] 24 (0, 0))) := ⟨(by rw [hw]; exact (bG NB467_498 BK467))⟩; replace BK498 : Aside0 (w213.heap[gb498]? = some (.cells #[.int .i64 t493, .int .i64 t494, .int .i64 t495, .bool t496] 24 (0, 0))) := ⟨(by rw [hw]; exact (by refine bU ?_; refine blk_put (cs := #[.int .i64 t493, .int .i64 t494, .int .i64 t495, .bool false]) ?_ 3 _ rfl; refine bU ?_; refine blk_put (cs := #[.int .i64 t493, .int .i64 t494, .int .i64 0, .bool false]) ?_ 2 _ rfl; refine bU ?_; refine blk_put (cs := #[.int .i64 t493, .int .i64 0, .int .i64 0, .bool false]) ?_ 1 _ rfl; refine bU ?_; refine blk_put (cs := #[.int .i64 0, .int .i64 0, .int .i64 0, .bool false]) ?_ 0 _ rfl; refine bU ?_; exact BK498.out))⟩; replace HB : Aside0 (Below w.heap.size w w213) := ⟨(by rw [hw]; exact (lV4 GE455 GE461 GE467 GE498))⟩; clear hw; obtain ⟨Ao214, co214, eo214⟩ := Kd.R_slice HO488.out; subst eo214) | ((with_reducible refine gate_callee (f := 11) rfl ?_); refine goesL_ (some 112) rfl rfl Try.func11 (by kernel_rfl) rfl #[.slice Ao214 t485.length co214, .int .i64 t481] rfl aE ?_; (with_reducible refine (impl_SpotOf.calls kj24 _ _ t485 t481 t499 t500 t501 t502 true _ ?side1 ?side2 A175.out).mono ?_); (case side1 => exact cU (Kd.R_reads' HO488.out).2.2); (case side2 => exact (Kd.R_reads' HO488.out).2.1); rintro e w215 ⟨rfl, hb⟩; refine ⟨_, rfl, ?_⟩; replace HO484 := Aside0.mk (Kd.R_below (rU HO484.out) hb); replace HO488 := Aside0.mk (Kd.R_below (rU HO488.out) hb); replace HO492 := Aside0.mk (Kd.R_below (rU HO492.out) hb); replace BK455 := bB (bV BK455) hb; replace BK461 := bB (bV BK461) hb; replace BK467 := bB (bV BK467) hb; replace BK498 := bB (bV BK498) hb; replace HB := bH (lV4 GE455 GE461 GE467 GE498) hb; (try clear hb)) | ((with_reducible refine gate_dst (N := 23) rfl ?_); refine box_event rfl (N := 23) rfl (cs := #[.int .i64 0, .int .i64 0, .int .i64 0, .bool false]) (t := 24) sE ?_; intro gb504 hg w216 hbox hb; replace HO484 := Aside0.mk (Kd.R_below (rU HO484.out) hb); replace HO488 := Aside0.mk (Kd.R_below (rU HO488.out) hb); replace HO492 := Aside0.mk (Kd.R_below (rU HO492.out) hb); have BK504 := Aside0.mk hbox; have GW504 := gS w hg (lV4 GE455 GE461 GE467 GE498); have GE504 := gS w hg (lV4 GE455 GE461 GE467 GE498); replace HB := bH (lV4 GE455 GE461 GE467 GE498) hb; have NB455_504 := nL hg (bV BK455); have NB504_455 := nG hg (bV BK455); replace BK455 := bB (bV BK455) hb; have NB461_504 := nL hg (bV BK461); have NB504_461 := nG hg (bV BK461); replace BK461 := bB (bV BK461) hb; have NB467_504 := nL hg (bV BK467); have NB504_467 := nG hg (bV BK467); replace BK467 := bB (bV BK467) hb; have NB498_504 := nL hg (bV BK498); have NB504_498 := nG hg (bV BK498); replace BK498 := bB (bV BK498) hb; clear hb hbox hg; have hnb217 := NB504_455.out; have hnc217 := NB455_504.out; have hnb218 := NB504_461.out; have hnc218 := NB461_504.out; have hnb219 := NB504_467.out; have hnc219 := NB467_504.out; have hnb220 := NB504_498.out; have hnc220 := NB498_504.out; have hcz221_0 := cz BK504 0 (.int .i64 0); have hcz221_1 := cz BK504 1 (.int .i64 0); have hcz221_2 := cz BK504 2 (.int .i64 0); have hcz221_3 := cz BK504 3 (.bool false); have hfz221_0 := fz BK504 0; have hfz221_1 := fz BK504 1; have hfz221_2 := fz BK504 2; have hfz221_3 := fz BK504 3) | ((with_reducible refine gate_store (t := 24) (p := 23) rfl ?_); refine store_event (t := 24) (p := 23) (v := ?vo_w222) (w1 := ((((w216.setCell ⟨gb504, 0, none⟩ (.int .i64 t499)).setCell ⟨gb504, 1, none⟩ (.int .i64 t500)).setCell ⟨gb504, 2, none⟩ (.int .i64 t501)).setCell ⟨gb504, 3, none⟩ (.bool t502))) ?hg ?ho ?hn ?hr ?_; (case ho => rfl); (case hg => rfl); (case hn => rfl); (case hr => first | (go_simp; done) | (go_simp; rfl) | (have hq0_ := (blk_cell BK504.out 0).trans (show _ = some _ from rfl); have hf0_ := blk_frozen BK504.out 0; have hq1_ := (blk_cell BK504.out 1).trans (show _ = some _ from rfl); have hf1_ := blk_frozen BK504.out 1; have hq2_ := (blk_cell BK504.out 2).trans (show _ = some _ from rfl); have hf2_ := blk_frozen BK504.out 2; have hq3_ := (blk_cell BK504.out 3).trans (show _ = some _ from rfl); have hf3_ := blk_frozen BK504.out 3; first | (go_simp; done) | (go_simp; rfl))); intro w222 hw; replace HO484 : Aside0 (Kd.R k36 36 w222 w.heap.size (fun k_ => some k_ ≠ (.slice Ao214 t485.length co214 : Value).ownBlock ∧ some k_ ≠ (v491 : Value).ownBlock) (.slice Ao204 t480.length co204) t480) := ⟨(by rw [hw]; exact (by (with_reducible repeat (first | apply Kd.R_alloc | apply Kd.R_drewN | apply Kd.R_drew)); exact Kd.R_mono (Kd.R_far (p := ⟨gb504, 3, none⟩) (Kd.R_far (p := ⟨gb504, 2, none⟩) (Kd.R_far (p := ⟨gb504, 1, none⟩) (Kd.R_far (p := ⟨gb504, 0, none⟩) (Kd.R_types HO484.out BK504.out (by decide)) (fun _ hk => hk.2) (.int .i64 t499)) (fun _ hk => hk.2) (.int .i64 t500)) (fun _ hk => hk.2) (.int .i64 t501)) (fun _ hk => hk.2) (.bool t502)) (fun _ hk => ⟨hk.1.1, hk.1.2⟩)))⟩; replace HO488 : Aside0 (Kd.R k36 36 w222 w.heap.size (fun k_ => some k_ ≠ (.slice Ao204 t480.length co204 : Value).ownBlock ∧ some k_ ≠ (v491 : Value).ownBlock) (.slice Ao214 t485.length co214) t485) := ⟨(by rw [hw]; exact (by (with_reducible repeat (first | apply Kd.R_alloc | apply Kd.R_drewN | apply Kd.R_drew)); exact Kd.R_mono (Kd.R_far (p := ⟨gb504, 3, none⟩) (Kd.R_far (p := ⟨gb504, 2, none⟩) (Kd.R_far (p := ⟨gb504, 1, none⟩) (Kd.R_far (p := ⟨gb504, 0, none⟩) (Kd.R_types HO488.out BK504.out (by decide)) (fun _ hk => hk.2) (.int .i64 t499)) (fun _ hk => hk.2) (.int .i64 t500)) (fun _ hk => hk.2) (.int .i64 t501)) (fun _ hk => hk.2) (.bool t502)) (fun _ hk => ⟨hk.1.1, hk.1.2⟩)))⟩; replace HO492 : Aside0 (Kd.R k36 36 w222 w.heap.size (fun k_ => some k_ ≠ (.slice Ao204 t480.length co204 : Value).ownBlock ∧ some k_ ≠ (.slice Ao214 t485.length co214 : Value).ownBlock) v491 t489) := ⟨(by rw [hw]; exact (by (with_reducible repeat (first | apply Kd.R_alloc | apply Kd.R_drewN | apply Kd.R_drew)); exact Kd.R_mono (Kd.R_far (p := ⟨gb504, 3, none⟩) (Kd.R_far (p := ⟨gb504, 2, none⟩) (Kd.R_far (p := ⟨gb504, 1, none⟩) (Kd.R_far (p := ⟨gb504, 0, none⟩) (Kd.R_types HO492.out BK504.out (by decide)) (fun _ hk => hk.2) (.int .i64 t499)) (fun _ hk => hk.2) (.int .i64 t500)) (fun _ hk => hk.2) (.int .i64 t501)) (fun _ hk => hk.2) (.bool t502)) (fun _ hk => ⟨hk.1.1, hk.1.2⟩)))⟩; replace BK455 : Aside0 (w222.heap[gb455]? = some (.cells #[.int .i64 t451, .int .i64 t452, .int .i64 t453, .bool t454] 24 (0, 0))) := ⟨(by rw [hw]; exact (bG NB455_504 BK455))⟩; replace BK461 : Aside0 (w222.heap[gb461]? = some (.cells #[.int .i64 t456, .int .i64 t457, .int .i64 t458, .bool t459] 24 (0, 0))) := ⟨(by rw [hw]; exact (bG NB461_504 BK461))⟩; replace BK467 : Aside0 (w222.heap[gb467]? = some (.cells #[.int .i64 t462, .int .i64 t463, .int .i64 t464, .bool t465] 24 (0, 0))) := ⟨(by rw [hw]; exact (bG NB467_504 BK467))⟩; replace BK498 : Aside0 (w222.heap[gb498]? = some (.cells #[.int .i64 t493, .int .i64 t494, .int .i64 t495, .bool t496] 24 (0, 0))) := ⟨(by rw [hw]; exact (bG NB498_504 BK498))⟩; replace BK504 : Aside0 (w222.heap[gb504]? = some (.cells #[.int .i64 t499, .int .i64 t500, .int .i64 t501, .bool t502] 24 (0, 0))) := ⟨(by rw [hw]; exact (by refine bU ?_; refine blk_put (cs := #[.int .i64 t499, .int .i64 t500, .int .i64 t501, .bool false]) ?_ 3 _ rfl; refine bU ?_; refine blk_put (cs := #[.int .i64 t499, .int .i64 t500, .int .i64 0, .bool false]) ?_ 2 _ rfl; refine bU ?_; refine blk_put (cs := #[.int .i64 t499, .int .i64 0, .int .i64 0, .bool false]) ?_ 1 _ rfl; refine bU ?_; refine blk_put (cs := #[.int .i64 0, .int .i64 0, .int .i64 0, .bool false]) ?_ 0 _ rfl; refine bU ?_; exact BK504.out))⟩; replace HB : Aside0 (Below w.heap.size w w222) := ⟨(by rw [hw]; exact (lV5 GE455 GE461 GE467 GE498 GE504))⟩; clear hw; have hcz223_0 := cz BK498 0 (.int .i64 t493); have hcz223_1 := cz BK498 1 (.int .i64 t494); have hcz223_2 := cz BK498 2 (.int .i64 t495); have hcz223_3 := cz BK498 3 (.bool t496); have hfz223_0 := fz BK498 0; have hfz223_1 := fz BK498 1; have hfz223_2 := fz BK498 2; have hfz223_3 := fz BK498 3; have hcz224_0 := cz BK504 0 (.int .i64 t499); have hcz224_1 := cz BK504 1 (.int .i64 t500); have hcz224_2 := cz BK504 2 (.int .i64 t501); have hcz224_3 := cz BK504 3 (.bool t502); have hfz224_0 := fz BK504 0; have hfz224_1 := fz BK504 1; have hfz224_2 := fz BK504 2; have hfz224_3 := fz BK504 3))
          go_ret
          exact ⟨eE, lV5 GE455 GE461 GE467 GE498 GE504⟩
        ·replace c177 := Bool.eq_false_iff.mpr c177
         subst c177
         have H1 : (some false) = some r := by rw [if_neg (show ¬ (false = true) by decide)] at H; exact H
         clear H
         have H := H1
         clear H1
         obtain rfl := Option.some.inj H
         go_wp2_with (first | ((with_reducible refine gate_callee (f := 8) rfl ?_); refine goesL_ (some 77) rfl rfl Try.func8 (by kernel_rfl) rfl #[.slice A1 l1.length c1] rfl aE ?_; (with_reducible refine (spec_DrawHang.calls kj24 _ _ l1 t480 t481 t482 _ ?side1 ?side2 A165.out).mono ?_); (case side1 => exact cU (Kd.C_below HR1.out HB.out)); (case side2 => exact HC1.out); rintro e w225 ⟨v483, rfl, ho0, hb⟩; refine ⟨_, rfl, ?_⟩; have HO484 := Aside0.mk (Kd.R_lower ho0 (below_size (lV3 GE455 GE461 GE467))); replace BK455 := bB (bV BK455) hb; replace BK461 := bB (bV BK461) hb; replace BK467 := bB (bV BK467) hb; replace HB := bH (lV3 GE455 GE461 GE467) hb; (try clear hb); (try clear ho0); obtain ⟨Ao226, co226, eo226⟩ := Kd.R_slice HO484.out; subst eo226) | ((with_reducible refine gate_callee (f := 9) rfl ?_); refine goesL_ (some 85) rfl rfl Try.func9 (by kernel_rfl) rfl #[.slice Ao226 t480.length co226, .int .i64 t481, .int .i64 t482] rfl aE ?_; (with_reducible refine (impl_Hang.calls kj24 _ _ t480 t481 t482 t485 true _ ?side1 ?side2 A166.out).mono ?_); (case side1 => exact cU (Kd.R_reads' HO484.out).2.2); (case side2 => exact (Kd.R_reads' HO484.out).2.1); rintro e w227 ⟨v487, rfl, ho0, hb⟩; refine ⟨_, rfl, ?_⟩; have HO488 := Aside0.mk (Kd.R_lower (Kd.R_new' ho0 (Kd.R_lt (rU HO484.out))) (below_size (lV3 GE455 GE461 GE467))); replace HO484 := Aside0.mk (Kd.R_elder' (rU HO484.out) (Kd.R_base ho0) hb); replace BK455 := bB (bV BK455) hb; replace BK461 := bB (bV BK461) hb; replace BK467 := bB (bV BK467) hb; replace HB := bH (lV3 GE455 GE461 GE467) hb; (try clear hb); (try clear ho0)) | ((with_reducible refine gate_callee (f := 10) rfl ?_); refine goesL_ (some 92) rfl rfl Try.func10 (by kernel_rfl) rfl #[.slice Ao226 t480.length co226, .int .i64 t481, .int .i64 t482] rfl aE ?_; (with_reducible refine (spec_Hang.calls kj24 _ _ t480 t481 t482 t489 t490 _ ?side1 ?side2 A167.out).mono ?_); (case side1 => exact cU (Kd.R_reads' HO484.out).2.2); (case side2 => exact (Kd.R_reads' HO484.out).2.1); rintro e w228 ⟨v491, rfl, ho0, hb⟩; refine ⟨_, rfl, ?_⟩; have HO492 := Aside0.mk (Kd.R_lower (Kd.R_new' (Kd.R_new' ho0 (Kd.R_lt (rU HO484.out))) (Kd.R_lt (rU HO488.out))) (below_size (lV3 GE455 GE461 GE467))); replace HO484 := Aside0.mk (Kd.R_elder' (rU HO484.out) (Kd.R_base ho0) hb); replace HO488 := Aside0.mk (Kd.R_elder' (rU HO488.out) (Kd.R_base ho0) hb); replace BK455 := bB (bV BK455) hb; replace BK461 := bB (bV BK461) hb; replace BK467 := bB (bV BK467) hb; replace HB := bH (lV3 GE455 GE461 GE467) hb; (try clear hb); (try clear ho0)) | ((with_reducible refine gate_callee (f := 11) rfl ?_); refine goesL_ (some 106) rfl rfl Try.func11 (by kernel_rfl) rfl #[.slice Ao226 t480.length co226, .int .i64 t481] rfl aE ?_; (with_reducible refine (impl_SpotOf.calls kj24 _ _ t480 t481 t493 t494 t495 t496 true _ ?side1 ?side2 A174.out).mono ?_); (case side1 => exact cU (Kd.R_reads' HO484.out).2.2); (case side2 => exact (Kd.R_reads' HO484.out).2.1); rintro e w229 ⟨rfl, hb⟩; refine ⟨_, rfl, ?_⟩; replace HO484 := Aside0.mk (Kd.R_below (rU HO484.out) hb); replace HO488 := Aside0.mk (Kd.R_below (rU HO488.out) hb); replace HO492 := Aside0.mk (Kd.R_below (rU HO492.out) hb); replace BK455 := bB (bV BK455) hb; replace BK461 := bB (bV BK461) hb; replace BK467 := bB (bV BK467) hb; replace HB := bH (lV3 GE455 GE461 GE467) hb; (try clear hb)) | ((with_reducible refine gate_dst (N := 21) rfl ?_); refine box_event rfl (N := 21) rfl (cs := #[.int .i64 0, .int .i64 0, .int .i64 0, .bool false]) (t := 24) sE ?_; intro gb498 hg w230 hbox hb; replace HO484 := Aside0.mk (Kd.R_below (rU HO484.out) hb); replace HO488 := Aside0.mk (Kd.R_below (rU HO488.out) hb); replace HO492 := Aside0.mk (Kd.R_below (rU HO492.out) hb); have BK498 := Aside0.mk hbox; have GW498 := gS w hg (lV3 GE455 GE461 GE467); have GE498 := gS w hg (lV3 GE455 GE461 GE467); replace HB := bH (lV3 GE455 GE461 GE467) hb; have NB455_498 := nL hg (bV BK455); have NB498_455 := nG hg (bV BK455); replace BK455 := bB (bV BK455) hb; have NB461_498 := nL hg (bV BK461); have NB498_461 := nG hg (bV BK461); replace BK461 := bB (bV BK461) hb; have NB467_498 := nL hg (bV BK467); have NB498_467 := nG hg (bV BK467); replace BK467 := bB (bV BK467) hb; clear hb hbox hg; have hnb231 := NB498_455.out; have hnc231 := NB455_498.out; have hnb232 := NB498_461.out; have hnc232 := NB461_498.out; have hnb233 := NB498_467.out; have hnc233 := NB467_498.out; have hcz234_0 := cz BK498 0 (.int .i64 0); have hcz234_1 := cz BK498 1 (.int .i64 0); have hcz234_2 := cz BK498 2 (.int .i64 0); have hcz234_3 := cz BK498 3 (.bool false); have hfz234_0 := fz BK498 0; have hfz234_1 := fz BK498 1; have hfz234_2 := fz BK498 2; have hfz234_3 := fz BK498 3) | ((with_reducible refine gate_store (t := 24) (p := 21) rfl ?_); refine store_event (t := 24) (p := 21) (v := ?vo_w235) (w1 := ((((w230.setCell ⟨gb498, 0, none⟩ (.int .i64 t493)).setCell ⟨gb498, 1, none⟩ (.int .i64 t494)).setCell ⟨gb498, 2, none⟩ (.int .i64 t495)).setCell ⟨gb498, 3, none⟩ (.bool t496))) ?hg ?ho ?hn ?hr ?_; (case ho => rfl); (case hg => rfl); (case hn => rfl); (case hr => first | (go_simp; done) | (go_simp; rfl) | (have hq0_ := (blk_cell BK498.out 0).trans (show _ = some _ from rfl); have hf0_ := blk_frozen BK498.out 0; have hq1_ := (blk_cell BK498.out 1).trans (show _ = some _ from rfl); have hf1_ := blk_frozen BK498.out 1; have hq2_ := (blk_cell BK498.out 2).trans (show _ = some _ from rfl); have hf2_ := blk_frozen BK498.out 2; have hq3_ := (blk_cell BK498.out 3).trans (show _ = some _ from rfl); have hf3_ := blk_frozen BK498.out 3; first | (go_simp; done) | (go_simp; rfl))); intro w235 hw; replace HO484 : Aside0 (Kd.R k36 36 w235 w.heap.size (fun k_ => some k_ ≠ (v487 : Value).ownBlock ∧ some k_ ≠ (v491 : Value).ownBlock) (.slice Ao226 t480.length co226) t480) := ⟨(by rw [hw]; exact (by (with_reducible repeat (first | apply Kd.R_alloc | apply Kd.R_drewN | apply Kd.R_drew)); exact Kd.R_mono (Kd.R_far (p := ⟨gb498, 3, none⟩) (Kd.R_far (p := ⟨gb498, 2, none⟩) (Kd.R_far (p := ⟨gb498, 1, none⟩) (Kd.R_far (p := ⟨gb498, 0, none⟩) (Kd.R_types HO484.out BK498.out (by decide)) (fun _ hk => hk.2) (.int .i64 t493)) (fun _ hk => hk.2) (.int .i64 t494)) (fun _ hk => hk.2) (.int .i64 t495)) (fun _ hk => hk.2) (.bool t496)) (fun _ hk => ⟨hk.1.1.2, hk.1.2⟩)))⟩; replace HO488 : Aside0 (Kd.R k36 36 w235 w.heap.size (fun k_ => some k_ ≠ (.slice Ao226 t480.length co226 : Value).ownBlock ∧ some k_ ≠ (v491 : Value).ownBlock) v487 t485) := ⟨(by rw [hw]; exact (by (with_reducible repeat (first | apply Kd.R_alloc | apply Kd.R_drewN | apply Kd.R_drew)); exact Kd.R_mono (Kd.R_far (p := ⟨gb498, 3, none⟩) (Kd.R_far (p := ⟨gb498, 2, none⟩) (Kd.R_far (p := ⟨gb498, 1, none⟩) (Kd.R_far (p := ⟨gb498, 0, none⟩) (Kd.R_types HO488.out BK498.out (by decide)) (fun _ hk => hk.2) (.int .i64 t493)) (fun _ hk => hk.2) (.int .i64 t494)) (fun _ hk => hk.2) (.int .i64 t495)) (fun _ hk => hk.2) (.bool t496)) (fun _ hk => ⟨hk.1.1.2, hk.1.2⟩)))⟩; replace HO492 : Aside0 (Kd.R k36 36 w235 w.heap.size (fun k_ => some k_ ≠ (.slice Ao226 t480.length co226 : Value).ownBlock ∧ some k_ ≠ (v487 : Value).ownBlock) v491 t489) := ⟨(by rw [hw]; exact (by (with_reducible repeat (first | apply Kd.R_alloc | apply Kd.R_drewN | apply Kd.R_drew)); exact Kd.R_mono (Kd.R_far (p := ⟨gb498, 3, none⟩) (Kd.R_far (p := ⟨gb498, 2, none⟩) (Kd.R_far (p := ⟨gb498, 1, none⟩) (Kd.R_far (p := ⟨gb498, 0, none⟩) (Kd.R_types HO492.out BK498.out (by decide)) (fun _ hk => hk.2) (.int .i64 t493)) (fun _ hk => hk.2) (.int .i64 t494)) (fun _ hk => hk.2) (.int .i64 t495)) (fun _ hk => hk.2) (.bool t496)) (fun _ hk => ⟨hk.1.1.2, hk.1.2⟩)))⟩; replace BK455 : Aside0 (w235.heap[gb455]? = some (.cells #[.int .i64 t451, .int .i64 t452, .int .i64 t453, .bool t454] 24 (0, 0))) := ⟨(by rw [hw]; exact (bG NB455_498 BK455))⟩; replace BK461 : Aside0 (w235.heap[gb461]? = some (.cells #[.int .i64 t456, .int .i64 t457, .int .i64 t458, .bool t459] 24 (0, 0))) := ⟨(by rw [hw]; exact (bG NB461_498 BK461))⟩; replace BK467 : Aside0 (w235.heap[gb467]? = some (.cells #[.int .i64 t462, .int .i64 t463, .int .i64 t464, .bool t465] 24 (0, 0))) := ⟨(by rw [hw]; exact (bG NB467_498 BK467))⟩; replace BK498 : Aside0 (w235.heap[gb498]? = some (.cells #[.int .i64 t493, .int .i64 t494, .int .i64 t495, .bool t496] 24 (0, 0))) := ⟨(by rw [hw]; exact (by refine bU ?_; refine blk_put (cs := #[.int .i64 t493, .int .i64 t494, .int .i64 t495, .bool false]) ?_ 3 _ rfl; refine bU ?_; refine blk_put (cs := #[.int .i64 t493, .int .i64 t494, .int .i64 0, .bool false]) ?_ 2 _ rfl; refine bU ?_; refine blk_put (cs := #[.int .i64 t493, .int .i64 0, .int .i64 0, .bool false]) ?_ 1 _ rfl; refine bU ?_; refine blk_put (cs := #[.int .i64 0, .int .i64 0, .int .i64 0, .bool false]) ?_ 0 _ rfl; refine bU ?_; exact BK498.out))⟩; replace HB : Aside0 (Below w.heap.size w w235) := ⟨(by rw [hw]; exact (lV4 GE455 GE461 GE467 GE498))⟩; clear hw; obtain ⟨Ao236, co236, eo236⟩ := Kd.R_slice HO488.out; subst eo236) | ((with_reducible refine gate_callee (f := 11) rfl ?_); refine goesL_ (some 112) rfl rfl Try.func11 (by kernel_rfl) rfl #[.slice Ao236 t485.length co236, .int .i64 t481] rfl aE ?_; (with_reducible refine (impl_SpotOf.calls kj24 _ _ t485 t481 t499 t500 t501 t502 false _ ?side1 ?side2 A175.out).mono ?_); (case side1 => exact cU (Kd.R_reads' HO488.out).2.2); (case side2 => exact (Kd.R_reads' HO488.out).2.1); rintro e w237 ⟨rfl, hb⟩; refine ⟨_, rfl, ?_⟩; replace HO484 := Aside0.mk (Kd.R_below (rU HO484.out) hb); replace HO488 := Aside0.mk (Kd.R_below (rU HO488.out) hb); replace HO492 := Aside0.mk (Kd.R_below (rU HO492.out) hb); replace BK455 := bB (bV BK455) hb; replace BK461 := bB (bV BK461) hb; replace BK467 := bB (bV BK467) hb; replace BK498 := bB (bV BK498) hb; replace HB := bH (lV4 GE455 GE461 GE467 GE498) hb; (try clear hb)) | ((with_reducible refine gate_dst (N := 23) rfl ?_); refine box_event rfl (N := 23) rfl (cs := #[.int .i64 0, .int .i64 0, .int .i64 0, .bool false]) (t := 24) sE ?_; intro gb504 hg w238 hbox hb; replace HO484 := Aside0.mk (Kd.R_below (rU HO484.out) hb); replace HO488 := Aside0.mk (Kd.R_below (rU HO488.out) hb); replace HO492 := Aside0.mk (Kd.R_below (rU HO492.out) hb); have BK504 := Aside0.mk hbox; have GW504 := gS w hg (lV4 GE455 GE461 GE467 GE498); have GE504 := gS w hg (lV4 GE455 GE461 GE467 GE498); replace HB := bH (lV4 GE455 GE461 GE467 GE498) hb; have NB455_504 := nL hg (bV BK455); have NB504_455 := nG hg (bV BK455); replace BK455 := bB (bV BK455) hb; have NB461_504 := nL hg (bV BK461); have NB504_461 := nG hg (bV BK461); replace BK461 := bB (bV BK461) hb; have NB467_504 := nL hg (bV BK467); have NB504_467 := nG hg (bV BK467); replace BK467 := bB (bV BK467) hb; have NB498_504 := nL hg (bV BK498); have NB504_498 := nG hg (bV BK498); replace BK498 := bB (bV BK498) hb; clear hb hbox hg; have hnb239 := NB504_455.out; have hnc239 := NB455_504.out; have hnb240 := NB504_461.out; have hnc240 := NB461_504.out; have hnb241 := NB504_467.out; have hnc241 := NB467_504.out; have hnb242 := NB504_498.out; have hnc242 := NB498_504.out; have hcz243_0 := cz BK504 0 (.int .i64 0); have hcz243_1 := cz BK504 1 (.int .i64 0); have hcz243_2 := cz BK504 2 (.int .i64 0); have hcz243_3 := cz BK504 3 (.bool false); have hfz243_0 := fz BK504 0; have hfz243_1 := fz BK504 1; have hfz243_2 := fz BK504 2; have hfz243_3 := fz BK504 3) | ((with_reducible refine gate_store (t := 24) (p := 23) rfl ?_); refine store_event (t := 24) (p := 23) (v := ?vo_w244) (w1 := ((((w238.setCell ⟨gb504, 0, none⟩ (.int .i64 t499)).setCell ⟨gb504, 1, none⟩ (.int .i64 t500)).setCell ⟨gb504, 2, none⟩ (.int .i64 t501)).setCell ⟨gb504, 3, none⟩ (.bool t502))) ?hg ?ho ?hn ?hr ?_; (case ho => rfl); (case hg => rfl); (case hn => rfl); (case hr => first | (go_simp; done) | (go_simp; rfl) | (have hq0_ := (blk_cell BK504.out 0).trans (show _ = some _ from rfl); have hf0_ := blk_frozen BK504.out 0; have hq1_ := (blk_cell BK504.out 1).trans (show _ = some _ from rfl); have hf1_ := blk_frozen BK504.out 1; have hq2_ := (blk_cell BK504.out 2).trans (show _ = some _ from rfl); have hf2_ := blk_frozen BK504.out 2; have hq3_ := (blk_cell BK504.out 3).trans (show _ = some _ from rfl); have hf3_ := blk_frozen BK504.out 3; first | (go_simp; done) | (go_simp; rfl))); intro w244 hw; replace HO484 : Aside0 (Kd.R k36 36 w244 w.heap.size (fun k_ => some k_ ≠ (.slice Ao236 t485.length co236 : Value).ownBlock ∧ some k_ ≠ (v491 : Value).ownBlock) (.slice Ao226 t480.length co226) t480) := ⟨(by rw [hw]; exact (by (with_reducible repeat (first | apply Kd.R_alloc | apply Kd.R_drewN | apply Kd.R_drew)); exact Kd.R_mono (Kd.R_far (p := ⟨gb504, 3, none⟩) (Kd.R_far (p := ⟨gb504, 2, none⟩) (Kd.R_far (p := ⟨gb504, 1, none⟩) (Kd.R_far (p := ⟨gb504, 0, none⟩) (Kd.R_types HO484.out BK504.out (by decide)) (fun _ hk => hk.2) (.int .i64 t499)) (fun _ hk => hk.2) (.int .i64 t500)) (fun _ hk => hk.2) (.int .i64 t501)) (fun _ hk => hk.2) (.bool t502)) (fun _ hk => ⟨hk.1.1, hk.1.2⟩)))⟩; replace HO488 : Aside0 (Kd.R k36 36 w244 w.heap.size (fun k_ => some k_ ≠ (.slice Ao226 t480.length co226 : Value).ownBlock ∧ some k_ ≠ (v491 : Value).ownBlock) (.slice Ao236 t485.length co236) t485) := ⟨(by rw [hw]; exact (by (with_reducible repeat (first | apply Kd.R_alloc | apply Kd.R_drewN | apply Kd.R_drew)); exact Kd.R_mono (Kd.R_far (p := ⟨gb504, 3, none⟩) (Kd.R_far (p := ⟨gb504, 2, none⟩) (Kd.R_far (p := ⟨gb504, 1, none⟩) (Kd.R_far (p := ⟨gb504, 0, none⟩) (Kd.R_types HO488.out BK504.out (by decide)) (fun _ hk => hk.2) (.int .i64 t499)) (fun _ hk => hk.2) (.int .i64 t500)) (fun _ hk => hk.2) (.int .i64 t501)) (fun _ hk => hk.2) (.bool t502)) (fun _ hk => ⟨hk.1.1, hk.1.2⟩)))⟩; replace HO492 : Aside0 (Kd.R k36 36 w244 w.heap.size (fun k_ => some k_ ≠ (.slice Ao226 t480.length co226 : Value).ownBlock ∧ some k_ ≠ (.slice Ao236 t485.length co236 : Value).ownBlock) v491 t489) := ⟨(by rw [hw]; exact (by (with_reducible repeat (first | apply Kd.R_alloc | apply Kd.R_drewN | apply Kd.R_drew)); exact Kd.R_mono (Kd.R_far (p := ⟨gb504, 3, none⟩) (Kd.R_far (p := ⟨gb504, 2, none⟩) (Kd.R_far (p := ⟨gb504, 1, none⟩) (Kd.R_far (p := ⟨gb504, 0, none⟩) (Kd.R_types HO492.out BK504.out (by decide)) (fun _ hk => hk.2) (.int .i64 t499)) (fun _ hk => hk.2) (.int .i64 t500)) (fun _ hk => hk.2) (.int .i64 t501)) (fun _ hk => hk.2) (.bool t502)) (fun _ hk => ⟨hk.1.1, hk.1.2⟩)))⟩; replace BK455 : Aside0 (w244.heap[gb455]? = some (.cells #[.int .i64 t451, .int .i64 t452, .int .i64 t453, .bool t454] 24 (0, 0))) := ⟨(by rw [hw]; exact (bG NB455_504 BK455))⟩; replace BK461 : Aside0 (w244.heap[gb461]? = some (.cells #[.int .i64 t456, .int .i64 t457, .int .i64 t458, .bool t459] 24 (0, 0))) := ⟨(by rw [hw]; exact (bG NB461_504 BK461))⟩; replace BK467 : Aside0 (w244.heap[gb467]? = some (.cells #[.int .i64 t462, .int .i64 t463, .int .i64 t464, .bool t465] 24 (0, 0))) := ⟨(by rw [hw]; exact (bG NB467_504 BK467))⟩; replace BK498 : Aside0 (w244.heap[gb498]? = some (.cells #[.int .i64 t493, .int .i64 t494, .int .i64 t495, .bool t496] 24 (0, 0))) := ⟨(by rw [hw]; exact (bG NB498_504 BK498))⟩; replace BK504 : Aside0 (w244.heap[gb504]? = some (.cells #[.int .i64 t499, .int .i64 t500, .int .i64 t501, .bool t502] 24 (0, 0))) := ⟨(by rw [hw]; exact (by refine bU ?_; refine blk_put (cs := #[.int .i64 t499, .int .i64 t500, .int .i64 t501, .bool false]) ?_ 3 _ rfl; refine bU ?_; refine blk_put (cs := #[.int .i64 t499, .int .i64 t500, .int .i64 0, .bool false]) ?_ 2 _ rfl; refine bU ?_; refine blk_put (cs := #[.int .i64 t499, .int .i64 0, .int .i64 0, .bool false]) ?_ 1 _ rfl; refine bU ?_; refine blk_put (cs := #[.int .i64 0, .int .i64 0, .int .i64 0, .bool false]) ?_ 0 _ rfl; refine bU ?_; exact BK504.out))⟩; replace HB : Aside0 (Below w.heap.size w w244) := ⟨(by rw [hw]; exact (lV5 GE455 GE461 GE467 GE498 GE504))⟩; clear hw))
         go_ret
         exact ⟨eE, lV5 GE455 GE461 GE467 GE498 GE504⟩
       ·replace c176 := Bool.eq_false_iff.mpr c176
        subst c176
        have H1 : (some false) = some r := by rw [if_neg (show ¬ (false = true) by decide)] at H; exact H
        clear H
        have H := H1
        clear H1
        obtain rfl := Option.some.inj H
        go_wp2_with (first | ((with_reducible refine gate_callee (f := 8) rfl ?_); refine goesL_ (some 77) rfl rfl Try.func8 (by kernel_rfl) rfl #[.slice A1 l1.length c1] rfl aE ?_; (with_reducible refine (spec_DrawHang.calls kj24 _ _ l1 t480 t481 t482 _ ?side1 ?side2 A165.out).mono ?_); (case side1 => exact cU (Kd.C_below HR1.out HB.out)); (case side2 => exact HC1.out); rintro e w245 ⟨v483, rfl, ho0, hb⟩; refine ⟨_, rfl, ?_⟩; have HO484 := Aside0.mk (Kd.R_lower ho0 (below_size (lV3 GE455 GE461 GE467))); replace BK455 := bB (bV BK455) hb; replace BK461 := bB (bV BK461) hb; replace BK467 := bB (bV BK467) hb; replace HB := bH (lV3 GE455 GE461 GE467) hb; (try clear hb); (try clear ho0); obtain ⟨Ao246, co246, eo246⟩ := Kd.R_slice HO484.out; subst eo246) | ((with_reducible refine gate_callee (f := 9) rfl ?_); refine goesL_ (some 85) rfl rfl Try.func9 (by kernel_rfl) rfl #[.slice Ao246 t480.length co246, .int .i64 t481, .int .i64 t482] rfl aE ?_; (with_reducible refine (impl_Hang.calls kj24 _ _ t480 t481 t482 t485 true _ ?side1 ?side2 A166.out).mono ?_); (case side1 => exact cU (Kd.R_reads' HO484.out).2.2); (case side2 => exact (Kd.R_reads' HO484.out).2.1); rintro e w247 ⟨v487, rfl, ho0, hb⟩; refine ⟨_, rfl, ?_⟩; have HO488 := Aside0.mk (Kd.R_lower (Kd.R_new' ho0 (Kd.R_lt (rU HO484.out))) (below_size (lV3 GE455 GE461 GE467))); replace HO484 := Aside0.mk (Kd.R_elder' (rU HO484.out) (Kd.R_base ho0) hb); replace BK455 := bB (bV BK455) hb; replace BK461 := bB (bV BK461) hb; replace BK467 := bB (bV BK467) hb; replace HB := bH (lV3 GE455 GE461 GE467) hb; (try clear hb); (try clear ho0)) | ((with_reducible refine gate_callee (f := 10) rfl ?_); refine goesL_ (some 92) rfl rfl Try.func10 (by kernel_rfl) rfl #[.slice Ao246 t480.length co246, .int .i64 t481, .int .i64 t482] rfl aE ?_; (with_reducible refine (spec_Hang.calls kj24 _ _ t480 t481 t482 t489 t490 _ ?side1 ?side2 A167.out).mono ?_); (case side1 => exact cU (Kd.R_reads' HO484.out).2.2); (case side2 => exact (Kd.R_reads' HO484.out).2.1); rintro e w248 ⟨v491, rfl, ho0, hb⟩; refine ⟨_, rfl, ?_⟩; have HO492 := Aside0.mk (Kd.R_lower (Kd.R_new' (Kd.R_new' ho0 (Kd.R_lt (rU HO484.out))) (Kd.R_lt (rU HO488.out))) (below_size (lV3 GE455 GE461 GE467))); replace HO484 := Aside0.mk (Kd.R_elder' (rU HO484.out) (Kd.R_base ho0) hb); replace HO488 := Aside0.mk (Kd.R_elder' (rU HO488.out) (Kd.R_base ho0) hb); replace BK455 := bB (bV BK455) hb; replace BK461 := bB (bV BK461) hb; replace BK467 := bB (bV BK467) hb; replace HB := bH (lV3 GE455 GE461 GE467) hb; (try clear hb); (try clear ho0)) | ((with_reducible refine gate_callee (f := 11) rfl ?_); refine goesL_ (some 106) rfl rfl Try.func11 (by kernel_rfl) rfl #[.slice Ao246 t480.length co246, .int .i64 t481] rfl aE ?_; (with_reducible refine (impl_SpotOf.calls kj24 _ _ t480 t481 t493 t494 t495 t496 false _ ?side1 ?side2 A174.out).mono ?_); (case side1 => exact cU (Kd.R_reads' HO484.out).2.2); (case side2 => exact (Kd.R_reads' HO484.out).2.1); rintro e w249 ⟨rfl, hb⟩; refine ⟨_, rfl, ?_⟩; replace HO484 := Aside0.mk (Kd.R_below (rU HO484.out) hb); replace HO488 := Aside0.mk (Kd.R_below (rU HO488.out) hb); replace HO492 := Aside0.mk (Kd.R_below (rU HO492.out) hb); replace BK455 := bB (bV BK455) hb; replace BK461 := bB (bV BK461) hb; replace BK467 := bB (bV BK467) hb; replace HB := bH (lV3 GE455 GE461 GE467) hb; (try clear hb)) | ((with_reducible refine gate_dst (N := 21) rfl ?_); refine box_event rfl (N := 21) rfl (cs := #[.int .i64 0, .int .i64 0, .int .i64 0, .bool false]) (t := 24) sE ?_; intro gb498 hg w250 hbox hb; replace HO484 := Aside0.mk (Kd.R_below (rU HO484.out) hb); replace HO488 := Aside0.mk (Kd.R_below (rU HO488.out) hb); replace HO492 := Aside0.mk (Kd.R_below (rU HO492.out) hb); have BK498 := Aside0.mk hbox; have GW498 := gS w hg (lV3 GE455 GE461 GE467); have GE498 := gS w hg (lV3 GE455 GE461 GE467); replace HB := bH (lV3 GE455 GE461 GE467) hb; have NB455_498 := nL hg (bV BK455); have NB498_455 := nG hg (bV BK455); replace BK455 := bB (bV BK455) hb; have NB461_498 := nL hg (bV BK461); have NB498_461 := nG hg (bV BK461); replace BK461 := bB (bV BK461) hb; have NB467_498 := nL hg (bV BK467); have NB498_467 := nG hg (bV BK467); replace BK467 := bB (bV BK467) hb; clear hb hbox hg; have hnb251 := NB498_455.out; have hnc251 := NB455_498.out; have hnb252 := NB498_461.out; have hnc252 := NB461_498.out; have hnb253 := NB498_467.out; have hnc253 := NB467_498.out; have hcz254_0 := cz BK498 0 (.int .i64 0); have hcz254_1 := cz BK498 1 (.int .i64 0); have hcz254_2 := cz BK498 2 (.int .i64 0); have hcz254_3 := cz BK498 3 (.bool false); have hfz254_0 := fz BK498 0; have hfz254_1 := fz BK498 1; have hfz254_2 := fz BK498 2; have hfz254_3 := fz BK498 3) | ((with_reducible refine gate_store (t := 24) (p := 21) rfl ?_); refine store_event (t := 24) (p := 21) (v := ?vo_w255) (w1 := ((((w250.setCell ⟨gb498, 0, none⟩ (.int .i64 t493)).setCell ⟨gb498, 1, none⟩ (.int .i64 t494)).setCell ⟨gb498, 2, none⟩ (.int .i64 t495)).setCell ⟨gb498, 3, none⟩ (.bool t496))) ?hg ?ho ?hn ?hr ?_; (case ho => rfl); (case hg => rfl); (case hn => rfl); (case hr => first | (go_simp; done) | (go_simp; rfl) | (have hq0_ := (blk_cell BK498.out 0).trans (show _ = some _ from rfl); have hf0_ := blk_frozen BK498.out 0; have hq1_ := (blk_cell BK498.out 1).trans (show _ = some _ from rfl); have hf1_ := blk_frozen BK498.out 1; have hq2_ := (blk_cell BK498.out 2).trans (show _ = some _ from rfl); have hf2_ := blk_frozen BK498.out 2; have hq3_ := (blk_cell BK498.out 3).trans (show _ = some _ from rfl); have hf3_ := blk_frozen BK498.out 3; first | (go_simp; done) | (go_simp; rfl))); intro w255 hw; replace HO484 : Aside0 (Kd.R k36 36 w255 w.heap.size (fun k_ => some k_ ≠ (v487 : Value).ownBlock ∧ some k_ ≠ (v491 : Value).ownBlock) (.slice Ao246 t480.length co246) t480) := ⟨(by rw [hw]; exact (by (with_reducible repeat (first | apply Kd.R_alloc | apply Kd.R_drewN | apply Kd.R_drew)); exact Kd.R_mono (Kd.R_far (p := ⟨gb498, 3, none⟩) (Kd.R_far (p := ⟨gb498, 2, none⟩) (Kd.R_far (p := ⟨gb498, 1, none⟩) (Kd.R_far (p := ⟨gb498, 0, none⟩) (Kd.R_types HO484.out BK498.out (by decide)) (fun _ hk => hk.2) (.int .i64 t493)) (fun _ hk => hk.2) (.int .i64 t494)) (fun _ hk => hk.2) (.int .i64 t495)) (fun _ hk => hk.2) (.bool t496)) (fun _ hk => ⟨hk.1.1.2, hk.1.2⟩)))⟩; replace HO488 : Aside0 (Kd.R k36 36 w255 w.heap.size (fun k_ => some k_ ≠ (.slice Ao246 t480.length co246 : Value).ownBlock ∧ some k_ ≠ (v491 : Value).ownBlock) v487 t485) := ⟨(by rw [hw]; exact (by (with_reducible repeat (first | apply Kd.R_alloc | apply Kd.R_drewN | apply Kd.R_drew)); exact Kd.R_mono (Kd.R_far (p := ⟨gb498, 3, none⟩) (Kd.R_far (p := ⟨gb498, 2, none⟩) (Kd.R_far (p := ⟨gb498, 1, none⟩) (Kd.R_far (p := ⟨gb498, 0, none⟩) (Kd.R_types HO488.out BK498.out (by decide)) (fun _ hk => hk.2) (.int .i64 t493)) (fun _ hk => hk.2) (.int .i64 t494)) (fun _ hk => hk.2) (.int .i64 t495)) (fun _ hk => hk.2) (.bool t496)) (fun _ hk => ⟨hk.1.1.2, hk.1.2⟩)))⟩; replace HO492 : Aside0 (Kd.R k36 36 w255 w.heap.size (fun k_ => some k_ ≠ (.slice Ao246 t480.length co246 : Value).ownBlock ∧ some k_ ≠ (v487 : Value).ownBlock) v491 t489) := ⟨(by rw [hw]; exact (by (with_reducible repeat (first | apply Kd.R_alloc | apply Kd.R_drewN | apply Kd.R_drew)); exact Kd.R_mono (Kd.R_far (p := ⟨gb498, 3, none⟩) (Kd.R_far (p := ⟨gb498, 2, none⟩) (Kd.R_far (p := ⟨gb498, 1, none⟩) (Kd.R_far (p := ⟨gb498, 0, none⟩) (Kd.R_types HO492.out BK498.out (by decide)) (fun _ hk => hk.2) (.int .i64 t493)) (fun _ hk => hk.2) (.int .i64 t494)) (fun _ hk => hk.2) (.int .i64 t495)) (fun _ hk => hk.2) (.bool t496)) (fun _ hk => ⟨hk.1.1.2, hk.1.2⟩)))⟩; replace BK455 : Aside0 (w255.heap[gb455]? = some (.cells #[.int .i64 t451, .int .i64 t452, .int .i64 t453, .bool t454] 24 (0, 0))) := ⟨(by rw [hw]; exact (bG NB455_498 BK455))⟩; replace BK461 : Aside0 (w255.heap[gb461]? = some (.cells #[.int .i64 t456, .int .i64 t457, .int .i64 t458, .bool t459] 24 (0, 0))) := ⟨(by rw [hw]; exact (bG NB461_498 BK461))⟩; replace BK467 : Aside0 (w255.heap[gb467]? = some (.cells #[.int .i64 t462, .int .i64 t463, .int .i64 t464, .bool t465] 24 (0, 0))) := ⟨(by rw [hw]; exact (bG NB467_498 BK467))⟩; replace BK498 : Aside0 (w255.heap[gb498]? = some (.cells #[.int .i64 t493, .int .i64 t494, .int .i64 t495, .bool t496] 24 (0, 0))) := ⟨(by rw [hw]; exact (by refine bU ?_; refine blk_put (cs := #[.int .i64 t493, .int .i64 t494, .int .i64 t495, .bool false]) ?_ 3 _ rfl; refine bU ?_; refine blk_put (cs := #[.int .i64 t493, .int .i64 t494, .int .i64 0, .bool false]) ?_ 2 _ rfl; refine bU ?_; refine blk_put (cs := #[.int .i64 t493, .int .i64 0, .int .i64 0, .bool false]) ?_ 1 _ rfl; refine bU ?_; refine blk_put (cs := #[.int .i64 0, .int .i64 0, .int .i64 0, .bool false]) ?_ 0 _ rfl; refine bU ?_; exact BK498.out))⟩; replace HB : Aside0 (Below w.heap.size w w255) := ⟨(by rw [hw]; exact (lV4 GE455 GE461 GE467 GE498))⟩; clear hw; obtain ⟨Ao256, co256, eo256⟩ := Kd.R_slice HO488.out; subst eo256) | ((with_reducible refine gate_callee (f := 11) rfl ?_); refine goesL_ (some 112) rfl rfl Try.func11 (by kernel_rfl) rfl #[.slice Ao256 t485.length co256, .int .i64 t481] rfl aE ?_; (with_reducible refine (impl_SpotOf.calls kj24 _ _ t485 t481 t499 t500 t501 t502 t503 _ ?side1 ?side2 A175.out).mono ?_); (case side1 => exact cU (Kd.R_reads' HO488.out).2.2); (case side2 => exact (Kd.R_reads' HO488.out).2.1); rintro e w257 ⟨rfl, hb⟩; refine ⟨_, rfl, ?_⟩; replace HO484 := Aside0.mk (Kd.R_below (rU HO484.out) hb); replace HO488 := Aside0.mk (Kd.R_below (rU HO488.out) hb); replace HO492 := Aside0.mk (Kd.R_below (rU HO492.out) hb); replace BK455 := bB (bV BK455) hb; replace BK461 := bB (bV BK461) hb; replace BK467 := bB (bV BK467) hb; replace BK498 := bB (bV BK498) hb; replace HB := bH (lV4 GE455 GE461 GE467 GE498) hb; (try clear hb)) | ((with_reducible refine gate_dst (N := 23) rfl ?_); refine box_event rfl (N := 23) rfl (cs := #[.int .i64 0, .int .i64 0, .int .i64 0, .bool false]) (t := 24) sE ?_; intro gb504 hg w258 hbox hb; replace HO484 := Aside0.mk (Kd.R_below (rU HO484.out) hb); replace HO488 := Aside0.mk (Kd.R_below (rU HO488.out) hb); replace HO492 := Aside0.mk (Kd.R_below (rU HO492.out) hb); have BK504 := Aside0.mk hbox; have GW504 := gS w hg (lV4 GE455 GE461 GE467 GE498); have GE504 := gS w hg (lV4 GE455 GE461 GE467 GE498); replace HB := bH (lV4 GE455 GE461 GE467 GE498) hb; have NB455_504 := nL hg (bV BK455); have NB504_455 := nG hg (bV BK455); replace BK455 := bB (bV BK455) hb; have NB461_504 := nL hg (bV BK461); have NB504_461 := nG hg (bV BK461); replace BK461 := bB (bV BK461) hb; have NB467_504 := nL hg (bV BK467); have NB504_467 := nG hg (bV BK467); replace BK467 := bB (bV BK467) hb; have NB498_504 := nL hg (bV BK498); have NB504_498 := nG hg (bV BK498); replace BK498 := bB (bV BK498) hb; clear hb hbox hg; have hnb259 := NB504_455.out; have hnc259 := NB455_504.out; have hnb260 := NB504_461.out; have hnc260 := NB461_504.out; have hnb261 := NB504_467.out; have hnc261 := NB467_504.out; have hnb262 := NB504_498.out; have hnc262 := NB498_504.out; have hcz263_0 := cz BK504 0 (.int .i64 0); have hcz263_1 := cz BK504 1 (.int .i64 0); have hcz263_2 := cz BK504 2 (.int .i64 0); have hcz263_3 := cz BK504 3 (.bool false); have hfz263_0 := fz BK504 0; have hfz263_1 := fz BK504 1; have hfz263_2 := fz BK504 2; have hfz263_3 := fz BK504 3) | ((with_reducible refine gate_store (t := 24) (p := 23) rfl ?_); refine store_event (t := 24) (p := 23) (v := ?vo_w264) (w1 := ((((w258.setCell ⟨gb504, 0, none⟩ (.int .i64 t499)).setCell ⟨gb504, 1, none⟩ (.int .i64 t500)).setCell ⟨gb504, 2, none⟩ (.int .i64 t501)).setCell ⟨gb504, 3, none⟩ (.bool t502))) ?hg ?ho ?hn ?hr ?_; (case ho => rfl); (case hg => rfl); (case hn => rfl); (case hr => first | (go_simp; done) | (go_simp; rfl) | (have hq0_ := (blk_cell BK504.out 0).trans (show _ = some _ from rfl); have hf0_ := blk_frozen BK504.out 0; have hq1_ := (blk_cell BK504.out 1).trans (show _ = some _ from rfl); have hf1_ := blk_frozen BK504.out 1; have hq2_ := (blk_cell BK504.out 2).trans (show _ = some _ from rfl); have hf2_ := blk_frozen BK504.out 2; have hq3_ := (blk_cell BK504.out 3).trans (show _ = some _ from rfl); have hf3_ := blk_frozen BK504.out 3; first | (go_simp; done) | (go_simp; rfl))); intro w264 hw; replace HO484 : Aside0 (Kd.R k36 36 w264 w.heap.size (fun k_ => some k_ ≠ (.slice Ao256 t485.length co256 : Value).ownBlock ∧ some k_ ≠ (v491 : Value).ownBlock) (.slice Ao246 t480.length co246) t480) := ⟨(by rw [hw]; exact (by (with_reducible repeat (first | apply Kd.R_alloc | apply Kd.R_drewN | apply Kd.R_drew)); exact Kd.R_mono (Kd.R_far (p := ⟨gb504, 3, none⟩) (Kd.R_far (p := ⟨gb504, 2, none⟩) (Kd.R_far (p := ⟨gb504, 1, none⟩) (Kd.R_far (p := ⟨gb504, 0, none⟩) (Kd.R_types HO484.out BK504.out (by decide)) (fun _ hk => hk.2) (.int .i64 t499)) (fun _ hk => hk.2) (.int .i64 t500)) (fun _ hk => hk.2) (.int .i64 t501)) (fun _ hk => hk.2) (.bool t502)) (fun _ hk => ⟨hk.1.1, hk.1.2⟩)))⟩; replace HO488 : Aside0 (Kd.R k36 36 w264 w.heap.size (fun k_ => some k_ ≠ (.slice Ao246 t480.length co246 : Value).ownBlock ∧ some k_ ≠ (v491 : Value).ownBlock) (.slice Ao256 t485.length co256) t485) := ⟨(by rw [hw]; exact (by (with_reducible repeat (first | apply Kd.R_alloc | apply Kd.R_drewN | apply Kd.R_drew)); exact Kd.R_mono (Kd.R_far (p := ⟨gb504, 3, none⟩) (Kd.R_far (p := ⟨gb504, 2, none⟩) (Kd.R_far (p := ⟨gb504, 1, none⟩) (Kd.R_far (p := ⟨gb504, 0, none⟩) (Kd.R_types HO488.out BK504.out (by decide)) (fun _ hk => hk.2) (.int .i64 t499)) (fun _ hk => hk.2) (.int .i64 t500)) (fun _ hk => hk.2) (.int .i64 t501)) (fun _ hk => hk.2) (.bool t502)) (fun _ hk => ⟨hk.1.1, hk.1.2⟩)))⟩; replace HO492 : Aside0 (Kd.R k36 36 w264 w.heap.size (fun k_ => some k_ ≠ (.slice Ao246 t480.length co246 : Value).ownBlock ∧ some k_ ≠ (.slice Ao256 t485.length co256 : Value).ownBlock) v491 t489) := ⟨(by rw [hw]; exact (by (with_reducible repeat (first | apply Kd.R_alloc | apply Kd.R_drewN | apply Kd.R_drew)); exact Kd.R_mono (Kd.R_far (p := ⟨gb504, 3, none⟩) (Kd.R_far (p := ⟨gb504, 2, none⟩) (Kd.R_far (p := ⟨gb504, 1, none⟩) (Kd.R_far (p := ⟨gb504, 0, none⟩) (Kd.R_types HO492.out BK504.out (by decide)) (fun _ hk => hk.2) (.int .i64 t499)) (fun _ hk => hk.2) (.int .i64 t500)) (fun _ hk => hk.2) (.int .i64 t501)) (fun _ hk => hk.2) (.bool t502)) (fun _ hk => ⟨hk.1.1, hk.1.2⟩)))⟩; replace BK455 : Aside0 (w264.heap[gb455]? = some (.cells #[.int .i64 t451, .int .i64 t452, .int .i64 t453, .bool t454] 24 (0, 0))) := ⟨(by rw [hw]; exact (bG NB455_504 BK455))⟩; replace BK461 : Aside0 (w264.heap[gb461]? = some (.cells #[.int .i64 t456, .int .i64 t457, .int .i64 t458, .bool t459] 24 (0, 0))) := ⟨(by rw [hw]; exact (bG NB461_504 BK461))⟩; replace BK467 : Aside0 (w264.heap[gb467]? = some (.cells #[.int .i64 t462, .int .i64 t463, .int .i64 t464, .bool t465] 24 (0, 0))) := ⟨(by rw [hw]; exact (bG NB467_504 BK467))⟩; replace BK498 : Aside0 (w264.heap[gb498]? = some (.cells #[.int .i64 t493, .int .i64 t494, .int .i64 t495, .bool t496] 24 (0, 0))) := ⟨(by rw [hw]; exact (bG NB498_504 BK498))⟩; replace BK504 : Aside0 (w264.heap[gb504]? = some (.cells #[.int .i64 t499, .int .i64 t500, .int .i64 t501, .bool t502] 24 (0, 0))) := ⟨(by rw [hw]; exact (by refine bU ?_; refine blk_put (cs := #[.int .i64 t499, .int .i64 t500, .int .i64 t501, .bool false]) ?_ 3 _ rfl; refine bU ?_; refine blk_put (cs := #[.int .i64 t499, .int .i64 t500, .int .i64 0, .bool false]) ?_ 2 _ rfl; refine bU ?_; refine blk_put (cs := #[.int .i64 t499, .int .i64 0, .int .i64 0, .bool false]) ?_ 1 _ rfl; refine bU ?_; refine blk_put (cs := #[.int .i64 0, .int .i64 0, .int .i64 0, .bool false]) ?_ 0 _ rfl; refine bU ?_; exact BK504.out))⟩; replace HB : Aside0 (Below w.heap.size w w264) := ⟨(by rw [hw]; exact (lV5 GE455 GE461 GE467 GE498 GE504))⟩; clear hw))
        go_ret
        exact ⟨eE, lV5 GE455 GE461 GE467 GE498 GE504⟩
      ·replace c173 := Bool.eq_false_iff.mpr c173
       subst c173
       have H1 : (some ((t485.length : Int) == 0)) = some r := by rw [if_neg (show ¬ (false = true) by decide)] at H; exact H
       clear H
       have H := H1
       clear H1
       obtain rfl := Option.some.inj H
       go_wp2_with (first | ((with_reducible refine gate_callee (f := 8) rfl ?_); refine goesL_ (some 77) rfl rfl Try.func8 (by kernel_rfl) rfl #[.slice A1 l1.length c1] rfl aE ?_; (with_reducible refine (spec_DrawHang.calls kj24 _ _ l1 t480 t481 t482 _ ?side1 ?side2 A165.out).mono ?_); (case side1 => exact cU (Kd.C_below HR1.out HB.out)); (case side2 => exact HC1.out); rintro e w265 ⟨v483, rfl, ho0, hb⟩; refine ⟨_, rfl, ?_⟩; have HO484 := Aside0.mk (Kd.R_lower ho0 (below_size (lV3 GE455 GE461 GE467))); replace BK455 := bB (bV BK455) hb; replace BK461 := bB (bV BK461) hb; replace BK467 := bB (bV BK467) hb; replace HB := bH (lV3 GE455 GE461 GE467) hb; (try clear hb); (try clear ho0); obtain ⟨Ao266, co266, eo266⟩ := Kd.R_slice HO484.out; subst eo266) | ((with_reducible refine gate_callee (f := 9) rfl ?_); refine goesL_ (some 85) rfl rfl Try.func9 (by kernel_rfl) rfl #[.slice Ao266 t480.length co266, .int .i64 t481, .int .i64 t482] rfl aE ?_; (with_reducible refine (impl_Hang.calls kj24 _ _ t480 t481 t482 t485 false _ ?side1 ?side2 A166.out).mono ?_); (case side1 => exact cU (Kd.R_reads' HO484.out).2.2); (case side2 => exact (Kd.R_reads' HO484.out).2.1); rintro e w267 ⟨v487, rfl, ho0, hb⟩; refine ⟨_, rfl, ?_⟩; have HO488 := Aside0.mk (Kd.R_lower (Kd.R_new' ho0 (Kd.R_lt (rU HO484.out))) (below_size (lV3 GE455 GE461 GE467))); replace HO484 := Aside0.mk (Kd.R_elder' (rU HO484.out) (Kd.R_base ho0) hb); replace BK455 := bB (bV BK455) hb; replace BK461 := bB (bV BK461) hb; replace BK467 := bB (bV BK467) hb; replace HB := bH (lV3 GE455 GE461 GE467) hb; (try clear hb); (try clear ho0)) | ((with_reducible refine gate_callee (f := 10) rfl ?_); refine goesL_ (some 92) rfl rfl Try.func10 (by kernel_rfl) rfl #[.slice Ao266 t480.length co266, .int .i64 t481, .int .i64 t482] rfl aE ?_; (with_reducible refine (spec_Hang.calls kj24 _ _ t480 t481 t482 t489 t490 _ ?side1 ?side2 A167.out).mono ?_); (case side1 => exact cU (Kd.R_reads' HO484.out).2.2); (case side2 => exact (Kd.R_reads' HO484.out).2.1); rintro e w268 ⟨v491, rfl, ho0, hb⟩; refine ⟨_, rfl, ?_⟩; have HO492 := Aside0.mk (Kd.R_lower (Kd.R_new' (Kd.R_new' ho0 (Kd.R_lt (rU HO484.out))) (Kd.R_lt (rU HO488.out))) (below_size (lV3 GE455 GE461 GE467))); replace HO484 := Aside0.mk (Kd.R_elder' (rU HO484.out) (Kd.R_base ho0) hb); replace HO488 := Aside0.mk (Kd.R_elder' (rU HO488.out) (Kd.R_base ho0) hb); replace BK455 := bB (bV BK455) hb; replace BK461 := bB (bV BK461) hb; replace BK467 := bB (bV BK467) hb; replace HB := bH (lV3 GE455 GE461 GE467) hb; (try clear hb); (try clear ho0); obtain ⟨Ao269, co269, eo269⟩ := Kd.R_slice HO488.out; subst eo269))
       go_ret
       exact ⟨eE, lV3 GE455 GE461 GE467⟩
def laws_FnPlaced.Pure : Prop := ∀ (l0 : List Int) (l1 : List Int), l0.length ≤ maxLen → l0.length * 1 ≤ 140737488351232 → (∀ x ∈ l0, (Lit.int .u8 x).wf = true) → l1.length ≤ maxLen → l1.length * 1 ≤ 140737488351232 → (∀ x ∈ l1, (Lit.int .u8 x).wf = true) → ∃ k, laws_FnPlaced.f k l0 l1 = some true
end Go.Proofs.Ytmmgmbmjlbdpnaa.PFnPlaced
namespace Go.Proofs.YtmmgmbmjlbdpnaaO
open Go.ChangeShapes Go.WideShapes Go.Proofs.YtmmgmbmjlbdpnaaW.PrintWords Go.RowKit
def InU8 (n : Int) : Prop := 0 ≤ n ∧ n ≤ 255
def Opens {α : Type} (P : Program) (t : TypeId) (d : Kd α) (g : α → Prop) : Prop :=
  ∀ {H : Type} (enc : TypeId × Value → H) (w : World) (fuel : Nat) (cs : List Value) (y : DataW H) (ps : List MemPlace),
    DataW.trod enc P w 0 (fun _ => true) true fuel t cs = some (y, ps) → (∀ n ∈ y.weights P t, n ≤ reachBytes) → ∃ x, d.K w x cs ∧ g x
theorem Opens.imp {α : Type} {P : Program} {t : TypeId} {d : Kd α} {g g' : α → Prop} (h : Opens P t d g) (k : ∀ x, g x → g' x) : Opens P t d g' := by
  intro H enc w fuel cs y ps ht hw
  obtain ⟨x, hx, hg⟩ := h enc w fuel cs y ps ht hw
  exact ⟨x, hx, k x hg⟩
theorem opens_int {P : Program} {t : TypeId} {k : IntKind} (ht : P.underlying t = some (.int k)) : Opens P t (Kd.int k) (fun n => (Lit.int k n).wf = true) := by
  intro H enc w fuel cs y ps h _
  obtain ⟨n, rfl, _, hw⟩ := DataW.trod_int ht h
  exact ⟨n, rfl, hw⟩
theorem wf_u8 {n : Int} (h : (Lit.int .u8 n).wf = true) : InU8 n := bounds_u8 h
theorem opens_u8 {P : Program} {t : TypeId} (ht : P.underlying t = some (.int .u8)) : Opens P t (Kd.int .u8) InU8 := Opens.imp (opens_int ht) fun _ h => wf_u8 h
theorem exists_list {α : Type} (p : Nat → α → Prop) : ∀ n : Nat, (∀ i, i < n → ∃ x, p i x) → ∃ xs : List α, xs.length = n ∧ ∀ i x, xs[i]? = some x → p i x
  | 0, _ => ⟨[], rfl, fun i x h => by simp at h⟩
  | n + 1, h => by
    obtain ⟨xs, hl, hx⟩ := exists_list p n (fun i hi => h i (by omega))
    obtain ⟨x, hp⟩ := h n (by omega)
    refine ⟨xs ++ [x], by simp [hl], fun i y hy => ?_⟩
    rcases Nat.lt_or_ge i xs.length with hi | hi
    · rw [List.getElem?_append_left hi] at hy
      exact hx i y hy
    · have : i = n := by
        have := (List.getElem?_eq_some_iff.1 hy).1
        rw [List.length_append, List.length_singleton] at this
        omega
      subst this
      rw [List.getElem?_append_right hi] at hy
      rw [hl] at hy
      simp at hy
      subst hy
      exact hp
theorem add_add (ad : Addr) (i j : Nat) : (ad.add i).add j = ad.add (i + j) := by
  unfold Addr.add
  by_cases h1 : i = 0 <;> by_cases h2 : j = 0 <;> simp [h1, h2, Nat.add_assoc]
theorem weightsAll_mem {H : Type} {P : Program} {e : TypeId} : ∀ {l : List (DataW H)} {d : DataW H}, d ∈ l → ∀ n ∈ d.weights P e, n ∈ DataW.weightsAll P e l
  | [], d, h, _, _ => by simp at h
  | x :: r, d, h, n, hn => by
    simp only [DataW.weightsAll, List.mem_append]
    rcases List.mem_cons.1 h with rfl | h
    · exact .inl hn
    · exact .inr (weightsAll_mem h n hn)
theorem opens_slice {α : Type} {P : Program} {t e : TypeId} {d : Kd α} {g : α → Prop} {B : Nat} (ht : P.underlying t = some (.slice e)) (hs : P.cellsOf e = d.sz) (hB : P.bytesOf e = B) (h : Opens P e d g) :
    Opens P t (Kd.slice e d) (fun xs => xs.length * B ≤ 140737488351232 ∧ ∀ x ∈ xs, g x) := by
  intro H enc w fuel cs y ps hy hw
  rcases DataW.trod_slice ht hy with ⟨rfl, _⟩ | ⟨a, len, cap, elems, rest, n, rfl, rfl, hx, _, hlc, hcm, hel, hget, _, _⟩
  · exact ⟨[], ⟨none, 0, rfl, Nat.le_refl _, Kd.C_nil d w⟩, by simp⟩
  · obtain ⟨rfl, _⟩ := Prod.mk.inj hx
    simp only [DataW.weights, ht] at hw
    have hlen : len * B ≤ 140737488351232 := by
      have := hw _ List.mem_cons_self
      simp only [List.length_map, hB] at this
      have h2 : len * B ≤ (elems.length + rest.length) * B := Nat.mul_le_mul_right _ (by omega)
      exact Nat.le_trans h2 this
    have key : ∀ i, i < len → ∃ x, (∃ c, c.length = d.sz ∧ d.K w x c ∧ ∀ j u, c[j]? = some u → w.cell? (a.add (i * d.sz + j)) = some u) ∧ g x := by
      intro i hi
      have hg := hget i hi
      rw [List.getElem?_eq_getElem (by omega), Option.bind_eq_some_iff] at hg
      obtain ⟨c, hc, hd⟩ := hg
      obtain ⟨_, hcl, hcell⟩ := World.cells?_some hc
      obtain ⟨x, hK, hgx⟩ := h enc w n c _ _ hd (fun m hm => hw m (List.mem_cons_of_mem _ (List.mem_append_left _ (weightsAll_mem (List.mem_map_of_mem (List.getElem_mem _)) m hm))))
      refine ⟨x, ⟨c, hcl.trans hs, hK, fun j u hj => ?_⟩, hgx⟩
      have hjl : j < P.cellsOf e := by
        have := (List.getElem?_eq_some_iff.1 hj).1
        omega
      have := hcell j hjl
      rw [add_add, hj, hs] at this
      exact this
    obtain ⟨xs, hxl, hxs⟩ := exists_list _ len key
    refine ⟨xs, ⟨some a, cap, by rw [hxl], by omega, hxl ▸ ⟨hxl, by simp only [maxLen] at hcm; omega, fun _ => ⟨a, rfl, fun j p hp => (hxs j p hp).1⟩⟩⟩, by rw [hxl]; exact hlen, fun x hx => ?_⟩
    obtain ⟨i, hi, rfl⟩ := List.getElem_of_mem hx
    exact (hxs i _ (List.getElem?_eq_getElem hi)).2
theorem weights_of {H : Type} {P : Program} {ts : List TypeId} {ds : List (DataW H)} {j : Nat} {t : TypeId} {d : DataW H} (hsz : (DataW.weightsEach P ts ds).all (· ≤ reachBytes) = true) (ht : ts[j]? = some t) (hd : ds[j]? = some d) : ∀ n ∈ d.weights P t, n ≤ reachBytes := by
  intro n hn
  have := List.all_eq_true.1 hsz n (DataW.weights_mem_each ht hd n hn)
  simpa using this
theorem open_slice {α H : Type} {enc : TypeId × Value → H} {P : Program} {W : World} {t e : TypeId} {d : Kd α} {g : List α → Prop} {a : Option Addr} {len cap : Nat} {y : DataW H} {ps : List MemPlace} (h : Opens P t (Kd.slice e d) g)
    (hy : DataW.Trod enc P W 0 (fun _ => true) true t (.slice a len cap) y ps) (hw : ∀ n ∈ y.weights P t, n ≤ reachBytes) : ∃ xs : List α, len = xs.length ∧ xs.length ≤ cap ∧ d.C W a xs.length xs ∧ g xs := by
  obtain ⟨fuel, hf⟩ := hy
  obtain ⟨xs, ⟨A, c, he, hl, hC⟩, hg⟩ := h enc W fuel _ y ps hf hw
  have he' : Value.slice a len cap = .slice A xs.length c := by simpa [Value.cells] using he
  injection he' with h1 h2 h3
  subst h1 h2 h3
  exact ⟨xs, rfl, hl, hC, hg⟩
end Go.Proofs.YtmmgmbmjlbdpnaaO
namespace Go.Proofs.Ytmmgmbmjlbdpnaa.OFnPlaced
open Go.RowKit Go.Proofs.Ytmmgmbmjlbdpnaa.PFnPlaced Go.Proofs.YtmmgmbmjlbdpnaaW.PrintWords Go.Proofs.YtmmgmbmjlbdpnaaO
end Go.Proofs.Ytmmgmbmjlbdpnaa.OFnPlaced
namespace Go.Proofs.YtmmgmbmjlbdpnaaO
open Go.RowKit Go.Proofs.YtmmgmbmjlbdpnaaW.PrintWords Go.Proofs.YtmmgmbmjlbdpnaaW.PrintLast Go.Proofs.YtmmgmbmjlbdpnaaW.PrintMore
theorem w64 {n : Int} (h : -9223372036854775808 ≤ n) (k : n ≤ 9223372036854775807) : wrap64 n = n := by unfold wrap64; omega
theorem w64s (i : Nat) (h : i < 4611686018427387904) : wrap64 ((i : Int) + 1) = ((i + 1 : Nat) : Int) := by unfold wrap64; omega
theorem ev_some {α : Type} {x r : α} (h : x = r) : Ev (fun _ => some x) r := ⟨0, fun _ _ => by rw [h]⟩
theorem ev_pos {α : Type} {c : Prop} [Decidable c] {f g : Nat → Option α} {r : α} (h : c) (k : Ev f r) : Ev (fun n => if c then f n else g n) r := by
  obtain ⟨K, hK⟩ := k
  exact ⟨K, fun n hn => (if_pos h).trans (hK n hn)⟩
theorem ev_neg {α : Type} {c : Prop} [Decidable c] {f g : Nat → Option α} {r : α} (h : ¬ c) (k : Ev g r) : Ev (fun n => if c then f n else g n) r := by
  obtain ⟨K, hK⟩ := k
  exact ⟨K, fun n hn => (if_neg h).trans (hK n hn)⟩
theorem ev_ite {α : Type} {c : Prop} [Decidable c] {f g : Nat → Option α} {r : α} (h : c → Ev f r) (k : ¬ c → Ev g r) : Ev (fun n => if c then f n else g n) r := by
  by_cases hc : c
  · exact ev_pos hc (h hc)
  · exact ev_neg hc (k hc)
theorem ev_bindc {α β : Type} {x : Option α} {f : Nat → α → Option β} {a : α} {r : β} (h : x = some a) (k : Ev (fun n => f n a) r) : Ev (fun n => x.bind (f n)) r := by
  subst h; exact k
theorem ev_unique {α : Type} {f : Nat → Option α} {a b : α} (h : Ev f a) (k : Ev f b) : a = b := by
  obtain ⟨K, hK⟩ := h
  obtain ⟨K', hK'⟩ := k
  have h1 := hK (max K K') (Nat.le_max_left _ _)
  have h2 := hK' (max K K') (Nat.le_max_right _ _)
  rw [h1] at h2
  exact Option.some.inj h2
theorem ev_for {σ ρ : Type} (n : Nat) (L : Nat → Nat → σ → Option ρ) (I : Nat → σ → Prop) (Q : ρ → Prop)
    (hend : ∀ s, I n s → ∃ r, Ev (fun k => L k n s) r ∧ Q r)
    (hstep : ∀ i s, i < n → I i s → (∃ r, Ev (fun k => L k i s) r ∧ Q r) ∨ ∃ s', I (i + 1) s' ∧ ∀ r, Ev (fun k => L k (i + 1) s') r → Ev (fun k => L k i s) r) :
    ∀ i s, i ≤ n → I i s → ∃ r, Ev (fun k => L k i s) r ∧ Q r := by
  have key : ∀ d i s, i + d = n → I i s → ∃ r, Ev (fun k => L k i s) r ∧ Q r := by
    intro d
    induction d with
    | zero => intro i s hi h; obtain rfl : i = n := by omega
              exact hend s h
    | succ d ih =>
      intro i s hi h
      rcases hstep i s (by omega) h with h' | ⟨s', hI, hr⟩
      · exact h'
      · obtain ⟨r, hr', hQ⟩ := ih (i + 1) s' (by omega) hI
        exact ⟨r, hr r hr', hQ⟩
  intro i s hi h
  exact key (n - i) i s (by omega) h
theorem ev_for1 {σ ρ : Type} (n : Nat) (L : Nat → Nat → σ → Option ρ) (I : Nat → σ → Prop) (a : ρ)
    (hend : ∀ s, I n s → Ev (fun k => L k n s) a)
    (hstep : ∀ i s, i < n → I i s → Ev (fun k => L k i s) a ∨ ∃ s', I (i + 1) s' ∧ ∀ r, Ev (fun k => L k (i + 1) s') r → Ev (fun k => L k i s) r) :
    ∀ i s, i ≤ n → I i s → Ev (fun k => L k i s) a := by
  intro i s hi h
  obtain ⟨r, hr, rfl⟩ := ev_for n L I (fun r => r = a) (fun s hs => ⟨a, hend s hs, rfl⟩) (fun i s hi hs => (hstep i s hi hs).imp (fun h => ⟨a, h, rfl⟩) id) i s hi h
  exact hr
theorem rd_get {xs : List Int} {i : Nat} (h : i < xs.length) : rd xs (i : Int) = xs[i] := by simp [rd, List.getD_eq_getElem?_getD, h]
theorem rdOf_get {α : Type} {d : α} {xs : List α} {i : Nat} (h : i < xs.length) : rdOf d xs (i : Int) = xs[i] := by simp [rdOf, List.getD_eq_getElem?_getD, h]
theorem getD_get {α : Type} {d : α} {xs : List α} {i : Nat} (h : i < xs.length) : xs.getD (i : Int).toNat d = xs[i] := by simp [List.getD_eq_getElem?_getD, h]
theorem bool_of (P : Prop) : ∃ b : Bool, b = true ↔ P := ⟨@decide P (Classical.propDecidable P), by simp⟩
theorem bool_false {P : Prop} {b : Bool} (h : b = true ↔ P) (k : ¬ P) : b = false := by
  cases b with
  | false => rfl
  | true => exact absurd (h.1 rfl) k
theorem ev_all (n : Nat) (L : Nat → Nat → Option Bool) (ok : Nat → Prop) (e b : Bool) (hb : b = true ↔ e = true ∧ ∀ i, i < n → ok i) (hend : Ev (fun k => L k n) e)
    (hyes : ∀ i, i < n → (∀ j, j < i → ok j) → ok i → ∀ r, Ev (fun k => L k (i + 1)) r → Ev (fun k => L k i) r) (hno : ∀ i, i < n → (∀ j, j < i → ok j) → ¬ ok i → Ev (fun k => L k i) false) : Ev (fun k => L k 0) b := by
  refine ev_for1 n (fun k i (_ : Unit) => L k i) (fun i _ => ∀ j, j < i → ok j) b ?_ ?_ 0 () (Nat.zero_le _) (fun j hj => by omega)
  · intro _ h
    have : b = e := by
      cases e with
      | false => exact bool_false hb (fun h => by simp at h)
      | true => exact hb.2 ⟨rfl, h⟩
    rw [this]
    exact hend
  · intro i _ hi h
    by_cases ho : ok i
    · refine .inr ⟨(), fun j hj => ?_, hyes i hi h ho⟩
      rcases Nat.lt_or_ge j i with h1 | h1
      · exact h j h1
      · obtain rfl : j = i := by omega
        exact ho
    · have : b = false := bool_false hb (fun h => ho (h.2 i hi))
      rw [this]
      exact .inl (hno i hi h ho)
theorem wrap_u64 {n : Int} (h0 : 0 ≤ n) (h1 : n ≤ 18446744073709551615) : IntKind.u64.wrap n = n := by
  have e : IntKind.u64.wrap n = n % 18446744073709551616 := by simp only [IntKind.wrap, IntKind.bits, IntKind.signed]; rfl
  rw [e]; omega
def Chain {α : Type} (E : α → Int → Int → Prop) : List α → Int → Int → Prop
  | [], c, d => c = d
  | x :: r, c, d => ∃ m, E x c m ∧ Chain E r m d
theorem Chain.snoc {α : Type} {E : α → Int → Int → Prop} : ∀ {l : List α} {c m d : Int} {x : α}, Chain E l c m → E x m d → Chain E (l ++ [x]) c d
  | [], _, _, _, _, h, k => by cases h; exact ⟨_, k, rfl⟩
  | _ :: _, _, _, _, _, ⟨q, h1, h2⟩, k => ⟨q, h1, Chain.snoc h2 k⟩
end Go.Proofs.YtmmgmbmjlbdpnaaO
namespace Go.Proofs.Ytmmgmbmjlbdpnaa.Pure
open Go.RowKit Go.Proofs.Ytmmgmbmjlbdpnaa.PFnPlaced Go.Proofs.Ytmmgmbmjlbdpnaa.OFnPlaced Go.Proofs.YtmmgmbmjlbdpnaaW.PrintWords Go.Proofs.YtmmgmbmjlbdpnaaW.PrintLast Go.Proofs.YtmmgmbmjlbdpnaaW.PrintMore Go.Proofs.YtmmgmbmjlbdpnaaO
set_option linter.unusedVariables false
set_option linter.unusedSimpArgs false
theorem st_spec_GoodName_j0 {r : (Bool)} {x0 : ByteArray} {x16 : Bool} (h : Ev (fun k => if x16 = true then (some false) else (spec_GoodName.l0 k x0 0)) r) : Ev (fun k => spec_GoodName.j0 k x0 x16) r := Ev.step (fun k => by rw [spec_GoodName.j0]) h
theorem st_spec_GoodName_l0 {r : (Bool)} {x0 : ByteArray} {x3 : Int} (h : Ev (fun k => if x3 < (x0.size : Int) then (if 0 ≤ x3 then ((spec_l1Letter.f (bt x0 x3)).bind fun t387 => (if t387 = true then (spec_GoodName.l0 k x0 (wrap64 (x3 + 1))) else ((spec_l1Digit.f (bt x0 x3)).bind fun t388 => (if t388 = true then (spec_GoodName.l0 k x0 (wrap64 (x3 + 1))) else (some false))))) else (none)) else (some true)) r) : Ev (fun k => spec_GoodName.l0 k x0 x3) r := Ev.step (fun k => by rw [spec_GoodName.l0]) h
theorem st_spec_GoodScene_l0 {r : (Bool)} {x0 : List (S36)} {x10 : List (S36)} {x11 : Int} {x12 : Int} (h : Ev (fun k => if x12 < x11 then (if 0 ≤ x12 then (if x12 < (x10.length : Int) then ((spec_GoodName.f k ((rd_T36 x10 x12).f0)).bind fun t391 => (if t391 = true then ((spec_l1In.f ((rd_T36 x10 x12).f1) (-1) (wrap64 (x12 - 1))).bind fun t392 => (if t392 = true then ((spec_l4Spot.f ((rd_T36 x10 x12).f0) ((rd_T36 x10 x12).f1) ((rd_T36 x10 x12).f2) ((rd_T36 x10 x12).f3) ((rd_T36 x10 x12).f4) ((rd_T36 x10 x12).f5)).bind fun bt393 => ((spec_l4Good.f bt393.1 bt393.2.1 bt393.2.2.1 bt393.2.2.2).bind fun t397 => (spec_GoodScene.j1 k x0 x12 x10 x11 x12 (!t397) ((rd_T36 x10 x12).f0) ((rd_T36 x10 x12).f1) ((rd_T36 x10 x12).f2) ((rd_T36 x10 x12).f3) ((rd_T36 x10 x12).f4) ((rd_T36 x10 x12).f5)))) else (spec_GoodScene.j1 k x0 x12 x10 x11 x12 true ((rd_T36 x10 x12).f0) ((rd_T36 x10 x12).f1) ((rd_T36 x10 x12).f2) ((rd_T36 x10 x12).f3) ((rd_T36 x10 x12).f4) ((rd_T36 x10 x12).f5)))) else (spec_GoodScene.j1 k x0 x12 x10 x11 x12 true ((rd_T36 x10 x12).f0) ((rd_T36 x10 x12).f1) ((rd_T36 x10 x12).f2) ((rd_T36 x10 x12).f3) ((rd_T36 x10 x12).f4) ((rd_T36 x10 x12).f5)))) else (none)) else (none)) else (some true)) r) : Ev (fun k => spec_GoodScene.l0 k x0 x10 x11 x12) r := Ev.step (fun k => by rw [spec_GoodScene.l0]) h
theorem st_spec_GoodScene_j1 {r : (Bool)} {x0 : List (S36)} {x3 : Int} {x10 : List (S36)} {x11 : Int} {x12 : Int} {x34 : Bool} {x391000 : ByteArray} {x391001 : Int} {x391002 : Int} {x391003 : Int} {x391004 : Int} {x391005 : Bool} (h : Ev (fun k => if x34 = true then (some false) else (if 0 ≤ x3 then (if x3 ≤ (x0.length : Int) then ((some (x0.take (x3 : Int).toNat : List (S36))).bind fun y398 => (spec_GoodScene.l1 k x0 x10 x11 x12 y398 (y398.length : Int) 0 x391000 x391001 x391002 x391003 x391004 x391005)) else (none)) else (none))) r) : Ev (fun k => spec_GoodScene.j1 k x0 x3 x10 x11 x12 x34 x391000 x391001 x391002 x391003 x391004 x391005) r := Ev.step (fun k => by rw [spec_GoodScene.j1]) h
theorem st_spec_GoodScene_l1 {r : (Bool)} {x0 : List (S36)} {x10 : List (S36)} {x11 : Int} {x12 : Int} {x37 : List (S36)} {x38 : Int} {x39 : Int} {x391000 : ByteArray} {x391001 : Int} {x391002 : Int} {x391003 : Int} {x391004 : Int} {x391005 : Bool} (h : Ev (fun k => if x39 < x38 then (if 0 ≤ x39 then (if x39 < (x37.length : Int) then (if ((rd_T36 x37 x39).f1) = x391001 then (if ((rd_T36 x37 x39).f0).toList = x391000.toList then (some false) else (spec_GoodScene.l1 k x0 x10 x11 x12 x37 x38 (wrap64 (x39 + 1)) x391000 x391001 x391002 x391003 x391004 x391005)) else (spec_GoodScene.l1 k x0 x10 x11 x12 x37 x38 (wrap64 (x39 + 1)) x391000 x391001 x391002 x391003 x391004 x391005)) else (none)) else (none)) else (spec_GoodScene.l0 k x0 x10 x11 (wrap64 (x12 + 1)))) r) : Ev (fun k => spec_GoodScene.l1 k x0 x10 x11 x12 x37 x38 x39 x391000 x391001 x391002 x391003 x391004 x391005) r := Ev.step (fun k => by rw [spec_GoodScene.l1]) h
theorem st_spec_SpotOf_j0 {r : (Int × Int × Int × Bool × Bool)} {x0 : List (S36)} {x1 : Int} {x18 : Bool} (h : Ev (fun k => if x18 = true then (some (0, 0, 0, false, false)) else ((spec_l4Where.f k x0 x1).bind fun bt407 => (if bt407.2.2.2.2 = true then (some (bt407.1, bt407.2.1, bt407.2.2.1, bt407.2.2.2.1, true)) else (some (0, 0, 0, false, false))))) r) : Ev (fun k => spec_SpotOf.j0 k x0 x1 x18) r := Ev.step (fun k => by rw [spec_SpotOf.j0]) h
theorem st_spec_Hang_j0 {r : ((List (S36)) × Bool)} {x0 : List (S36)} {x1 : Int} {x2 : Int} {x28 : Bool} {x419000 : Int} {x419001 : Int} {x419002 : Int} {x419003 : Bool} (h : Ev (fun k => if x28 = true then (some (([] : List (S36)), false)) else ((spec_l4Where.f k x0 x2).bind fun bt420 => (if bt420.2.2.2.2 = true then ((spec_l4Back.f k bt420.1 bt420.2.1 bt420.2.2.1 bt420.2.2.2.1).bind fun bt426 => ((spec_l4Join.f k bt426.1 bt426.2.1 bt426.2.2.1 bt426.2.2.2 x419000 x419001 x419002 x419003).bind fun bt430 => ((some (([] : List (S36)) : List (S36))).bind fun y435 => (if y435.length + x0.length < 2513169434916 then ((some (y435 ++ x0 : List (S36))).bind fun y438 => (if 0 ≤ x1 then (if x1 < (x0.length : Int) then (if x1 < (y438.length : Int) then ((some (y438.set (x1 : Int).toNat (⟨(rd_T36 x0 x1).f0, x2, bt430.1, bt430.2.1, bt430.2.2.1, bt430.2.2.2⟩ : S36) : List (S36))).bind fun y442 => ((spec_GoodScene.f k y442).bind fun t443 => (if t443 = true then (some (y442, true)) else (some (([] : List (S36)), false))))) else (none)) else (none)) else (none))) else (none))))) else (some (([] : List (S36)), false))))) r) : Ev (fun k => spec_Hang.j0 k x0 x1 x2 x28 x419000 x419001 x419002 x419003) r := Ev.step (fun k => by rw [spec_Hang.j0]) h
theorem st_laws_FnPlaced_j0 {r : (Bool)} {x1 : List Int} (h : Ev (fun k => (spec_DrawHang.f k x1).bind fun bt480 => ((impl_Hang.f k bt480.1 bt480.2.1 bt480.2.2).bind fun bt485 => ((spec_Hang.f k bt480.1 bt480.2.1 bt480.2.2).bind fun bt489 => (if (bt485.2 != bt489.2) = true then (some false) else (if bt485.2 = true then ((impl_SpotOf.f k bt480.1 bt480.2.1).bind fun bt493 => ((impl_SpotOf.f k bt485.1 bt480.2.1).bind fun bt499 => (if bt493.2.2.2.2 = true then (if bt499.2.2.2.2 = true then (if (bt493.1 == bt499.1 && (bt493.2.1 == bt499.2.1 && (bt493.2.2.1 == bt499.2.2.1 && (bt493.2.2.2.1 == bt499.2.2.2.1)))) = true then (if 0 ≤ bt480.2.1 then (if bt480.2.1 < (bt485.1.length : Int) then (some (((rd_T36 bt485.1 bt480.2.1).f1) == bt480.2.2)) else (none)) else (none)) else (some false)) else (some false)) else (some false)))) else (some ((bt485.1.length : Int) == 0))))))) r) : Ev (fun k => laws_FnPlaced.j0 k x1) r := Ev.step (fun k => by rw [laws_FnPlaced.j0]) h
theorem st_impl_Spot_turned_j0 {r : (Int × Int)} {x1 : Int} {x2 : Int} {x157000 : Int} {x157001 : Int} {x157002 : Int} {x157003 : Bool} (h : Ev (fun k => impl_Spot_turned.l0 k x1 x2 x157002 0) r) : Ev (fun k => impl_Spot_turned.j0 k x1 x2 x157000 x157001 x157002 x157003) r := Ev.step (fun k => by rw [impl_Spot_turned.j0]) h
theorem st_impl_Spot_turned_l0 {r : (Int × Int)} {x1 : Int} {x2 : Int} {x13 : Int} {x14 : Int} (h : Ev (fun k => if x14 < x13 then (impl_Spot_turned.l0 k (wrap64 (-x2)) x1 x13 (wrap64 (x14 + 1))) else (some (x1, x2))) r) : Ev (fun k => impl_Spot_turned.l0 k x1 x2 x13 x14) r := Ev.step (fun k => by rw [impl_Spot_turned.l0]) h
theorem st_spec_l4Apply_j0 {r : (Int × Int)} {x1 : Int} {x2 : Int} {x170000 : Int} {x170001 : Int} {x170002 : Int} {x170003 : Bool} (h : Ev (fun k => spec_l4Apply.l0 k x1 x2 0 x170000 x170001 x170002 x170003) r) : Ev (fun k => spec_l4Apply.j0 k x1 x2 x170000 x170001 x170002 x170003) r := Ev.step (fun k => by rw [spec_l4Apply.j0]) h
theorem st_spec_l4Apply_l0 {r : (Int × Int)} {x1 : Int} {x2 : Int} {x8 : Int} {x170000 : Int} {x170001 : Int} {x170002 : Int} {x170003 : Bool} (h : Ev (fun k => if x8 < x170002 then (spec_l4Apply.l0 k (wrap64 (-x2)) x1 (wrap64 (x8 + 1)) x170000 x170001 x170002 x170003) else (some (x1, x2))) r) : Ev (fun k => spec_l4Apply.l0 k x1 x2 x8 x170000 x170001 x170002 x170003) r := Ev.step (fun k => by rw [spec_l4Apply.l0]) h
theorem st_impl_JoinSpots_j0 {r : (Int × Int × Int × Bool × Bool)} {x17 : Bool} {x185000 : Int} {x185001 : Int} {x185002 : Int} {x185003 : Bool} {x186000 : Int} {x186001 : Int} {x186002 : Int} {x186003 : Bool} (h : Ev (fun k => if x17 = true then (some (0, 0, 0, false, false)) else ((impl_Spot_turned.f k x185000 x185001 x185002 x185003 x186000 x186001).bind fun bt189 => (if x185003 = true then ((impl_isSpot.f (wrap64 (x185000 + bt189.1)) (wrap64 (x185001 + bt189.2)) (Int.tmod (wrap64 (x185002 + (wrap64 (4 - x186002)))) 4) (x185003 != x186003)).bind fun t192 => (if t192 = true then (some (wrap64 (x185000 + bt189.1), wrap64 (x185001 + bt189.2), Int.tmod (wrap64 (x185002 + (wrap64 (4 - x186002)))) 4, (x185003 != x186003), true)) else (some (0, 0, 0, false, false)))) else ((impl_isSpot.f (wrap64 (x185000 + bt189.1)) (wrap64 (x185001 + bt189.2)) (Int.tmod (wrap64 (x185002 + x186002)) 4) (x185003 != x186003)).bind fun t194 => (if t194 = true then (some (wrap64 (x185000 + bt189.1), wrap64 (x185001 + bt189.2), Int.tmod (wrap64 (x185002 + x186002)) 4, (x185003 != x186003), true)) else (some (0, 0, 0, false, false))))))) r) : Ev (fun k => impl_JoinSpots.j0 k x17 x185000 x185001 x185002 x185003 x186000 x186001 x186002 x186003) r := Ev.step (fun k => by rw [impl_JoinSpots.j0]) h
theorem st_spec_l1Cur_scene_j0 {r : ((List (S36)) × Int × Int)} {x3 : List (S36)} {x4 : Int} {x1000 : List Int} {x1001 : Int} {x1002 : Int} (h : Ev (fun k => spec_l1Cur_scene.l0 k x3 x4 0 x1000 x1001 x1002) r) : Ev (fun k => spec_l1Cur_scene.j0 k x3 x4 x1000 x1001 x1002) r := Ev.step (fun k => by rw [spec_l1Cur_scene.j0]) h
theorem st_spec_l1Cur_scene_l0 {r : ((List (S36)) × Int × Int)} {x3 : List (S36)} {x4 : Int} {x5 : Int} {x1000 : List Int} {x1001 : Int} {x1002 : Int} (h : Ev (fun k => if x5 < x4 then ((spec_l1Cur_spot.f x1000 x1001 x1002).bind fun bt216 => ((spec_l4Good.f bt216.1 bt216.2.1 bt216.2.2.1 bt216.2.2.2.1).bind fun t223 => (if t223 = true then (spec_l1Cur_scene.j2 k x3 x4 x5 false x1000 bt216.2.2.2.2.1 bt216.2.2.2.2.2 bt216.1 bt216.2.1 bt216.2.2.1 bt216.2.2.2.1) else ((spec_l1Cur_one.f x1000 bt216.2.2.2.2.1 bt216.2.2.2.2.2 4).bind fun bt224 => (spec_l1Cur_scene.j2 k x3 x4 x5 (!bt224.1) x1000 bt224.2.1 bt224.2.2 bt216.1 bt216.2.1 bt216.2.2.1 bt216.2.2.2.1))))) else (some (x3, x1001, x1002))) r) : Ev (fun k => spec_l1Cur_scene.l0 k x3 x4 x5 x1000 x1001 x1002) r := Ev.step (fun k => by rw [spec_l1Cur_scene.l0]) h
theorem st_spec_l1Cur_scene_j2 {r : ((List (S36)) × Int × Int)} {x3 : List (S36)} {x4 : Int} {x5 : Int} {x30 : Bool} {x1000 : List Int} {x1001 : Int} {x1002 : Int} {x223000 : Int} {x223001 : Int} {x223002 : Int} {x223003 : Bool} (h : Ev (fun k => if x30 = true then (spec_l1Cur_scene.j3 k x3 x4 x5 x1000 x1001 x1002 1 0 0 false) else (spec_l1Cur_scene.j3 k x3 x4 x5 x1000 x1001 x1002 x223000 x223001 x223002 x223003)) r) : Ev (fun k => spec_l1Cur_scene.j2 k x3 x4 x5 x30 x1000 x1001 x1002 x223000 x223001 x223002 x223003) r := Ev.step (fun k => by rw [spec_l1Cur_scene.j2]) h
theorem st_spec_l1Cur_scene_j3 {r : ((List (S36)) × Int × Int)} {x3 : List (S36)} {x4 : Int} {x5 : Int} {x1000 : List Int} {x1001 : Int} {x1002 : Int} {x223000 : Int} {x223001 : Int} {x223002 : Int} {x223003 : Bool} (h : Ev (fun k => (spec_l1Cur_of.f x1000 x1001 x1002 (([(⟨#[97]⟩ : ByteArray), (⟨#[98]⟩ : ByteArray), (⟨#[99]⟩ : ByteArray), (⟨#[100]⟩ : ByteArray)] : List ByteArray))).bind fun bt230 => ((spec_l1Num.f k x5).bind fun t233 => (if bt230.1.size + t233.size ≤ 9223372036854775807 then ((spec_l1Cur_pick.f x1000 bt230.2.1 bt230.2.2 (wrap64 (x5 + 1))).bind fun bt234 => ((spec_l1Cur_one.f x1000 bt234.2.1 bt234.2.2 80).bind fun bt238 => (if bt238.1 = true then ((spec_l1Cur_of.f x1000 bt238.2.1 bt238.2.2 (([(⟨#[]⟩ : ByteArray), (⟨#[97, 48]⟩ : ByteArray), (⟨#[98, 49]⟩ : ByteArray)] : List ByteArray))).bind fun bt244 => (spec_l1Cur_scene.j4 k x3 x4 x5 x1000 bt244.2.1 bt244.2.2 bt244.1 (wrap64 (bt234.1 - 1)) x223000 x223001 x223002 x223003)) else (spec_l1Cur_scene.j4 k x3 x4 x5 x1000 bt238.2.1 bt238.2.2 (bt230.1 ++ t233) (wrap64 (bt234.1 - 1)) x223000 x223001 x223002 x223003)))) else (none)))) r) : Ev (fun k => spec_l1Cur_scene.j3 k x3 x4 x5 x1000 x1001 x1002 x223000 x223001 x223002 x223003) r := Ev.step (fun k => by rw [spec_l1Cur_scene.j3]) h
theorem st_spec_l1Cur_scene_j4 {r : ((List (S36)) × Int × Int)} {x3 : List (S36)} {x4 : Int} {x5 : Int} {x1000 : List Int} {x1001 : Int} {x1002 : Int} {x238000 : ByteArray} {x238001 : Int} {x238002 : Int} {x238003 : Int} {x238004 : Int} {x238005 : Bool} (h : Ev (fun k => (spec_l1Cur_one.f x1000 x1001 x1002 80).bind fun bt247 => (if bt247.1 = true then ((spec_l1Cur_among.f x1000 bt247.2.1 bt247.2.2 (([(-2), x5] : List Int))).bind fun bt253 => (if x3.length < 2513169434916 then (spec_l1Cur_scene.l0 k (x3 ++ [(⟨x238000, bt253.1, x238002, x238003, x238004, x238005⟩ : S36)]) x4 (wrap64 (x5 + 1)) x1000 bt253.2.1 bt253.2.2) else (none))) else (if x3.length < 2513169434916 then (spec_l1Cur_scene.l0 k (x3 ++ [(⟨x238000, x238001, x238002, x238003, x238004, x238005⟩ : S36)]) x4 (wrap64 (x5 + 1)) x1000 bt247.2.1 bt247.2.2) else (none)))) r) : Ev (fun k => spec_l1Cur_scene.j4 k x3 x4 x5 x1000 x1001 x1002 x238000 x238001 x238002 x238003 x238004 x238005) r := Ev.step (fun k => by rw [spec_l1Cur_scene.j4]) h
theorem st_impl_GoodName_l0 {r : (Bool)} {x0 : ByteArray} {x5 : Int} {x6 : Int} (h : Ev (fun k => if x6 < x5 then (if 0 ≤ x6 then (if x6 < (x0.size : Int) then ((impl_isLetter.f (bt x0 x6)).bind fun t283 => (if t283 = true then (impl_GoodName.l0 k x0 x5 (wrap64 (x6 + 1))) else (if (bt x0 x6) = 95 then (impl_GoodName.l0 k x0 x5 (wrap64 (x6 + 1))) else (if x6 = 0 then (some false) else ((impl_isDigit.f (bt x0 x6)).bind fun t284 => (if t284 = true then (impl_GoodName.l0 k x0 x5 (wrap64 (x6 + 1))) else (some false))))))) else (none)) else (none)) else ((impl_inRange.f (x0.size : Int) 1 20).bind fun t282 => (some t282))) r) : Ev (fun k => impl_GoodName.l0 k x0 x5 x6) r := Ev.step (fun k => by rw [impl_GoodName.l0]) h
theorem st_impl_GoodScene_l0 {r : (Bool)} {x0 : List (S36)} {x5 : List (S36)} {x6 : Int} {x7 : Int} (h : Ev (fun k => if x7 < x6 then (if 0 ≤ x7 then (if x7 < (x5.length : Int) then ((impl_GoodName.f k ((rd_T36 x5 x7).f0)).bind fun t291 => (if t291 = true then ((impl_inRange.f ((rd_T36 x5 x7).f1) (-1) (wrap64 (x7 - 1))).bind fun t292 => (if t292 = true then ((impl_Node_spot.f ((rd_T36 x5 x7).f0) ((rd_T36 x5 x7).f1) ((rd_T36 x5 x7).f2) ((rd_T36 x5 x7).f3) ((rd_T36 x5 x7).f4) ((rd_T36 x5 x7).f5)).bind fun bt293 => ((impl_isSpot.f bt293.1 bt293.2.1 bt293.2.2.1 bt293.2.2.2).bind fun t297 => (impl_GoodScene.j1 k x0 x7 x5 x6 x7 (!t297) ((rd_T36 x5 x7).f0) ((rd_T36 x5 x7).f1) ((rd_T36 x5 x7).f2) ((rd_T36 x5 x7).f3) ((rd_T36 x5 x7).f4) ((rd_T36 x5 x7).f5)))) else (impl_GoodScene.j1 k x0 x7 x5 x6 x7 true ((rd_T36 x5 x7).f0) ((rd_T36 x5 x7).f1) ((rd_T36 x5 x7).f2) ((rd_T36 x5 x7).f3) ((rd_T36 x5 x7).f4) ((rd_T36 x5 x7).f5)))) else (impl_GoodScene.j1 k x0 x7 x5 x6 x7 true ((rd_T36 x5 x7).f0) ((rd_T36 x5 x7).f1) ((rd_T36 x5 x7).f2) ((rd_T36 x5 x7).f3) ((rd_T36 x5 x7).f4) ((rd_T36 x5 x7).f5)))) else (none)) else (none)) else (some (decide ((x0.length : Int) ≤ 40)))) r) : Ev (fun k => impl_GoodScene.l0 k x0 x5 x6 x7) r := Ev.step (fun k => by rw [impl_GoodScene.l0]) h
theorem st_impl_GoodScene_j1 {r : (Bool)} {x0 : List (S36)} {x3 : Int} {x5 : List (S36)} {x6 : Int} {x7 : Int} {x29 : Bool} {x291000 : ByteArray} {x291001 : Int} {x291002 : Int} {x291003 : Int} {x291004 : Int} {x291005 : Bool} (h : Ev (fun k => if x29 = true then (some false) else (if 0 ≤ x3 then (if x3 ≤ (x0.length : Int) then ((slices_ContainsFunc_w38.f k (x0.take (x3 : Int).toNat) x291000 x291001 x291002 x291003 x291004 x291005).bind fun t302 => (if t302 = true then (some false) else (impl_GoodScene.l0 k x0 x5 x6 (wrap64 (x7 + 1))))) else (none)) else (none))) r) : Ev (fun k => impl_GoodScene.j1 k x0 x3 x5 x6 x7 x29 x291000 x291001 x291002 x291003 x291004 x291005) r := Ev.step (fun k => by rw [impl_GoodScene.j1]) h
theorem st_impl_Hang_j0 {r : ((List (S36)) × Bool)} {x0 : List (S36)} {x1 : Int} {x2 : Int} {x25 : Bool} (h : Ev (fun k => if x25 = true then (some (([] : List (S36)), false)) else ((impl_spotOf.f k x0 x1).bind fun bt331 => (if x2 ≥ 0 then (impl_Hang.j1 k x0 x1 x2 bt331.2.2.2.2 bt331.2.2.2.2 bt331.1 bt331.2.1 bt331.2.2.1 bt331.2.2.2.1) else (impl_Hang.j1 k x0 x1 x2 bt331.2.2.2.2 false bt331.1 bt331.2.1 bt331.2.2.1 bt331.2.2.2.1)))) r) : Ev (fun k => impl_Hang.j0 k x0 x1 x2 x25) r := Ev.step (fun k => by rw [impl_Hang.j0]) h
theorem st_impl_Hang_j1 {r : ((List (S36)) × Bool)} {x0 : List (S36)} {x1 : Int} {x2 : Int} {x9 : Bool} {x36 : Bool} {x337000 : Int} {x337001 : Int} {x337002 : Int} {x337003 : Bool} (h : Ev (fun k => if x36 = true then ((impl_spotOf.f k x0 x2).bind fun bt337 => ((impl_BackSpot.f k bt337.1 bt337.2.1 bt337.2.2.1 bt337.2.2.2.1).bind fun bt343 => ((impl_JoinSpots.f k bt343.1 bt343.2.1 bt343.2.2.1 bt343.2.2.2.1 x337000 x337001 x337002 x337003).bind fun bt349 => (if bt349.2.2.2.2 = true then (impl_Hang.j2 k x0 x1 x2 bt337.2.2.2.2 bt349.1 bt349.2.1 bt349.2.2.1 bt349.2.2.2.1) else (impl_Hang.j2 k x0 x1 x2 false bt349.1 bt349.2.1 bt349.2.2.1 bt349.2.2.2.1))))) else (impl_Hang.j2 k x0 x1 x2 x9 x337000 x337001 x337002 x337003)) r) : Ev (fun k => impl_Hang.j1 k x0 x1 x2 x9 x36 x337000 x337001 x337002 x337003) r := Ev.step (fun k => by rw [impl_Hang.j1]) h
theorem st_impl_Hang_j2 {r : ((List (S36)) × Bool)} {x0 : List (S36)} {x1 : Int} {x2 : Int} {x9 : Bool} {x337000 : Int} {x337001 : Int} {x337002 : Int} {x337003 : Bool} (h : Ev (fun k => (impl_Node_23.f x0).bind fun t354 => (if 0 ≤ x1 then (if x1 < (x0.length : Int) then (if x1 < (t354.length : Int) then ((some (t354.set (x1 : Int).toNat (⟨(rd_T36 x0 x1).f0, x2, x337000, x337001, x337002, x337003⟩ : S36) : List (S36))).bind fun y358 => (if x9 = true then ((impl_GoodScene.f k y358).bind fun t359 => (if t359 = true then (some (y358, true)) else (some (([] : List (S36)), false)))) else (some (([] : List (S36)), false)))) else (none)) else (none)) else (none))) r) : Ev (fun k => impl_Hang.j2 k x0 x1 x2 x9 x337000 x337001 x337002 x337003) r := Ev.step (fun k => by rw [impl_Hang.j2]) h
theorem inr_some (a b c : Int) : impl_inRange.f a b c = some (decide (b ≤ a ∧ a ≤ c)) := by
  unfold impl_inRange.f
  split <;> simp_all <;> omega
theorem in_some (a b c : Int) : spec_l1In.f a b c = some (decide (b ≤ a ∧ a ≤ c)) := by
  unfold spec_l1In.f
  split <;> simp_all <;> omega
def nameChar (c : Int) : Bool := decide (97 ≤ c ∧ c ≤ 122) || decide (65 ≤ c ∧ c ≤ 90) || decide (c = 95)
def digitChar (c : Int) : Bool := decide (48 ≤ c ∧ c ≤ 57)
def CharOk (s : ByteArray) (i : Nat) : Prop := nameChar (bt s (i : Int)) = true ∨ 0 < i ∧ digitChar (bt s (i : Int)) = true
def NameOk (s : ByteArray) : Prop := (1 ≤ s.size ∧ s.size ≤ 20) ∧ ∀ i, i < s.size → CharOk s i
theorem letter_spec (c : Int) : spec_l1Letter.f c = some (nameChar c) := by
  unfold spec_l1Letter.f nameChar
  repeat' split
  all_goals (congr 1; rw [Bool.eq_iff_iff]; simp; try omega)
theorem digit_spec (c : Int) : spec_l1Digit.f c = some (digitChar c) := by
  unfold spec_l1Digit.f digitChar
  repeat' split
  all_goals (congr 1; rw [Bool.eq_iff_iff]; simp; try omega)
theorem digit_impl (c : Int) : impl_isDigit.f c = some (digitChar c) := by
  unfold impl_isDigit.f digitChar
  repeat' split
  all_goals (congr 1; rw [Bool.eq_iff_iff]; simp; try omega)
theorem letter_impl (c : Int) : ∃ b, impl_isLetter.f c = some b ∧ (nameChar c = true ↔ b = true ∨ c = 95) := by
  unfold impl_isLetter.f nameChar
  repeat' split
  all_goals (refine ⟨_, rfl, ?_⟩; simp; try omega)
theorem name_impl (s : ByteArray) (hs : s.size ≤ 140737488351232) (b : Bool) (hb : b = true ↔ NameOk s) : Ev (fun k => impl_GoodName.f k s) b := by
  refine ev_all s.size (fun k i => impl_GoodName.l0 k s (s.size : Int) (i : Int)) (CharOk s) (decide (1 ≤ (s.size : Int) ∧ (s.size : Int) ≤ 20)) b ?_ ?_ ?_ ?_
  · rw [hb]; unfold NameOk; simp; omega
  · exact st_impl_GoodName_l0 (ev_neg (by omega) (ev_bindc (inr_some _ _ _) (ev_some rfl)))
  · intro i hi _ ho r hr
    refine st_impl_GoodName_l0 (ev_pos (by omega) (ev_pos (by omega) (ev_pos (by omega) ?_)))
    obtain ⟨q, hq, hn⟩ := letter_impl (bt s (i : Int))
    rw [w64s i (by omega)]
    refine ev_bindc hq (ev_ite (fun _ => hr) fun h1 => ev_ite (fun _ => hr) fun h2 => ?_)
    rcases ho with ho | ⟨ho, hd⟩
    · rcases hn.1 ho with h | h
      · exact absurd h h1
      · exact absurd h h2
    · exact ev_neg (by omega) (ev_bindc (digit_impl _) (ev_pos hd hr))
  · intro i hi _ ho
    refine st_impl_GoodName_l0 (ev_pos (by omega) (ev_pos (by omega) (ev_pos (by omega) ?_)))
    obtain ⟨q, hq, hn⟩ := letter_impl (bt s (i : Int))
    refine ev_bindc hq (ev_ite (fun h => absurd (.inl (hn.2 (.inl h))) ho) fun h1 => ev_ite (fun h => absurd (.inl (hn.2 (.inr h))) ho) fun h2 => ev_ite (fun _ => ev_some rfl) fun h3 => ?_)
    exact ev_bindc (digit_impl _) (ev_neg (fun h => ho (.inr ⟨by omega, h⟩)) (ev_some rfl))
theorem name_spec (s : ByteArray) (b : Bool) (hb : b = true ↔ NameOk s) : Ev (fun k => spec_GoodName.f k s) b := by
  have j0t : Ev (fun k => spec_GoodName.j0 k s true) false := st_spec_GoodName_j0 (ev_pos rfl (ev_some rfl))
  by_cases h1 : (s.size : Int) < 1
  · rw [bool_false hb (fun h => by have := h.1; omega)]
    exact ev_pos h1 j0t
  · by_cases h2 : (s.size : Int) > 20
    · rw [bool_false hb (fun h => by have := h.1; omega)]
      exact ev_neg h1 (ev_pos h2 j0t)
    · refine ev_neg h1 (ev_neg h2 (ev_pos (by omega) (ev_bindc (digit_spec _) ?_)))
      cases hd : digitChar (bt s 0) with
      | true =>
        rw [bool_false hb (fun h => by
          have h0 : CharOk s 0 := h.2 0 (by omega)
          rcases h0 with h0 | h0
          · have h0 : nameChar (bt s 0) = true := h0
            generalize bt s 0 = c at hd h0
            simp [nameChar, digitChar] at hd h0; omega
          · omega)]
        exact j0t
      | false =>
        refine st_spec_GoodName_j0 (ev_neg (by decide) ?_)
        refine ev_all s.size (fun k i => spec_GoodName.l0 k s (i : Int)) (CharOk s) true b ?_ ?_ ?_ ?_
        · rw [hb]; unfold NameOk; constructor
          · exact fun h => ⟨rfl, h.2⟩
          · exact fun h => ⟨by omega, h.2⟩
        · exact st_spec_GoodName_l0 (ev_neg (by omega) (ev_some rfl))
        · intro i hi _ ho r hr
          refine st_spec_GoodName_l0 (ev_pos (by omega) (ev_pos (by omega) (ev_bindc (letter_spec _) (ev_ite (fun _ => by rw [w64s i (by omega)]; exact hr) fun hl => ev_bindc (digit_spec _) ?_))))
          rcases ho with ho | ⟨_, ho⟩
          · exact absurd ho hl
          · refine ev_pos ho ?_
            rw [w64s i (by omega)]; exact hr
        · intro i hi _ ho
          refine st_spec_GoodName_l0 (ev_pos (by omega) (ev_pos (by omega) (ev_bindc (letter_spec _) (ev_neg (fun h => ho (.inl h)) (ev_bindc (digit_spec _) (ev_neg (fun h => ho ?_) (ev_some rfl)))))))
          rcases Nat.eq_zero_or_pos i with rfl | hp
          · have h' : digitChar (bt s 0) = true := h
            rw [hd] at h'; cases h'
          · exact .inr ⟨hp, h⟩
structure Sp where
  x : Int
  y : Int
  t : Int
  f : Bool
def Good (s : Sp) : Prop := (-1000000 ≤ s.x ∧ s.x ≤ 1000000) ∧ (-1000000 ≤ s.y ∧ s.y ≤ 1000000) ∧ (0 ≤ s.t ∧ s.t ≤ 3)
def zero : Sp := ⟨0, 0, 0, false⟩
def rotN : Nat → Int × Int → Int × Int
  | 0, p => p
  | n + 1, p => (-(rotN n p).2, (rotN n p).1)
def app (s : Sp) (x y : Int) : Int × Int := rotN s.t.toNat (if s.f = true then (-x, y) else (x, y))
def join (a b : Sp) : Sp := ⟨a.x + (app a b.x b.y).1, a.y + (app a b.x b.y).2, (a.t + (if a.f = true then 4 - b.t else b.t)) % 4, a.f != b.f⟩
def backT (a : Sp) : Int := if a.f = true then a.t else (4 - a.t) % 4
def back (a : Sp) : Sp := ⟨(app ⟨0, 0, backT a, a.f⟩ (-a.x) (-a.y)).1, (app ⟨0, 0, backT a, a.f⟩ (-a.x) (-a.y)).2, backT a, a.f⟩
theorem sp_ext {a b : Sp} (h1 : a.x = b.x) (h2 : a.y = b.y) (h3 : a.t = b.t) (h4 : a.f = b.f) : a = b := by
  cases a; cases b
  simp only at h1 h2 h3 h4
  subst h1; subst h2; subst h3; subst h4
  rfl
theorem rot_bound (M : Int) : ∀ (n : Nat) (p : Int × Int), (-M ≤ p.1 ∧ p.1 ≤ M) → (-M ≤ p.2 ∧ p.2 ≤ M) → (-M ≤ (rotN n p).1 ∧ (rotN n p).1 ≤ M) ∧ (-M ≤ (rotN n p).2 ∧ (rotN n p).2 ≤ M)
  | 0, _, h1, h2 => ⟨h1, h2⟩
  | n + 1, p, h1, h2 => by
    obtain ⟨g1, g2⟩ := rot_bound M n p h1 h2
    exact ⟨⟨by show -M ≤ -(rotN n p).2; omega, by show -(rotN n p).2 ≤ M; omega⟩, g1⟩
theorem app_bound (M : Int) (s : Sp) (x y : Int) (h1 : -M ≤ x ∧ x ≤ M) (h2 : -M ≤ y ∧ y ≤ M) : (-M ≤ (app s x y).1 ∧ (app s x y).1 ≤ M) ∧ (-M ≤ (app s x y).2 ∧ (app s x y).2 ≤ M) := by
  unfold app
  by_cases hf : s.f = true
  · rw [if_pos hf]
    exact rot_bound M _ _ ⟨by show -M ≤ -x; omega, by show -x ≤ M; omega⟩ h2
  · rw [if_neg hf]; exact rot_bound M _ _ h1 h2
theorem tcases {t : Int} (h : 0 ≤ t ∧ t ≤ 3) : t = 0 ∨ t = 1 ∨ t = 2 ∨ t = 3 := by omega
theorem backT_range {a : Sp} (h : Good a) : 0 ≤ backT a ∧ backT a ≤ 3 := by
  have := h.2.2
  unfold backT
  split <;> omega
theorem back_good {a : Sp} (h : Good a) : Good (back a) := by
  have h1 := h.1
  have h2 := h.2.1
  have hb := app_bound 1000000 ⟨0, 0, backT a, a.f⟩ (-a.x) (-a.y) (by omega) (by omega)
  exact ⟨hb.1, hb.2, backT_range h⟩
theorem join_back {a : Sp} (h : Good a) : join a (back a) = zero := by
  obtain ⟨x, y, t, f⟩ := a
  have ht : 0 ≤ t ∧ t ≤ 3 := h.2.2
  rcases tcases ht with rfl | rfl | rfl | rfl <;> cases f <;> simp [join, back, backT, app, rotN, zero] <;> omega
theorem back_join {a : Sp} (h : Good a) : join (back a) a = zero := by
  obtain ⟨x, y, t, f⟩ := a
  have ht : 0 ≤ t ∧ t ≤ 3 := h.2.2
  rcases tcases ht with rfl | rfl | rfl | rfl <;> cases f <;> simp [join, back, backT, app, rotN, zero] <;> omega
theorem cancel {a s : Sp} (h : Good a) (hs : 0 ≤ s.t ∧ s.t ≤ 3) : join a (join (back a) s) = s := by
  obtain ⟨x, y, t, f⟩ := a
  obtain ⟨sx, sy, st, sf⟩ := s
  have ht : 0 ≤ t ∧ t ≤ 3 := h.2.2
  have hs : 0 ≤ st ∧ st ≤ 3 := hs
  refine sp_ext ?_ ?_ ?_ ?_ <;> rcases tcases ht with rfl | rfl | rfl | rfl <;> cases f <;> simp [join, back, backT, app, rotN] <;> omega
theorem zero_join {s : Sp} (hs : 0 ≤ s.t ∧ s.t ≤ 3) : join zero s = s := by
  obtain ⟨sx, sy, st, sf⟩ := s
  have hs : 0 ≤ st ∧ st ≤ 3 := hs
  refine sp_ext ?_ ?_ ?_ ?_ <;> simp [join, zero, app, rotN] <;> omega
theorem back_zero : back zero = zero := by
  refine sp_ext ?_ ?_ ?_ ?_ <;> simp [back, backT, zero, app, rotN]
theorem zero_good : Good zero := ⟨⟨by decide, by decide⟩, ⟨by decide, by decide⟩, ⟨by decide, by decide⟩⟩
def res (s : Sp) (g : Bool) : Int × Int × Int × Bool × Bool := if g = true then (s.x, s.y, s.t, s.f, true) else (0, 0, 0, false, false)
theorem turn_impl (a0 a1 t : Int) (f : Bool) (x y : Int) (ht : 0 ≤ t ∧ t ≤ 3) (hx : -1000000 ≤ x ∧ x ≤ 1000000) (hy : -1000000 ≤ y ∧ y ≤ 1000000) : Ev (fun k => impl_Spot_turned.f k a0 a1 t f x y) (app ⟨a0, a1, t, f⟩ x y) := by
  have key : ∀ p : Int × Int, (-1000000 ≤ p.1 ∧ p.1 ≤ 1000000) → (-1000000 ≤ p.2 ∧ p.2 ≤ 1000000) → ∀ f, Ev (fun k => impl_Spot_turned.j0 k p.1 p.2 a0 a1 t f) (rotN t.toNat p) := by
    intro p h1 h2 f
    obtain ⟨n, rfl⟩ : ∃ n : Nat, t = (n : Int) := ⟨t.toNat, by omega⟩
    refine st_impl_Spot_turned_j0 ?_
    refine ev_for1 n (fun k i (s : Int × Int) => impl_Spot_turned.l0 k s.1 s.2 (n : Int) (i : Int)) (fun i s => s = rotN i p) _ ?_ ?_ 0 p (Nat.zero_le _) rfl
    · rintro s rfl
      exact st_impl_Spot_turned_l0 (ev_neg (by omega) (ev_some rfl))
    · rintro i s hi rfl
      have hb := rot_bound 1000000 i p h1 h2
      refine .inr ⟨rotN (i + 1) p, rfl, fun r hr => st_impl_Spot_turned_l0 (ev_pos (by omega) ?_)⟩
      rw [w64 (n := -(rotN i p).2) (by omega) (by omega), w64s i (by omega)]
      exact hr
  unfold app
  cases f with
  | true =>
    refine ev_pos rfl ?_
    rw [w64 (n := -x) (by omega) (by omega)]
    exact key (-x, y) ⟨by show _ ≤ -x; omega, by show -x ≤ _; omega⟩ hy true
  | false => exact ev_neg (by decide) (key (x, y) hx hy false)
theorem apply_spec (a0 a1 t : Int) (f : Bool) (x y : Int) (ht : 0 ≤ t ∧ t ≤ 3) (hx : -1000000 ≤ x ∧ x ≤ 1000000) (hy : -1000000 ≤ y ∧ y ≤ 1000000) : Ev (fun k => spec_l4Apply.f k a0 a1 t f x y) (app ⟨a0, a1, t, f⟩ x y) := by
  have key : ∀ p : Int × Int, (-1000000 ≤ p.1 ∧ p.1 ≤ 1000000) → (-1000000 ≤ p.2 ∧ p.2 ≤ 1000000) → ∀ f, Ev (fun k => spec_l4Apply.j0 k p.1 p.2 a0 a1 t f) (rotN t.toNat p) := by
    intro p h1 h2 f
    obtain ⟨n, rfl⟩ : ∃ n : Nat, t = (n : Int) := ⟨t.toNat, by omega⟩
    refine st_spec_l4Apply_j0 ?_
    refine ev_for1 n (fun k i (s : Int × Int) => spec_l4Apply.l0 k s.1 s.2 (i : Int) a0 a1 (n : Int) f) (fun i s => s = rotN i p) _ ?_ ?_ 0 p (Nat.zero_le _) rfl
    · rintro s rfl
      exact st_spec_l4Apply_l0 (ev_neg (by omega) (ev_some rfl))
    · rintro i s hi rfl
      have hb := rot_bound 1000000 i p h1 h2
      refine .inr ⟨rotN (i + 1) p, rfl, fun r hr => st_spec_l4Apply_l0 (ev_pos (by omega) ?_)⟩
      rw [w64 (n := -(rotN i p).2) (by omega) (by omega), w64s i (by omega)]
      exact hr
  unfold app
  cases f with
  | true =>
    refine ev_pos rfl ?_
    rw [w64 (n := -x) (by omega) (by omega)]
    exact key (-x, y) ⟨by show _ ≤ -x; omega, by show -x ≤ _; omega⟩ hy true
  | false => exact ev_neg (by decide) (key (x, y) hx hy false)
theorem isSpot_impl (x y t : Int) (f : Bool) (b : Bool) (hb : b = true ↔ Good ⟨x, y, t, f⟩) : impl_isSpot.f x y t f = some b := by
  unfold impl_isSpot.f
  simp only [inr_some, Option.bind_some]
  have no : ¬ Good ⟨x, y, t, f⟩ → b = false := bool_false hb
  by_cases h1 : -1000000 ≤ x ∧ x ≤ 1000000
  · rw [decide_eq_true h1, if_pos rfl]
    by_cases h2 : -1000000 ≤ y ∧ y ≤ 1000000
    · rw [decide_eq_true h2, if_pos rfl]
      by_cases h3 : 0 ≤ t ∧ t ≤ 3
      · rw [decide_eq_true h3, hb.2 ⟨h1, h2, h3⟩]
      · rw [decide_eq_false h3, no (fun h => h3 h.2.2)]
    · rw [decide_eq_false h2, if_neg (by decide), no (fun h => h2 h.2.1)]
  · rw [decide_eq_false h1, if_neg (by decide), no (fun h => h1 h.1)]
theorem isSpot_spec (x y t : Int) (f : Bool) (b : Bool) (hb : b = true ↔ Good ⟨x, y, t, f⟩) : spec_l4Good.f x y t f = some b := by
  unfold spec_l4Good.f
  simp only [in_some, Option.bind_some]
  have no : ¬ Good ⟨x, y, t, f⟩ → b = false := bool_false hb
  by_cases h1 : -1000000 ≤ x ∧ x ≤ 1000000
  · rw [decide_eq_true h1, if_pos rfl]
    by_cases h2 : -1000000 ≤ y ∧ y ≤ 1000000
    · rw [decide_eq_true h2, if_pos rfl]
      by_cases h3 : 0 ≤ t ∧ t ≤ 3
      · rw [decide_eq_true h3, hb.2 ⟨h1, h2, h3⟩]
      · rw [decide_eq_false h3, no (fun h => h3 h.2.2)]
    · rw [decide_eq_false h2, if_neg (by decide), no (fun h => h2 h.2.1)]
  · rw [decide_eq_false h1, if_neg (by decide), no (fun h => h1 h.1)]
theorem tm4 (n : Int) (h : 0 ≤ n) : Int.tmod n 4 = n % 4 := Int.tmod_eq_emod_of_nonneg h
theorem join_impl {a b : Sp} (ha : Good a) (hb : Good b) (g : Bool) (hg : g = true ↔ Good (join a b)) : Ev (fun k => impl_JoinSpots.f k a.x a.y a.t a.f b.x b.y b.t b.f) (res (join a b) g) := by
  have hB := app_bound 1000000 a b.x b.y hb.1 hb.2.1
  have h1 := ha.1
  have h2 := ha.2.1
  have h3 := ha.2.2
  have h4 := hb.2.2
  refine ev_bindc (isSpot_impl _ _ _ _ true ⟨fun _ => ha, fun _ => rfl⟩) (ev_pos rfl (ev_bindc (isSpot_impl _ _ _ _ true ⟨fun _ => hb, fun _ => rfl⟩) (st_impl_JoinSpots_j0 (ev_neg (by decide) (Ev.bind (turn_impl a.x a.y a.t a.f b.x b.y h3 hb.1 hb.2.1) ?_)))))
  have ex : wrap64 (a.x + (app a b.x b.y).1) = (join a b).x := w64 (by omega) (by omega)
  have ey : wrap64 (a.y + (app a b.x b.y).2) = (join a b).y := w64 (by omega) (by omega)
  show Ev (fun k => if a.f = true then ((impl_isSpot.f (wrap64 (a.x + (app a b.x b.y).1)) (wrap64 (a.y + (app a b.x b.y).2)) (Int.tmod (wrap64 (a.t + (wrap64 (4 - b.t)))) 4) (a.f != b.f)).bind fun t192 => (if t192 = true then (some (wrap64 (a.x + (app a b.x b.y).1), wrap64 (a.y + (app a b.x b.y).2), Int.tmod (wrap64 (a.t + (wrap64 (4 - b.t)))) 4, (a.f != b.f), true)) else (some (0, 0, 0, false, false)))) else ((impl_isSpot.f (wrap64 (a.x + (app a b.x b.y).1)) (wrap64 (a.y + (app a b.x b.y).2)) (Int.tmod (wrap64 (a.t + b.t)) 4) (a.f != b.f)).bind fun t194 => (if t194 = true then (some (wrap64 (a.x + (app a b.x b.y).1), wrap64 (a.y + (app a b.x b.y).2), Int.tmod (wrap64 (a.t + b.t)) 4, (a.f != b.f), true)) else (some (0, 0, 0, false, false))))) (res (join a b) g)
  rw [ex, ey]
  have fin : Ev (fun _ => (impl_isSpot.f (join a b).x (join a b).y (join a b).t (join a b).f).bind fun t => (if t = true then (some ((join a b).x, (join a b).y, (join a b).t, (join a b).f, true)) else (some (0, 0, 0, false, false)))) (res (join a b) g) := by
    refine ev_bindc (isSpot_impl _ _ _ _ g hg) ?_
    unfold res
    cases g
    · exact ev_neg (by decide) (ev_some rfl)
    · exact ev_pos rfl (ev_some rfl)
  by_cases hf : a.f = true
  · have et : Int.tmod (wrap64 (a.t + (wrap64 (4 - b.t)))) 4 = (join a b).t := by
      rw [w64 (n := 4 - b.t) (by omega) (by omega), w64 (by omega) (by omega), tm4 _ (by omega)]
      show _ = (a.t + (if a.f = true then 4 - b.t else b.t)) % 4
      rw [if_pos hf]
    refine ev_pos hf ?_
    rw [et]; exact fin
  · have et : Int.tmod (wrap64 (a.t + b.t)) 4 = (join a b).t := by
      rw [w64 (by omega) (by omega), tm4 _ (by omega)]
      show _ = (a.t + (if a.f = true then 4 - b.t else b.t)) % 4
      rw [if_neg hf]
    refine ev_neg hf ?_
    rw [et]; exact fin
theorem join_spec {a b : Sp} (ha : Good a) (hb : Good b) : Ev (fun k => spec_l4Join.f k a.x a.y a.t a.f b.x b.y b.t b.f) ((join a b).x, (join a b).y, (join a b).t, (join a b).f) := by
  have hB := app_bound 1000000 a b.x b.y hb.1 hb.2.1
  have h1 := ha.1
  have h2 := ha.2.1
  have h3 := ha.2.2
  have h4 := hb.2.2
  refine Ev.bind (apply_spec a.x a.y a.t a.f b.x b.y h3 hb.1 hb.2.1) ?_
  have ex : wrap64 ((app a b.x b.y).1 + a.x) = (join a b).x := by rw [Int.add_comm]; exact w64 (by omega) (by omega)
  have ey : wrap64 ((app a b.x b.y).2 + a.y) = (join a b).y := by rw [Int.add_comm]; exact w64 (by omega) (by omega)
  show Ev (fun _ => if a.f = true then (some (wrap64 ((app a b.x b.y).1 + a.x), wrap64 ((app a b.x b.y).2 + a.y), Int.tmod (wrap64 ((wrap64 (4 - b.t)) + a.t)) 4, (true != b.f))) else (some (wrap64 ((app a b.x b.y).1 + a.x), wrap64 ((app a b.x b.y).2 + a.y), Int.tmod (wrap64 (b.t + a.t)) 4, (false != b.f)))) _
  rw [ex, ey]
  by_cases hf : a.f = true
  · have et : Int.tmod (wrap64 ((wrap64 (4 - b.t)) + a.t)) 4 = (join a b).t := by
      rw [w64 (n := 4 - b.t) (by omega) (by omega), w64 (by omega) (by omega), tm4 _ (by omega)]
      show _ = (a.t + (if a.f = true then 4 - b.t else b.t)) % 4
      rw [if_pos hf, Int.add_comm]
    refine ev_pos hf (ev_some ?_)
    rw [et]
    show _ = ((join a b).x, (join a b).y, (join a b).t, (a.f != b.f))
    rw [hf]
  · have et : Int.tmod (wrap64 (b.t + a.t)) 4 = (join a b).t := by
      rw [w64 (by omega) (by omega), tm4 _ (by omega)]
      show _ = (a.t + (if a.f = true then 4 - b.t else b.t)) % 4
      rw [if_neg hf, Int.add_comm]
    have hf' : a.f = false := by simpa using hf
    refine ev_neg hf (ev_some ?_)
    rw [et]
    show _ = ((join a b).x, (join a b).y, (join a b).t, (a.f != b.f))
    rw [hf']
theorem back_impl {a : Sp} (h : Good a) : Ev (fun k => impl_BackSpot.f k a.x a.y a.t a.f) (res (back a) true) := by
  have h1 := h.1
  have h2 := h.2.1
  have h3 := h.2.2
  have hr := backT_range h
  have e1 : wrap64 (-a.x) = -a.x := w64 (by omega) (by omega)
  have e2 : wrap64 (-a.y) = -a.y := w64 (by omega) (by omega)
  refine ev_bindc (isSpot_impl _ _ _ _ true ⟨fun _ => h, fun _ => rfl⟩) (ev_pos rfl ?_)
  rw [e1, e2]
  by_cases hf : a.f = true
  · have eb : backT a = a.t := if_pos hf
    refine ev_pos hf (Ev.bind (turn_impl 0 0 a.t true (-a.x) (-a.y) h3 (by omega) (by omega)) (ev_some ?_))
    unfold res back
    rw [if_pos rfl, eb, hf]
  · have hf' : a.f = false := by simpa using hf
    have eb : backT a = (4 - a.t) % 4 := if_neg hf
    have et : Int.tmod (wrap64 (4 - a.t)) 4 = backT a := by rw [w64 (by omega) (by omega), tm4 _ (by omega), eb]
    refine ev_neg hf ?_
    rw [et]
    refine Ev.bind (turn_impl 0 0 (backT a) false (-a.x) (-a.y) hr (by omega) (by omega)) (ev_some ?_)
    unfold res back
    rw [if_pos rfl, hf']
theorem back_spec {a : Sp} (h : Good a) : Ev (fun k => spec_l4Back.f k a.x a.y a.t a.f) ((back a).x, (back a).y, (back a).t, (back a).f) := by
  have h1 := h.1
  have h2 := h.2.1
  have h3 := h.2.2
  have hr := backT_range h
  have e1 : wrap64 (-a.x) = -a.x := w64 (by omega) (by omega)
  have e2 : wrap64 (-a.y) = -a.y := w64 (by omega) (by omega)
  unfold spec_l4Back.f
  rw [e1, e2]
  by_cases hf : a.f = true
  · have eb : backT a = a.t := if_pos hf
    refine ev_pos hf (Ev.bind (apply_spec 0 0 a.t true (-a.x) (-a.y) h3 (by omega) (by omega)) (ev_some ?_))
    unfold back
    rw [eb, hf]
  · have hf' : a.f = false := by simpa using hf
    have eb : backT a = (4 - a.t) % 4 := if_neg hf
    have et : Int.tmod (wrap64 (4 - a.t)) 4 = backT a := by rw [w64 (by omega) (by omega), tm4 _ (by omega), eb]
    refine ev_neg hf ?_
    rw [et]
    refine Ev.bind (apply_spec 0 0 (backT a) false (-a.x) (-a.y) hr (by omega) (by omega)) (ev_some ?_)
    unfold back
    rw [hf']
abbrev Nd (l : List S36) (i : Nat) : S36 := rd_T36 l (i : Int)
def sp (n : S36) : Sp := ⟨n.f2, n.f3, n.f4, n.f5⟩
def Twin (a b : S36) : Prop := a.f1 = b.f1 ∧ a.f0.toList = b.f0.toList
def NodeOk (l : List S36) (i : Nat) : Prop := NameOk (Nd l i).f0 ∧ (-1 ≤ (Nd l i).f1 ∧ (Nd l i).f1 ≤ (i : Int) - 1) ∧ Good (sp (Nd l i)) ∧ ∀ j, j < i → ¬ Twin (Nd l j) (Nd l i)
def SceneOk (l : List S36) : Prop := l.length ≤ 40 ∧ ∀ i, i < l.length → NodeOk l i
theorem Nd_get {l : List S36} {i : Nat} (h : i < l.length) : Nd l i = l[i] := getD_get h
theorem Nd_take {l : List S36} {i j : Nat} (hj : j < i) (hi : i ≤ l.length) : rd_T36 (l.take i) (j : Int) = Nd l j := by
  have h1 : j < (l.take i).length := by rw [List.length_take]; omega
  rw [show rd_T36 (l.take i) (j : Int) = (l.take i)[j] from getD_get h1, Nd_get (by omega), List.getElem_take]
theorem scene_spec (l : List S36) (b : Bool) (hb : b = true ↔ SceneOk l) : Ev (fun k => spec_GoodScene.f k l) b := by
  have no : ¬ SceneOk l → b = false := bool_false hb
  refine ev_ite (fun h => ev_some (no (fun h' => by have := h'.1; omega)).symm) fun h => ?_
  refine ev_all l.length (fun k i => spec_GoodScene.l0 k l l (l.length : Int) (i : Int)) (NodeOk l) true b ?_ ?_ ?_ ?_
  · rw [hb]; unfold SceneOk; exact ⟨fun h' => ⟨rfl, h'.2⟩, fun h' => ⟨by omega, h'.2⟩⟩
  · exact st_spec_GoodScene_l0 (ev_neg (by omega) (ev_some rfl))
  · intro i hi _ ⟨h1, h2, h3, h4⟩ r hr
    refine st_spec_GoodScene_l0 (ev_pos (by omega) (ev_pos (by omega) (ev_pos (by omega) (Ev.bind (name_spec _ true ⟨fun _ => h1, fun _ => rfl⟩) (ev_pos rfl ?_)))))
    rw [w64 (n := (i : Int) - 1) (by omega) (by omega)]
    refine ev_bindc (in_some _ _ _) (ev_pos (decide_eq_true h2) (ev_bindc rfl (ev_bindc (isSpot_spec _ _ _ _ true ⟨fun _ => h3, fun _ => rfl⟩) (st_spec_GoodScene_j1 (ev_neg (by decide) (ev_pos (by omega) (ev_pos (by omega) (ev_bindc rfl ?_))))))))
    rw [Int.toNat_natCast]
    have hlt : (l.take i).length = i := by rw [List.length_take]; omega
    refine ev_for1 i (fun k j (_ : Unit) => spec_GoodScene.l1 k l l (l.length : Int) (i : Int) (l.take i) ((l.take i).length : Int) (j : Int) _ _ _ _ _ _) (fun _ _ => True) r ?_ ?_ 0 () (Nat.zero_le _) trivial
    · intro _ _
      refine st_spec_GoodScene_l1 (ev_neg (by omega) ?_)
      rw [w64s i (by omega)]; exact hr
    · intro j _ hj _
      refine .inr ⟨(), trivial, fun r hr => st_spec_GoodScene_l1 (ev_pos (by omega) (ev_pos (by omega) (ev_pos (by omega) ?_)))⟩
      rw [Nd_take hj (by omega), w64s j (by omega)]
      exact ev_ite (fun e1 => ev_neg (fun e2 => h4 j hj ⟨e1, e2⟩) hr) fun _ => hr
  · intro i hi _ ho
    obtain ⟨c, hc⟩ := bool_of (NameOk (Nd l i).f0)
    obtain ⟨g, hg⟩ := bool_of (Good (sp (Nd l i)))
    have jt : Ev (fun k => spec_GoodScene.j1 k l (i : Int) l (l.length : Int) (i : Int) true (Nd l i).f0 (Nd l i).f1 (Nd l i).f2 (Nd l i).f3 (Nd l i).f4 (Nd l i).f5) false := st_spec_GoodScene_j1 (ev_pos rfl (ev_some rfl))
    refine st_spec_GoodScene_l0 (ev_pos (by omega) (ev_pos (by omega) (ev_pos (by omega) (Ev.bind (name_spec _ c hc) (ev_ite (fun h1 => ?_) fun _ => jt)))))
    rw [w64 (n := (i : Int) - 1) (by omega) (by omega)]
    refine ev_bindc (in_some _ _ _) (ev_ite (fun h2 => ?_) fun _ => jt)
    have h2 := of_decide_eq_true h2
    refine ev_bindc rfl (ev_bindc (isSpot_spec _ _ _ _ g hg) ?_)
    cases g with
    | false => exact jt
    | true =>
      have h3 := hg.1 rfl
      refine st_spec_GoodScene_j1 (ev_neg (by decide) (ev_pos (by omega) (ev_pos (by omega) (ev_bindc rfl ?_))))
      rw [Int.toNat_natCast]
      have hlt : (l.take i).length = i := by rw [List.length_take]; omega
      refine ev_for1 i (fun k j (_ : Unit) => spec_GoodScene.l1 k l l (l.length : Int) (i : Int) (l.take i) ((l.take i).length : Int) (j : Int) _ _ _ _ _ _) (fun j _ => ∀ q, q < j → ¬ Twin (Nd l q) (Nd l i)) false ?_ ?_ 0 () (Nat.zero_le _) (fun q hq => by omega)
      · intro _ h4
        exact absurd ⟨hc.1 h1, h2, h3, h4⟩ ho
      · intro j _ hj h4
        by_cases e1 : (Nd l j).f1 = (Nd l i).f1
        · by_cases e2 : (Nd l j).f0.toList = (Nd l i).f0.toList
          · refine .inl (st_spec_GoodScene_l1 (ev_pos (by omega) (ev_pos (by omega) (ev_pos (by omega) ?_))))
            rw [Nd_take hj (by omega)]
            exact ev_pos e1 (ev_pos e2 (ev_some rfl))
          · refine .inr ⟨(), fun q hq => ?_, fun r hr => st_spec_GoodScene_l1 (ev_pos (by omega) (ev_pos (by omega) (ev_pos (by omega) ?_)))⟩
            · rcases Nat.lt_or_ge q j with h | h
              · exact h4 q h
              · obtain rfl : q = j := by omega
                exact fun h => e2 h.2
            · rw [Nd_take hj (by omega), w64s j (by omega)]
              exact ev_pos e1 (ev_neg e2 hr)
        · refine .inr ⟨(), fun q hq => ?_, fun r hr => st_spec_GoodScene_l1 (ev_pos (by omega) (ev_pos (by omega) (ev_pos (by omega) ?_)))⟩
          · rcases Nat.lt_or_ge q j with h | h
            · exact h4 q h
            · obtain rfl : q = j := by omega
              exact fun h => e1 h.1
          · rw [Nd_take hj (by omega), w64s j (by omega)]
            exact ev_neg e1 hr
theorem twin_impl (l : List S36) (hl : l.length ≤ 1000) (i : Nat) (hi : i ≤ l.length) (n : S36) (b : Bool) (hb : b = true ↔ ∃ j, j < i ∧ Twin (Nd l j) n) : Ev (fun k => slices_ContainsFunc_w38.f k (l.take i) n.f0 n.f1 n.f2 n.f3 n.f4 n.f5) b := by
  have hlt : (l.take i).length = i := by rw [List.length_take]; omega
  have one : ∀ j, impl_GoodScene_1.f (Nd l j).f0 (Nd l j).f1 (Nd l j).f2 (Nd l j).f3 (Nd l j).f4 (Nd l j).f5 n.f0 n.f1 n.f2 n.f3 n.f4 n.f5 = some true ∧ Twin (Nd l j) n ∨ impl_GoodScene_1.f (Nd l j).f0 (Nd l j).f1 (Nd l j).f2 (Nd l j).f3 (Nd l j).f4 (Nd l j).f5 n.f0 n.f1 n.f2 n.f3 n.f4 n.f5 = some false ∧ ¬ Twin (Nd l j) n := fun j => by
    unfold impl_GoodScene_1.f
    by_cases e1 : (Nd l j).f1 = n.f1
    · rw [if_pos e1]
      by_cases e2 : (Nd l j).f0.toList = n.f0.toList
      · exact .inl ⟨by rw [e2]; simp, e1, e2⟩
      · exact .inr ⟨congrArg some (by simpa using e2), fun h => e2 h.2⟩
    · rw [if_neg e1]
      exact .inr ⟨rfl, fun h => e1 h.1⟩
  have key : ∃ p : Int, Ev (fun k => slices_IndexFunc_w38.f k (l.take i) n.f0 n.f1 n.f2 n.f3 n.f4 n.f5) p ∧ ((p = -1 ∧ b = false) ∨ (0 ≤ p ∧ b = true)) := by
    refine ev_for i (fun k j (_ : Unit) => slices_IndexFunc_w38.l0 k (l.take i) ((l.take i).length : Int) (j : Int) n.f0 n.f1 n.f2 n.f3 n.f4 n.f5) (fun j _ => ∀ q, q < j → ¬ Twin (Nd l q) n) (fun p => (p = -1 ∧ b = false) ∨ (0 ≤ p ∧ b = true)) ?_ ?_ 0 () (Nat.zero_le _) (fun q hq => by omega)
    · intro _ h
      refine ⟨-1, Ev.step (fun _ => rfl) (ev_neg (by omega) (ev_some rfl)), .inl ⟨rfl, ?_⟩⟩
      cases b with
      | false => rfl
      | true =>
        obtain ⟨j, hj, ht⟩ := hb.1 rfl
        exact absurd ht (h j hj)
    · intro j _ hj h
      rcases one j with ⟨h1, h2⟩ | ⟨h1, h2⟩
      · refine .inl ⟨(j : Int), Ev.step (fun _ => rfl) (ev_pos (by omega) (ev_pos (by omega) (ev_pos (by omega) ?_))), .inr ⟨by omega, hb.2 ⟨j, hj, h2⟩⟩⟩
        rw [Nd_take hj hi]
        exact ev_bindc h1 (ev_pos rfl (ev_some rfl))
      · refine .inr ⟨(), fun q hq => ?_, fun r hr => Ev.step (fun _ => rfl) (ev_pos (by omega) (ev_pos (by omega) (ev_pos (by omega) ?_)))⟩
        · rcases Nat.lt_or_ge q j with h3 | h3
          · exact h q h3
          · obtain rfl : q = j := by omega
            exact h2
        · rw [Nd_take hj hi, w64s j (by omega)]
          exact ev_bindc h1 (ev_neg (by decide) hr)
  obtain ⟨p, hp, hq⟩ := key
  refine Ev.bind hp (ev_some ?_)
  rcases hq with ⟨rfl, rfl⟩ | ⟨h0, rfl⟩
  · rfl
  · exact decide_eq_true (by omega)
def Small (l : List S36) : Prop := l.length ≤ 1000 ∧ ∀ i, i < l.length → (Nd l i).f0.size ≤ 1000
theorem scene_impl (l : List S36) (hs : Small l) (b : Bool) (hb : b = true ↔ SceneOk l) : Ev (fun k => impl_GoodScene.f k l) b := by
  have hl := hs.1
  refine ev_all l.length (fun k i => impl_GoodScene.l0 k l l (l.length : Int) (i : Int)) (NodeOk l) (decide ((l.length : Int) ≤ 40)) b ?_ ?_ ?_ ?_
  · rw [hb]; unfold SceneOk; rw [decide_eq_true_eq]; constructor <;> (rintro ⟨h1, h2⟩; exact ⟨by omega, h2⟩)
  · exact st_impl_GoodScene_l0 (ev_neg (by omega) (ev_some rfl))
  · intro i hi _ ⟨h1, h2, h3, h4⟩ r hr
    have hz : (Nd l i).f0.size ≤ 140737488351232 := by have := hs.2 i hi; omega
    refine st_impl_GoodScene_l0 (ev_pos (by omega) (ev_pos (by omega) (ev_pos (by omega) (Ev.bind (name_impl _ hz true ⟨fun _ => h1, fun _ => rfl⟩) (ev_pos rfl ?_)))))
    rw [w64 (n := (i : Int) - 1) (by omega) (by omega)]
    refine ev_bindc (inr_some _ _ _) (ev_pos (decide_eq_true h2) (ev_bindc rfl (ev_bindc (isSpot_impl _ _ _ _ true ⟨fun _ => h3, fun _ => rfl⟩) (st_impl_GoodScene_j1 (ev_neg (by decide) (ev_pos (by omega) (ev_pos (by omega) ?_)))))))
    rw [Int.toNat_natCast]
    refine Ev.bind (twin_impl l hl i (by omega) (Nd l i) false ⟨(fun h => by cases h), fun ⟨j, hj, ht⟩ => absurd ht (h4 j hj)⟩) (ev_neg (by decide) ?_)
    rw [w64s i (by omega)]; exact hr
  · intro i hi _ ho
    have hz : (Nd l i).f0.size ≤ 140737488351232 := by have := hs.2 i hi; omega
    obtain ⟨c, hc⟩ := bool_of (NameOk (Nd l i).f0)
    obtain ⟨g, hg⟩ := bool_of (Good (sp (Nd l i)))
    obtain ⟨t, ht⟩ := bool_of (∃ j, j < i ∧ Twin (Nd l j) (Nd l i))
    have jt : Ev (fun k => impl_GoodScene.j1 k l (i : Int) l (l.length : Int) (i : Int) true (Nd l i).f0 (Nd l i).f1 (Nd l i).f2 (Nd l i).f3 (Nd l i).f4 (Nd l i).f5) false := st_impl_GoodScene_j1 (ev_pos rfl (ev_some rfl))
    refine st_impl_GoodScene_l0 (ev_pos (by omega) (ev_pos (by omega) (ev_pos (by omega) (Ev.bind (name_impl _ hz c hc) (ev_ite (fun h1 => ?_) fun _ => jt)))))
    rw [w64 (n := (i : Int) - 1) (by omega) (by omega)]
    refine ev_bindc (inr_some _ _ _) (ev_ite (fun h2 => ?_) fun _ => jt)
    have h2 := of_decide_eq_true h2
    refine ev_bindc rfl (ev_bindc (isSpot_impl _ _ _ _ g hg) ?_)
    cases g with
    | false => exact jt
    | true =>
      have h3 := hg.1 rfl
      refine st_impl_GoodScene_j1 (ev_neg (by decide) (ev_pos (by omega) (ev_pos (by omega) ?_)))
      rw [Int.toNat_natCast]
      refine Ev.bind (twin_impl l hl i (by omega) (Nd l i) t ht) ?_
      cases t with
      | true => exact ev_pos rfl (ev_some rfl)
      | false => exact absurd ⟨hc.1 h1, h2, h3, fun j hj h => by have := ht.2 ⟨j, hj, h⟩; cases this⟩ ho
theorem spots {l m : List S36} (hl : SceneOk l) (n : Nat) (hn : n ≤ l.length) (hnm : n ≤ m.length) (hag : ∀ j, j < n → Nd m j = Nd l j) : ∀ d at_ : Nat, at_ < d → at_ < n →
    ∃ (s : Sp) (g : Bool), Ev (fun k => impl_spotOf.f k l (at_ : Int)) (res s g) ∧ Ev (fun k => impl_spotOf.f k m (at_ : Int)) (res s g) ∧ (∃ s' : Sp, Ev (fun k => spec_l4Where.f k l (at_ : Int)) (s'.x, s'.y, s'.t, s'.f, g) ∧ (g = true → s' = s)) ∧ (g = true → Good s) := by
  intro d
  induction d with
  | zero => intro at_ h; omega
  | succ d ih =>
    intro at_ had han
    have hal : at_ < l.length := by omega
    obtain ⟨h1, h2, h3, h4⟩ := hl.2 at_ hal
    have hm := hag at_ han
    have iS : ∀ r, Ev (fun k => if ((Nd l at_).f1) < 0 then ((impl_Node_spot.f (Nd l at_).f0 (Nd l at_).f1 (Nd l at_).f2 (Nd l at_).f3 (Nd l at_).f4 (Nd l at_).f5).bind fun bt308 => (some (bt308.1, bt308.2.1, bt308.2.2.1, bt308.2.2.2, true))) else ((impl_spotOf.f k l (Nd l at_).f1).bind fun bt313 => (if bt313.2.2.2.2 = true then ((impl_Node_spot.f (Nd l at_).f0 (Nd l at_).f1 (Nd l at_).f2 (Nd l at_).f3 (Nd l at_).f4 (Nd l at_).f5).bind fun bt320 => ((impl_JoinSpots.f k bt313.1 bt313.2.1 bt313.2.2.1 bt313.2.2.2.1 bt320.1 bt320.2.1 bt320.2.2.1 bt320.2.2.2).bind fun bt324 => (some (bt324.1, bt324.2.1, bt324.2.2.1, bt324.2.2.2.1, bt324.2.2.2.2)))) else (some (0, 0, 0, false, false))))) r → Ev (fun k => impl_spotOf.f k l (at_ : Int)) r :=
      fun r h => Ev.step (fun _ => rfl) (ev_pos (by omega) (ev_pos (by omega) h))
    have iM : ∀ r, Ev (fun k => if ((Nd l at_).f1) < 0 then ((impl_Node_spot.f (Nd l at_).f0 (Nd l at_).f1 (Nd l at_).f2 (Nd l at_).f3 (Nd l at_).f4 (Nd l at_).f5).bind fun bt308 => (some (bt308.1, bt308.2.1, bt308.2.2.1, bt308.2.2.2, true))) else ((impl_spotOf.f k m (Nd l at_).f1).bind fun bt313 => (if bt313.2.2.2.2 = true then ((impl_Node_spot.f (Nd l at_).f0 (Nd l at_).f1 (Nd l at_).f2 (Nd l at_).f3 (Nd l at_).f4 (Nd l at_).f5).bind fun bt320 => ((impl_JoinSpots.f k bt313.1 bt313.2.1 bt313.2.2.1 bt313.2.2.2.1 bt320.1 bt320.2.1 bt320.2.2.1 bt320.2.2.2).bind fun bt324 => (some (bt324.1, bt324.2.1, bt324.2.2.1, bt324.2.2.2.1, bt324.2.2.2.2)))) else (some (0, 0, 0, false, false))))) r → Ev (fun k => impl_spotOf.f k m (at_ : Int)) r := by
      intro r h
      rw [← hm] at h
      exact Ev.step (fun _ => rfl) (ev_pos (by omega) (ev_pos (by omega) h))
    have sS : ∀ r, Ev (fun k => (spec_l4Where.f k l (Nd l at_).f1).bind fun bt369 => (if bt369.2.2.2.2 = true then ((spec_l4Spot.f (Nd l at_).f0 (Nd l at_).f1 (Nd l at_).f2 (Nd l at_).f3 (Nd l at_).f4 (Nd l at_).f5).bind fun bt376 => ((spec_l4Join.f k bt369.1 bt369.2.1 bt369.2.2.1 bt369.2.2.2.1 bt376.1 bt376.2.1 bt376.2.2.1 bt376.2.2.2).bind fun bt380 => ((spec_l4Good.f bt380.1 bt380.2.1 bt380.2.2.1 bt380.2.2.2).bind fun t385 => (some (bt380.1, bt380.2.1, bt380.2.2.1, bt380.2.2.2, t385))))) else (some (0, 0, 0, false, false)))) r → Ev (fun k => spec_l4Where.f k l (at_ : Int)) r :=
      fun r h => Ev.step (fun _ => rfl) (ev_neg (by omega) (ev_pos (by omega) (ev_pos (by omega) h)))
    by_cases hup : (Nd l at_).f1 < 0
    · have w0 : Ev (fun k => spec_l4Where.f k l (Nd l at_).f1) (0, 0, 0, false, true) := Ev.step (fun _ => rfl) (ev_pos hup (ev_some rfl))
      have hj := join_spec zero_good h3
      rw [zero_join h3.2.2] at hj
      refine ⟨sp (Nd l at_), true, iS _ (ev_pos hup (ev_bindc rfl (ev_some rfl))), iM _ (ev_pos hup (ev_bindc rfl (ev_some rfl))), ⟨sp (Nd l at_), sS _ (Ev.bind w0 (ev_pos rfl (ev_bindc rfl (Ev.bind hj (ev_bindc (isSpot_spec _ _ _ _ true ⟨fun _ => h3, fun _ => rfl⟩) (ev_some rfl)))))), fun _ => rfl⟩, fun _ => h3⟩
    · obtain ⟨u, hu⟩ : ∃ u : Nat, (Nd l at_).f1 = (u : Int) := ⟨((Nd l at_).f1).toNat, by omega⟩
      obtain ⟨s, g, i1, i2, ⟨s', w1, w2⟩, hg⟩ := ih u (by omega) (by omega)
      rw [hu] at iS iM sS
      have hup' : ¬ ((u : Int) < 0) := by omega
      cases g with
      | false => exact ⟨zero, false, iS _ (ev_neg hup' (Ev.bind i1 (ev_neg (by simp [res]) (ev_some rfl)))), iM _ (ev_neg hup' (Ev.bind i2 (ev_neg (by simp [res]) (ev_some rfl)))), ⟨zero, sS _ (Ev.bind w1 (ev_neg (by simp) (ev_some rfl))), fun h => by cases h⟩, fun h => by cases h⟩
      | true =>
        have hgs := hg rfl
        obtain rfl := w2 rfl
        obtain ⟨q, hq⟩ := bool_of (Good (join s' (sp (Nd l at_))))
        have hj := join_impl hgs h3 q hq
        have hj' : Ev (fun k => (impl_JoinSpots.f k s'.x s'.y s'.t s'.f (sp (Nd l at_)).x (sp (Nd l at_)).y (sp (Nd l at_)).t (sp (Nd l at_)).f).bind fun bt324 => (some (bt324.1, bt324.2.1, bt324.2.2.1, bt324.2.2.2.1, bt324.2.2.2.2))) (res (join s' (sp (Nd l at_))) q) := Ev.bind hj (ev_some rfl)
        exact ⟨join s' (sp (Nd l at_)), q, iS _ (ev_neg hup' (Ev.bind i1 (ev_pos rfl (ev_bindc rfl hj')))), iM _ (ev_neg hup' (Ev.bind i2 (ev_pos rfl (ev_bindc rfl hj')))), ⟨join s' (sp (Nd l at_)), sS _ (Ev.bind w1 (ev_pos rfl (ev_bindc rfl (Ev.bind (join_spec hgs h3) (ev_bindc (isSpot_spec _ _ _ _ q hq) (ev_some rfl)))))), fun _ => rfl⟩, hq.1⟩
def hungNode (l : List S36) (a : Nat) (u : Int) (s : Sp) : S36 := ⟨(Nd l a).f0, u, s.x, s.y, s.t, s.f⟩
def hungList (l : List S36) (a : Nat) (u : Int) (s : Sp) : List S36 := l.set a (hungNode l a u s)
theorem hung_len (l : List S36) (a : Nat) (u : Int) (s : Sp) : (hungList l a u s).length = l.length := List.length_set
theorem hung_at (l : List S36) (a : Nat) (ha : a < l.length) (u : Int) (s : Sp) : Nd (hungList l a u s) a = hungNode l a u s := by
  rw [Nd_get (by rw [hung_len]; exact ha)]
  exact List.getElem_set_self _
theorem hung_ne (l : List S36) (a : Nat) (u : Int) (s : Sp) (j : Nat) (hj : j < l.length) (hne : j ≠ a) : Nd (hungList l a u s) j = Nd l j := by
  rw [Nd_get (by rw [hung_len]; exact hj), Nd_get hj]
  exact List.getElem_set_ne (Ne.symm hne) _
theorem hung_small {l : List S36} (h : Small l) (a : Nat) (ha : a < l.length) (u : Int) (s : Sp) : Small (hungList l a u s) := by
  refine ⟨by rw [hung_len]; exact h.1, fun i hi => ?_⟩
  rw [hung_len] at hi
  by_cases hia : i = a
  · subst hia
    rw [hung_at l i ha]
    exact h.2 i ha
  · rw [hung_ne l a u s i hi hia]; exact h.2 i hi
theorem clone_impl (l : List S36) (h : l.length ≤ 1000) : impl_Node_23.f l = some l := if_pos (by omega)
theorem hang_same (l : List S36) (hs : Small l) (at_ up : Int) :
    (Ev (fun k => spec_Hang.f k l at_ up) ([], false) ∧ Ev (fun k => impl_Hang.f k l at_ up) ([], false)) ∨
    ∃ (a : Nat) (s o : Sp), at_ = (a : Int) ∧ a < l.length ∧ SceneOk l ∧ SceneOk (hungList l a up o) ∧ (-1 ≤ up ∧ up ≤ (a : Int) - 1) ∧ Good s ∧ Ev (fun k => impl_spotOf.f k l (a : Int)) (res s true) ∧
      ((up = -1 ∧ o = s) ∨ ∃ (u : Nat) (b : Sp), up = (u : Int) ∧ Good b ∧ Ev (fun k => impl_spotOf.f k (hungList l a up o) (u : Int)) (res b true) ∧ o = join (back b) s) ∧
      Ev (fun k => spec_Hang.f k l at_ up) (hungList l a up o, true) ∧ Ev (fun k => impl_Hang.f k l at_ up) (hungList l a up o, true) := by
  have hl := hs.1
  have sj0 : ∀ (x y t : Int) (f : Bool), Ev (fun k => spec_Hang.j0 k l at_ up true x y t f) ([], false) := fun _ _ _ _ => st_spec_Hang_j0 (ev_pos rfl (ev_some rfl))
  have ij0 : Ev (fun k => impl_Hang.j0 k l at_ up true) ([], false) := st_impl_Hang_j0 (ev_pos rfl (ev_some rfl))
  obtain ⟨t, ht⟩ := bool_of (SceneOk l)
  have gs := scene_spec l t ht
  have gi := scene_impl l hs t ht
  have wl : wrap64 ((l.length : Int) - 1) = (l.length : Int) - 1 := w64 (by omega) (by omega)
  cases t with
  | false => exact .inl ⟨Ev.bind (Ev.bind gs (ev_neg (by decide) (st_spec_SpotOf_j0 (ev_pos rfl (ev_some rfl))))) (ev_neg (by simp) (sj0 _ _ _ _)), Ev.bind (Ev.bind gi (ev_neg (by decide) (ev_some rfl))) (ev_neg (by decide) ij0)⟩
  | true =>
    have hok := ht.1 rfl
    by_cases hat : 0 ≤ at_ ∧ at_ ≤ (l.length : Int) - 1
    · obtain ⟨a, rfl⟩ : ∃ a : Nat, at_ = (a : Int) := ⟨at_.toNat, by omega⟩
      have hal : a < l.length := by omega
      have wa : wrap64 ((a : Int) - 1) = (a : Int) - 1 := w64 (by omega) (by omega)
      have inode : Ev (fun k => impl_isNode.f k l (a : Int)) true := Ev.bind gi (ev_pos rfl (ev_bindc (inr_some _ _ _) (ev_some (decide_eq_true (by rw [wl]; exact hat)))))
      obtain ⟨s, g, i1, _, ⟨s', w1, w2⟩, hg⟩ := spots (m := l) hok l.length (Nat.le_refl _) (Nat.le_refl _) (fun _ _ => rfl) (a + 1) a (by omega) hal
      have sspot : ∀ r, Ev (fun k => if g = true then (some (s'.x, s'.y, s'.t, s'.f, true)) else (some (0, 0, 0, false, false))) r → Ev (fun k => spec_SpotOf.f k l (a : Int)) r := fun r hr => Ev.bind gs (ev_pos rfl (ev_bindc (in_some _ _ _) (by rw [wl, decide_eq_true hat]; exact st_spec_SpotOf_j0 (ev_neg (by decide) (Ev.bind w1 hr)))))
      by_cases hup : -1 ≤ up ∧ up ≤ (a : Int) - 1
      · have ihead : ∀ r, Ev (fun k => impl_Hang.j0 k l (a : Int) up false) r → Ev (fun k => impl_Hang.f k l (a : Int) up) r := fun r hr => Ev.bind inode (ev_pos rfl (ev_bindc (inr_some _ _ _) (by rw [wa, decide_eq_true hup]; exact hr)))
        have ij2 : ∀ (g : Bool) (o : Sp) (r), Ev (fun k => if g = true then ((impl_GoodScene.f k (hungList l a up o)).bind fun t359 => (if t359 = true then (some (hungList l a up o, true)) else (some (([] : List (S36)), false)))) else (some (([] : List (S36)), false))) r → Ev (fun k => impl_Hang.j2 k l (a : Int) up g o.x o.y o.t o.f) r :=
          fun g o r hr => st_impl_Hang_j2 (ev_bindc (clone_impl l hl) (ev_pos (by omega) (ev_pos (by omega) (ev_pos (by omega) (ev_bindc rfl (by rw [Int.toNat_natCast]; exact hr))))))
        have noj2 : ∀ x y t f, Ev (fun k => impl_Hang.j2 k l (a : Int) up false x y t f) ([], false) := fun x y t f => ij2 false ⟨x, y, t, f⟩ _ (ev_neg (by decide) (ev_some rfl))
        cases g with
        | false =>
          refine .inl ⟨Ev.bind (sspot _ (ev_neg (by decide) (ev_some rfl))) (ev_neg (by simp) (sj0 _ _ _ _)), ihead _ (st_impl_Hang_j0 (ev_neg (by decide) (Ev.bind i1 ?_)))⟩
          have j1 : Ev (fun k => impl_Hang.j1 k l (a : Int) up false false 0 0 0 false) ([], false) := st_impl_Hang_j1 (ev_neg (by decide) (noj2 _ _ _ _))
          exact ev_ite (fun _ => j1) fun _ => j1
        | true =>
          have hgs := hg rfl
          obtain rfl := w2 rfl
          have shead : ∀ r, Ev (fun k => spec_Hang.j0 k l (a : Int) up false s'.x s'.y s'.t s'.f) r → Ev (fun k => spec_Hang.f k l (a : Int) up) r := fun r hr => Ev.bind (sspot _ (ev_pos rfl (ev_some rfl))) (ev_pos rfl (ev_bindc (in_some _ _ _) (by rw [wa, decide_eq_true hup]; exact hr)))
          -- from the spot that the node is to have
          have sfin : ∀ (o : Sp) (r), Ev (fun k => (spec_GoodScene.f k (hungList l a up o)).bind fun t443 => (if t443 = true then (some (hungList l a up o, true)) else (some (([] : List (S36)), false)))) r → Ev (fun k => ((some (([] : List (S36)) : List (S36))).bind fun y435 => (if y435.length + l.length < 2513169434916 then ((some (y435 ++ l : List (S36))).bind fun y438 => (if 0 ≤ (a : Int) then (if (a : Int) < (l.length : Int) then (if (a : Int) < (y438.length : Int) then ((some (y438.set ((a : Int) : Int).toNat (⟨(rd_T36 l (a : Int)).f0, up, o.x, o.y, o.t, o.f⟩ : S36) : List (S36))).bind fun y442 => ((spec_GoodScene.f k y442).bind fun t443 => (if t443 = true then (some (y442, true)) else (some (([] : List (S36)), false))))) else (none)) else (none)) else (none))) else (none)))) r :=
            fun o r hr => ev_bindc rfl (ev_pos (by simp only [List.length_nil]; omega) (ev_bindc rfl (ev_pos (by omega) (ev_pos (by omega) (ev_pos (by simp only [List.nil_append]; omega) (ev_bindc rfl (by rw [Int.toNat_natCast]; exact hr)))))))
          by_cases hneg : up < 0
          · obtain rfl : up = -1 := by omega
            have wz : Ev (fun k => spec_l4Where.f k l (-1)) (zero.x, zero.y, zero.t, zero.f, true) := Ev.step (fun _ => rfl) (ev_pos (by decide) (ev_some rfl))
            have hb := back_spec zero_good
            rw [back_zero] at hb
            have hj := join_spec zero_good hgs
            rw [zero_join hgs.2.2] at hj
            have spec_go : ∀ r, Ev (fun k => (spec_GoodScene.f k (hungList l a (-1) s')).bind fun t443 => (if t443 = true then (some (hungList l a (-1) s', true)) else (some (([] : List (S36)), false)))) r → Ev (fun k => spec_Hang.f k l (a : Int) (-1)) r := fun r hr => shead _ (st_spec_Hang_j0 (ev_neg (by decide) (Ev.bind wz (ev_pos rfl (Ev.bind hb (Ev.bind hj (sfin s' r hr)))))))
            have impl_go : ∀ r, Ev (fun k => (impl_GoodScene.f k (hungList l a (-1) s')).bind fun t359 => (if t359 = true then (some (hungList l a (-1) s', true)) else (some (([] : List (S36)), false)))) r → Ev (fun k => impl_Hang.f k l (a : Int) (-1)) r := fun r hr => ihead _ (st_impl_Hang_j0 (ev_neg (by decide) (Ev.bind i1 (ev_neg (by decide) (st_impl_Hang_j1 (ev_neg (by decide) (ij2 true s' r (ev_pos rfl hr))))))))
            obtain ⟨q, hq⟩ := bool_of (SceneOk (hungList l a (-1) s'))
            have qs := scene_spec _ q hq
            have qi := scene_impl _ (hung_small hs a hal (-1) s') q hq
            cases q with
            | false => exact .inl ⟨spec_go _ (Ev.bind qs (ev_neg (by decide) (ev_some rfl))), impl_go _ (Ev.bind qi (ev_neg (by decide) (ev_some rfl)))⟩
            | true => exact .inr ⟨a, s', s', rfl, hal, hok, hq.1 rfl, hup, hgs, i1, .inl ⟨rfl, rfl⟩, spec_go _ (Ev.bind qs (ev_pos rfl (ev_some rfl))), impl_go _ (Ev.bind qi (ev_pos rfl (ev_some rfl)))⟩
          · obtain ⟨u, rfl⟩ : ∃ u : Nat, up = (u : Int) := ⟨up.toNat, by omega⟩
            have hua : u < a := by omega
            have loc : ∀ o, ∃ (b : Sp) (g : Bool), Ev (fun k => impl_spotOf.f k l (u : Int)) (res b g) ∧ Ev (fun k => impl_spotOf.f k (hungList l a (u : Int) o) (u : Int)) (res b g) ∧ (∃ b' : Sp, Ev (fun k => spec_l4Where.f k l (u : Int)) (b'.x, b'.y, b'.t, b'.f, g) ∧ (g = true → b' = b)) ∧ (g = true → Good b) := fun o =>
              spots hok a (by omega) (by rw [hung_len]; omega) (fun j hj => hung_ne l a (u : Int) o j (by omega) (by omega)) (u + 1) u (by omega) hua
            obtain ⟨b, gu, u1, _, ⟨b', v1, v2⟩, hgb⟩ := loc zero
            cases gu with
            | false =>
              have hbz := back_impl zero_good
              rw [back_zero] at hbz
              obtain ⟨q, hq⟩ := bool_of (Good (join zero s'))
              have hjz := join_impl zero_good hgs q hq
              refine .inl ⟨shead _ (st_spec_Hang_j0 (ev_neg (by decide) (Ev.bind v1 (ev_neg (by simp) (ev_some rfl))))), ihead _ (st_impl_Hang_j0 (ev_neg (by decide) (Ev.bind i1 (ev_pos (by omega) (st_impl_Hang_j1 (ev_pos rfl (Ev.bind u1 (Ev.bind hbz (Ev.bind hjz ?_)))))))))⟩
              exact ev_ite (fun _ => noj2 _ _ _ _) fun _ => noj2 _ _ _ _
            | true =>
              have hb := hgb rfl
              obtain rfl := v2 rfl
              obtain ⟨q, hq⟩ := bool_of (Good (join (back b') s'))
              have hj := join_impl (back_good hb) hgs q hq
              have spec_go : ∀ r, Ev (fun k => (spec_GoodScene.f k (hungList l a (u : Int) (join (back b') s'))).bind fun t443 => (if t443 = true then (some (hungList l a (u : Int) (join (back b') s'), true)) else (some (([] : List (S36)), false)))) r → Ev (fun k => spec_Hang.f k l (a : Int) (u : Int)) r := fun r hr => shead _ (st_spec_Hang_j0 (ev_neg (by decide) (Ev.bind v1 (ev_pos rfl (Ev.bind (back_spec hb) (Ev.bind (join_spec (back_good hb) hgs) (sfin (join (back b') s') r hr)))))))
              have impl_pre : ∀ r, Ev (fun k => if (res (join (back b') s') q).2.2.2.2 = true then (impl_Hang.j2 k l (a : Int) (u : Int) true (res (join (back b') s') q).1 (res (join (back b') s') q).2.1 (res (join (back b') s') q).2.2.1 (res (join (back b') s') q).2.2.2.1) else (impl_Hang.j2 k l (a : Int) (u : Int) false (res (join (back b') s') q).1 (res (join (back b') s') q).2.1 (res (join (back b') s') q).2.2.1 (res (join (back b') s') q).2.2.2.1)) r → Ev (fun k => impl_Hang.f k l (a : Int) (u : Int)) r := fun r hr => ihead _ (st_impl_Hang_j0 (ev_neg (by decide) (Ev.bind i1 (ev_pos (by omega) (st_impl_Hang_j1 (ev_pos rfl (Ev.bind u1 (Ev.bind (back_impl hb) (Ev.bind hj hr)))))))))
              obtain ⟨p, hp⟩ := bool_of (SceneOk (hungList l a (u : Int) (join (back b') s')))
              have ps := scene_spec _ p hp
              have pi := scene_impl _ (hung_small hs a hal (u : Int) (join (back b') s')) p hp
              cases q with
              | false =>
                have hpf : p = false := by
                  cases p with
                  | false => rfl
                  | true =>
                    have := ((hp.1 rfl).2 a (by rw [hung_len]; exact hal)).2.2.1
                    rw [hung_at l a hal] at this
                    have := hq.2 this
                    cases this
                subst hpf
                exact .inl ⟨spec_go _ (Ev.bind ps (ev_neg (by decide) (ev_some rfl))), impl_pre _ (ev_neg (by simp [res]) (noj2 _ _ _ _))⟩
              | true =>
                have impl_go : ∀ r, Ev (fun k => (impl_GoodScene.f k (hungList l a (u : Int) (join (back b') s'))).bind fun t359 => (if t359 = true then (some (hungList l a (u : Int) (join (back b') s'), true)) else (some (([] : List (S36)), false)))) r → Ev (fun k => impl_Hang.f k l (a : Int) (u : Int)) r := fun r hr => impl_pre _ (ev_pos rfl (ij2 true (join (back b') s') r (ev_pos rfl hr)))
                cases p with
                | false => exact .inl ⟨spec_go _ (Ev.bind ps (ev_neg (by decide) (ev_some rfl))), impl_go _ (Ev.bind pi (ev_neg (by decide) (ev_some rfl)))⟩
                | true =>
                  obtain ⟨c, gc, c1, c2, _, hgc⟩ := loc (join (back b') s')
                  have e := ev_unique u1 c1
                  refine .inr ⟨a, s', join (back b') s', rfl, hal, hok, hp.1 rfl, hup, hgs, i1, .inr ⟨u, b', rfl, hb, ?_, rfl⟩, spec_go _ (Ev.bind ps (ev_pos rfl (ev_some rfl))), impl_go _ (Ev.bind pi (ev_pos rfl (ev_some rfl)))⟩
                  rw [e]; exact c2
      · refine .inl ⟨?_, Ev.bind inode (ev_pos rfl (ev_bindc (inr_some _ _ _) (by rw [wa, decide_eq_false hup]; exact ij0)))⟩
        cases g with
        | false => exact Ev.bind (sspot _ (ev_neg (by decide) (ev_some rfl))) (ev_neg (by simp) (sj0 _ _ _ _))
        | true => exact Ev.bind (sspot _ (ev_pos rfl (ev_some rfl))) (ev_pos rfl (ev_bindc (in_some _ _ _) (by rw [wa, decide_eq_false hup]; exact sj0 _ _ _ _)))
    · exact .inl ⟨Ev.bind (Ev.bind gs (ev_pos rfl (ev_bindc (in_some _ _ _) (by rw [wl, decide_eq_false hat]; exact st_spec_SpotOf_j0 (ev_pos rfl (ev_some rfl)))))) (ev_neg (by simp) (sj0 _ _ _ _)), Ev.bind (Ev.bind gi (ev_pos rfl (ev_bindc (inr_some _ _ _) (ev_some (by rw [wl, decide_eq_false hat]))))) (ev_neg (by decide) ij0)⟩
theorem and255 (a : Int) : 0 ≤ Go.bits .and .u64 a 255 ∧ Go.bits .and .u64 a 255 ≤ 255 := by
  have h : (BitVec.ofInt 64 a &&& BitVec.ofInt 64 255).toNat ≤ 255 := by
    rw [BitVec.toNat_and]
    exact Nat.le_trans Nat.and_le_right (by decide)
  have e : Go.bits .and .u64 a 255 = IntKind.u64.wrap (((BitVec.ofInt 64 a &&& BitVec.ofInt 64 255).toNat : Nat) : Int) := rfl
  rw [e, wrap_u64 (by omega) (by omega)]
  omega
theorem next_some (code : List Int) (hc : ∀ y ∈ code, InU8 y) (at_ seed : Int) (h0 : 0 ≤ at_) (h1 : at_ ≤ 1099511627776) : ∃ v s, spec_l1Cur_next.f code at_ seed = some (v, at_ + 1, s) ∧ 0 ≤ v ∧ v < 256 := by
  have e : wrap64 (at_ + 1) = at_ + 1 := w64 (by omega) (by omega)
  have hw : ∀ a : Int, wrap64 (Go.bits .and .u64 a 255) = Go.bits .and .u64 a 255 := fun a => by have := and255 a; exact w64 (by omega) (by omega)
  unfold spec_l1Cur_next.f
  rw [e]
  by_cases h : at_ < (code.length : Int)
  · obtain ⟨i, rfl⟩ : ∃ i : Nat, at_ = (i : Int) := ⟨at_.toNat, by omega⟩
    have hv : 0 ≤ rd code (i : Int) ∧ rd code (i : Int) < 256 := by
      rw [rd_get (by omega)]
      have := hc _ (List.getElem_mem (by omega : i < code.length))
      exact ⟨this.1, by have := this.2; omega⟩
    have hr : wrap64 (rd code (i : Int)) = rd code (i : Int) := w64 (by omega) (by omega)
    rw [if_pos h, if_pos h0, hr]
    by_cases h2 : (i : Int) + 1 ≤ (code.length : Int)
    · rw [if_pos h2]; exact ⟨_, _, rfl, hv.1, hv.2⟩
    · rw [if_neg h2, hw]; exact ⟨_, _, rfl, (and255 _).1, by have := (and255 (IntKind.u64.wrap ((IntKind.u64.wrap ((IntKind.u64.wrap (seed * 6364136223846793005)) + (IntKind.u64.wrap (rd code (i : Int))))) + 1442695040888963407) / 1099511627776)).2; omega⟩
  · rw [if_neg h]
    by_cases h2 : at_ + 1 ≤ (code.length : Int)
    · rw [if_pos h2]; exact ⟨0, _, rfl, by omega, by omega⟩
    · rw [if_neg h2, hw]; exact ⟨_, _, rfl, (and255 _).1, by have := (and255 (IntKind.u64.wrap ((IntKind.u64.wrap ((IntKind.u64.wrap (seed * 6364136223846793005)))) + 1442695040888963407) / 1099511627776)).2; omega⟩
theorem pick_some (code : List Int) (hc : ∀ y ∈ code, InU8 y) (at_ seed n : Int) (h0 : 0 ≤ at_) (h1 : at_ ≤ 1099511627776) (n1 : 1 ≤ n) (n2 : n ≤ 200) : ∃ v a s, spec_l1Cur_pick.f code at_ seed n = some (v, a, s) ∧ 0 ≤ v ∧ v < n ∧ at_ ≤ a ∧ a ≤ at_ + 1 := by
  unfold spec_l1Cur_pick.f
  by_cases h : n ≤ 1
  · rw [if_pos h]; exact ⟨0, at_, seed, rfl, by omega, by omega, by omega, by omega⟩
  · obtain ⟨v, s, hv, v0, v1⟩ := next_some code hc at_ seed h0 h1
    rw [if_neg h, hv]
    simp only [Option.bind_some]
    rw [if_neg (by omega), if_neg (by omega)]
    refine ⟨Int.tmod v n, at_ + 1, s, rfl, Int.tmod_nonneg _ v0, Int.tmod_lt_of_pos _ (by omega), by omega, by omega⟩
theorem pick_any (code : List Int) (hc : ∀ y ∈ code, InU8 y) (at_ seed n : Int) (h0 : 0 ≤ at_) (h1 : at_ ≤ 1000000000) (n1 : 1 ≤ n) : ∃ v a s, spec_l1Cur_pick.f code at_ seed n = some (v, a, s) ∧ at_ ≤ a ∧ a ≤ at_ + 2 := by
  unfold spec_l1Cur_pick.f
  by_cases h : n ≤ 1
  · rw [if_pos h]; exact ⟨0, at_, seed, rfl, by omega, by omega⟩
  · obtain ⟨v, s, hv, _, _⟩ := next_some code hc at_ seed h0 (by omega)
    rw [if_neg h, hv]
    simp only [Option.bind_some]
    by_cases h2 : n > 200
    · obtain ⟨v2, s2, hv2, _, _⟩ := next_some code hc (at_ + 1) s (by omega) (by omega)
      rw [if_pos h2, hv2]
      simp only [Option.bind_some]
      rw [if_neg (by omega)]
      exact ⟨_, _, _, rfl, by omega, by omega⟩
    · rw [if_neg h2, if_neg (by omega)]
      exact ⟨_, _, _, rfl, by omega, by omega⟩
theorem one_any (code : List Int) (hc : ∀ y ∈ code, InU8 y) (at_ seed n : Int) (h0 : 0 ≤ at_) (h1 : at_ ≤ 1000000000) (n1 : 1 ≤ n) : ∃ v a s, spec_l1Cur_one.f code at_ seed n = some (v, a, s) ∧ at_ ≤ a ∧ a ≤ at_ + 2 := by
  obtain ⟨v, a, s, h, h2⟩ := pick_any code hc at_ seed n h0 h1 n1
  exact ⟨_, _, _, by unfold spec_l1Cur_one.f; rw [h]; rfl, h2⟩
theorem among_any (code : List Int) (hc : ∀ y ∈ code, InU8 y) (at_ seed : Int) (l : List Int) (h0 : 0 ≤ at_) (h1 : at_ ≤ 1000000000) (n1 : 1 ≤ l.length) (n2 : l.length ≤ 200) : ∃ v a s, spec_l1Cur_among.f code at_ seed l = some (v, a, s) ∧ v ∈ l ∧ at_ ≤ a ∧ a ≤ at_ + 2 := by
  obtain ⟨v, a, s, h, v0, v1, a0, a1⟩ := pick_some code hc at_ seed (l.length : Int) h0 (by omega) (by omega) (by omega)
  obtain ⟨i, rfl⟩ : ∃ i : Nat, v = (i : Int) := ⟨v.toNat, by omega⟩
  refine ⟨rd l (i : Int), a, s, ?_, ?_, a0, by omega⟩
  · unfold spec_l1Cur_among.f
    rw [h]
    simp only [Option.bind_some]
    rw [if_pos v0, if_pos v1]
  · rw [rd_get (by omega)]; exact List.getElem_mem _
theorem of_any (code : List Int) (hc : ∀ y ∈ code, InU8 y) (at_ seed : Int) (h0 : 0 ≤ at_) (h1 : at_ ≤ 1000000000) (l : List ByteArray) (n1 : 1 ≤ l.length) (n2 : l.length ≤ 200) : ∃ t a s, spec_l1Cur_of.f code at_ seed l = some (t, a, s) ∧ t ∈ l ∧ at_ ≤ a ∧ a ≤ at_ + 2 := by
  obtain ⟨v, a, s, h, v0, v1, a0, a1⟩ := pick_some code hc at_ seed (l.length : Int) h0 (by omega) (by omega) (by omega)
  obtain ⟨i, rfl⟩ : ∃ i : Nat, v = (i : Int) := ⟨v.toNat, by omega⟩
  refine ⟨rdOf ByteArray.empty l (i : Int), a, s, ?_, ?_, a0, by omega⟩
  · unfold spec_l1Cur_of.f
    rw [h]
    simp only [Option.bind_some]
    rw [if_pos v0, if_pos v1]
  · rw [rdOf_get (by omega)]; exact List.getElem_mem _
theorem spot_any (code : List Int) (hc : ∀ y ∈ code, InU8 y) (at_ seed : Int) (h0 : 0 ≤ at_) (h1 : at_ ≤ 100000000) : ∃ x y t f a s, spec_l1Cur_spot.f code at_ seed = some (x, y, t, f, a, s) ∧ at_ ≤ a ∧ a ≤ at_ + 20 := by
  obtain ⟨p1, a1, s1, q1, g1, g2⟩ := pick_any code hc at_ seed 21 h0 (by omega) (by omega)
  obtain ⟨p2, a2, s2, q2, g3, g4⟩ := pick_any code hc a1 s1 21 (by omega) (by omega) (by omega)
  obtain ⟨p3, a3, s3, q3, g5, g6⟩ := pick_any code hc a2 s2 4 (by omega) (by omega) (by omega)
  obtain ⟨b, a4, s4, q4, g7, g8⟩ := one_any code hc a3 s3 3 (by omega) (by omega) (by omega)
  obtain ⟨p5, a5, s5, q5, g9, g10⟩ := pick_any code hc a4 s4 30 (by omega) (by omega) (by omega)
  unfold spec_l1Cur_spot.f
  simp only [q1, q2, q3, q4, q5, Option.bind_some]
  by_cases e0 : p5 = 0
  · obtain ⟨c, d, w, hcc, _, d0, d1⟩ := among_any code hc a5 s5 [1000000, -1000000, 1000001] (by omega) (by omega) (by simp) (by simp)
    rw [if_pos e0, hcc]
    exact ⟨_, _, _, _, d, w, rfl, by omega, by omega⟩
  · rw [if_neg e0]
    by_cases e1 : p5 = 1
    · obtain ⟨c, d, w, hcc, _, d0, d1⟩ := among_any code hc a5 s5 [-1, 4] (by omega) (by omega) (by simp) (by simp)
      rw [if_pos e1, hcc]
      exact ⟨_, _, _, _, d, w, rfl, by omega, by omega⟩
    · rw [if_neg e1]
      exact ⟨_, _, _, _, a5, s5, rfl, by omega, by omega⟩
theorem one_size (x : Int) : (strOfNums [x]).size = 1 := by rw [strOfNums_size]; rfl
theorem num_any (i : Nat) (h : i < 100) : ∃ t, Ev (fun k => spec_l1Num.f k (i : Int)) t ∧ t.size ≤ 2 := by
  have small : ∀ j : Nat, j < 10 → ∃ t, Ev (fun k => spec_l1Num.f k (j : Int)) t ∧ t.size ≤ 1 := fun j hj => ⟨_, Ev.step (fun _ => rfl) (ev_neg (by omega) (ev_pos (by omega) (ev_some rfl))), by rw [one_size]; omega⟩
  by_cases h10 : i < 10
  · obtain ⟨t, ht, hs⟩ := small i h10
    exact ⟨t, ht, by omega⟩
  · obtain ⟨t, ht, hs⟩ := small (i / 10) (by omega)
    have e : wrap64 (Int.tdiv (i : Int) 10) = ((i / 10 : Nat) : Int) := by rw [Int.tdiv_eq_ediv_of_nonneg (by omega), w64 (by omega) (by omega)]; omega
    refine ⟨t ++ strOfNums [(wrap64 (48 + (Int.tmod (i : Int) 10))) % 256], Ev.step (fun _ => rfl) (ev_neg (by omega) (ev_neg (by omega) ?_)), ?_⟩
    · rw [e]
      exact Ev.bind ht (ev_bindc rfl (ev_pos (by rw [one_size]; omega) (ev_some rfl)))
    · rw [ByteArray.size_append, one_size]; omega
theorem scene_loop (code : List Int) (hc : ∀ y ∈ code, InU8 y) (n : Nat) (hn : n ≤ 90) : ∀ (d i : Nat) (l : List S36) (at_ seed : Int), i + d = n → l.length = i → (∀ y ∈ l, y.f0.size ≤ 1000) → 0 ≤ at_ → at_ + 100 * d ≤ 1000000 →
    ∃ m a s, Ev (fun k => spec_l1Cur_scene.l0 k l (n : Int) (i : Int) code at_ seed) (m, a, s) ∧ (m.length = n ∧ ∀ y ∈ m, y.f0.size ≤ 1000) ∧ 0 ≤ a ∧ a ≤ 1000000
  | 0, i, l, at_, seed, hid, hl, hy, h0, h1 => ⟨l, at_, seed, st_spec_l1Cur_scene_l0 (ev_neg (by omega) (ev_some rfl)), ⟨by omega, hy⟩, h0, by omega⟩
  | d + 1, i, l, at_, seed, hid, hl, hy, h0, h1 => by
    have app_ok : ∀ (nm : ByteArray) (u x y t : Int) (f : Bool), nm.size ≤ 1000 → (l ++ [(⟨nm, u, x, y, t, f⟩ : S36)]).length = i + 1 ∧ ∀ z ∈ l ++ [(⟨nm, u, x, y, t, f⟩ : S36)], z.f0.size ≤ 1000 := by
      intro nm u x y t f hnm
      refine ⟨by simp [hl], fun z hz => ?_⟩
      rcases List.mem_append.1 hz with hz | hz
      · exact hy z hz
      · rw [List.mem_singleton.1 hz]; exact hnm
    have j4 : ∀ (nm : ByteArray) (u x y t : Int) (f : Bool) (a s : Int), nm.size ≤ 1000 → at_ ≤ a → a ≤ at_ + 60 → ∃ m a' s', Ev (fun k => spec_l1Cur_scene.j4 k l (n : Int) (i : Int) code a s nm u x y t f) (m, a', s') ∧ (m.length = n ∧ ∀ y ∈ m, y.f0.size ≤ 1000) ∧ 0 ≤ a' ∧ a' ≤ 1000000 := by
      intro nm u x y t f a s hnm ha0 ha1
      obtain ⟨b, c, e, hb, c0, c1⟩ := one_any code hc a s 80 (by omega) (by omega) (by omega)
      cases b with
      | true =>
        obtain ⟨v, g, w, hv, _, g0, g1⟩ := among_any code hc c e [-2, (i : Int)] (by omega) (by omega) (by simp) (by simp)
        obtain ⟨m, a', s', hm, hq⟩ := scene_loop code hc n hn d (i + 1) (l ++ [⟨nm, v, x, y, t, f⟩]) g w (by omega) (app_ok nm v x y t f hnm).1 (app_ok nm v x y t f hnm).2 (by omega) (by omega)
        refine ⟨m, a', s', st_spec_l1Cur_scene_j4 (ev_bindc hb (ev_pos rfl (ev_bindc hv (ev_pos (by omega) ?_)))), hq⟩
        rw [w64s i (by omega)]; exact hm
      | false =>
        obtain ⟨m, a', s', hm, hq⟩ := scene_loop code hc n hn d (i + 1) (l ++ [⟨nm, u, x, y, t, f⟩]) c e (by omega) (app_ok nm u x y t f hnm).1 (app_ok nm u x y t f hnm).2 (by omega) (by omega)
        refine ⟨m, a', s', st_spec_l1Cur_scene_j4 (ev_bindc hb (ev_neg (by simp) (ev_pos (by omega) ?_))), hq⟩
        rw [w64s i (by omega)]; exact hm
    have j3 : ∀ (x y t : Int) (f : Bool) (a s : Int), at_ ≤ a → a ≤ at_ + 40 → ∃ m a' s', Ev (fun k => spec_l1Cur_scene.j3 k l (n : Int) (i : Int) code a s x y t f) (m, a', s') ∧ (m.length = n ∧ ∀ y ∈ m, y.f0.size ≤ 1000) ∧ 0 ≤ a' ∧ a' ≤ 1000000 := by
      intro x y t f a s ha0 ha1
      obtain ⟨nm, c, e, hnm, hmem, c0, c1⟩ := of_any code hc a s (by omega) (by omega) [(⟨#[97]⟩ : ByteArray), (⟨#[98]⟩ : ByteArray), (⟨#[99]⟩ : ByteArray), (⟨#[100]⟩ : ByteArray)] (by simp) (by simp)
      have hsz : nm.size ≤ 1 := by
        simp only [List.mem_cons, List.not_mem_nil, or_false] at hmem
        rcases hmem with rfl | rfl | rfl | rfl <;> decide
      obtain ⟨num, hnum, hns⟩ := num_any i (by omega)
      have e1 : wrap64 ((i : Int) + 1) = ((i + 1 : Nat) : Int) := w64s i (by omega)
      obtain ⟨p, c2, e2, hp, c3, c4⟩ := pick_any code hc c e ((i + 1 : Nat) : Int) (by omega) (by omega) (by omega)
      obtain ⟨b, c5, e5, hb, c6, c7⟩ := one_any code hc c2 e2 80 (by omega) (by omega) (by omega)
      cases b with
      | true =>
        obtain ⟨nm2, c8, e8, hnm2, hmem2, c9, c10⟩ := of_any code hc c5 e5 (by omega) (by omega) [(⟨#[]⟩ : ByteArray), (⟨#[97, 48]⟩ : ByteArray), (⟨#[98, 49]⟩ : ByteArray)] (by simp) (by simp)
        have hsz2 : nm2.size ≤ 2 := by
          simp only [List.mem_cons, List.not_mem_nil, or_false] at hmem2
          rcases hmem2 with rfl | rfl | rfl <;> decide
        obtain ⟨m, a', s', hm, hq⟩ := j4 nm2 (wrap64 (p - 1)) x y t f c8 e8 (by omega) (by omega) (by omega)
        refine ⟨m, a', s', st_spec_l1Cur_scene_j3 (ev_bindc hnm (Ev.bind hnum (ev_pos (by show nm.size + num.size ≤ _; omega) ?_))), hq⟩
        rw [e1]
        exact ev_bindc hp (ev_bindc hb (ev_pos rfl (ev_bindc hnm2 hm)))
      | false =>
        obtain ⟨m, a', s', hm, hq⟩ := j4 (nm ++ num) (wrap64 (p - 1)) x y t f c5 e5 (by rw [ByteArray.size_append]; omega) (by omega) (by omega)
        refine ⟨m, a', s', st_spec_l1Cur_scene_j3 (ev_bindc hnm (Ev.bind hnum (ev_pos (by show nm.size + num.size ≤ _; omega) ?_))), hq⟩
        rw [e1]
        exact ev_bindc hp (ev_bindc hb (ev_neg (by simp) hm))
    have j2 : ∀ (q : Bool) (x y t : Int) (f : Bool) (a s : Int), at_ ≤ a → a ≤ at_ + 40 → ∃ m a' s', Ev (fun k => spec_l1Cur_scene.j2 k l (n : Int) (i : Int) q code a s x y t f) (m, a', s') ∧ (m.length = n ∧ ∀ y ∈ m, y.f0.size ≤ 1000) ∧ 0 ≤ a' ∧ a' ≤ 1000000 := by
      intro q x y t f a s ha0 ha1
      cases q with
      | true =>
        obtain ⟨m, a', s', hm, hq⟩ := j3 1 0 0 false a s ha0 ha1
        exact ⟨m, a', s', st_spec_l1Cur_scene_j2 (ev_pos rfl hm), hq⟩
      | false =>
        obtain ⟨m, a', s', hm, hq⟩ := j3 x y t f a s ha0 ha1
        exact ⟨m, a', s', st_spec_l1Cur_scene_j2 (ev_neg (by decide) hm), hq⟩
    obtain ⟨x, y, t, f, a, s, hs, a0, a1⟩ := spot_any code hc at_ seed h0 (by omega)
    obtain ⟨g, hg⟩ := bool_of (Good ⟨x, y, t, f⟩)
    have hgs := isSpot_spec x y t f g hg
    cases g with
    | true =>
      obtain ⟨m, a', s', hm, hq⟩ := j2 false x y t f a s (by omega) (by omega)
      exact ⟨m, a', s', st_spec_l1Cur_scene_l0 (ev_pos (by omega) (ev_bindc hs (ev_bindc hgs (ev_pos rfl hm)))), hq⟩
    | false =>
      obtain ⟨b, c, e, hb, c0, c1⟩ := one_any code hc a s 4 (by omega) (by omega) (by omega)
      obtain ⟨m, a', s', hm, hq⟩ := j2 (!b) x y t f c e (by omega) (by omega)
      exact ⟨m, a', s', st_spec_l1Cur_scene_l0 (ev_pos (by omega) (ev_bindc hs (ev_bindc hgs (ev_neg (by decide) (ev_bindc hb hm))))), hq⟩
theorem scene_any (code : List Int) (hc : ∀ y ∈ code, InU8 y) : ∃ m a s, Ev (fun k => spec_l1Cur_scene.f k code 0 0) (m, a, s) ∧ Small m ∧ m.length ≤ 90 ∧ 0 ≤ a ∧ a ≤ 1000000 := by
  have fin : ∀ (n : Nat) (c e : Int), n ≤ 90 → 0 ≤ c → c ≤ 100 → ∃ m a s, Ev (fun k => spec_l1Cur_scene.j0 k [] (n : Int) code c e) (m, a, s) ∧ Small m ∧ m.length ≤ 90 ∧ 0 ≤ a ∧ a ≤ 1000000 := by
    intro n c e hn c0 c1
    obtain ⟨m, a, s, hm, ⟨h1, h2⟩, h3⟩ := scene_loop code hc n hn n 0 [] c e (by omega) rfl (fun y hy => by cases hy) c0 (by omega)
    exact ⟨m, a, s, st_spec_l1Cur_scene_j0 hm, ⟨by omega, fun i hi => by rw [Nd_get hi]; exact h2 _ (List.getElem_mem hi)⟩, by omega, h3⟩
  obtain ⟨p, a1, s1, hp, p0, p1, g1, g2⟩ := pick_some code hc 0 0 7 (by omega) (by omega) (by omega) (by omega)
  obtain ⟨b, a2, s2, hb, g3, g4⟩ := one_any code hc a1 s1 16 (by omega) (by omega) (by omega)
  cases b with
  | true =>
    obtain ⟨q, a3, s3, hq, q0, q1, g5, g6⟩ := pick_some code hc a2 s2 3 (by omega) (by omega) (by omega) (by omega)
    obtain ⟨c, rfl⟩ : ∃ c : Nat, q = (c : Int) := ⟨q.toNat, by omega⟩
    obtain ⟨m, a, s, hm, hr⟩ := fin (39 + c) a3 s3 (by omega) (by omega) (by omega)
    refine ⟨m, a, s, ev_bindc hp (ev_bindc hb (ev_pos rfl (ev_bindc hq ?_))), hr⟩
    have e : wrap64 (39 + (c : Int)) = ((39 + c : Nat) : Int) := by rw [w64 (by omega) (by omega)]; omega
    simp only [e]; exact hm
  | false =>
    obtain ⟨c, rfl⟩ : ∃ c : Nat, p = (c : Int) := ⟨p.toNat, by omega⟩
    obtain ⟨m, a, s, hm, hr⟩ := fin (1 + c) a2 s2 (by omega) (by omega) (by omega)
    refine ⟨m, a, s, ev_bindc hp (ev_bindc hb (ev_neg (by simp) ?_)), hr⟩
    have e : wrap64 (1 + (c : Int)) = ((1 + c : Nat) : Int) := by rw [w64 (by omega) (by omega)]; omega
    simp only [e]; exact hm
theorem hang_any (code : List Int) (hc : ∀ y ∈ code, InU8 y) : ∃ m at_ up, Ev (fun k => spec_DrawHang.f k code) (m, at_, up) ∧ Small m := by
  obtain ⟨m, a, s, hm, hs, hl, a0, a1⟩ := scene_any code hc
  have e1 : wrap64 ((m.length : Int) + 2) = (m.length : Int) + 2 := w64 (by omega) (by omega)
  obtain ⟨p, a2, s2, hp, p0, p1, _, _⟩ := pick_some code hc a s ((m.length : Int) + 2) a0 (by omega) (by omega) (by omega)
  have e2 : wrap64 (p - 1) = p - 1 := w64 (by omega) (by omega)
  have hab : spec_l1Abs.f (p - 1) = some ((p - 1).natAbs : Int) := by
    unfold spec_l1Abs.f
    by_cases h : p - 1 < 0
    · rw [if_pos h, w64 (by omega) (by omega)]; congr 1; omega
    · rw [if_neg h]; congr 1; omega
  have e3 : wrap64 (((p - 1).natAbs : Int) + 2) = ((p - 1).natAbs : Int) + 2 := w64 (by omega) (by omega)
  obtain ⟨q, a3, s3, hq, _, _⟩ := pick_any code hc 40 0 (((p - 1).natAbs : Int) + 2) (by omega) (by omega) (by omega)
  have hd : Ev (fun k => spec_l4Draw.f k code) (m, p - 1) := Ev.bind hm (by
    simp only [e1]
    exact ev_bindc hp (ev_some (by simp only [e2])))
  refine ⟨m, p - 1, wrap64 (q - 1), Ev.bind hd (ev_bindc hab ?_), hs⟩
  simp only [e3]
  exact ev_bindc hq (ev_some rfl)
theorem hang_law (code : List Int) (hc : ∀ y ∈ code, InU8 y) : Ev (fun k => laws_FnPlaced.j0 k code) true := by
  obtain ⟨l, at_, up, hd, hs⟩ := hang_any code hc
  refine st_laws_FnPlaced_j0 (Ev.bind hd ?_)
  rcases hang_same l hs at_ up with ⟨h1, h2⟩ | ⟨a, s, o, rfl, hal, hok, hok2, hup, hgs, i1, ho, h1, h2⟩
  · exact Ev.bind h2 (Ev.bind h1 (ev_neg (by simp) (ev_neg (by simp) (ev_some rfl))))
  · have hl := hs.1
    have node : ∀ (m : List S36), Small m → SceneOk m → m.length = l.length → ∀ r, Ev (fun k => (impl_spotOf.f k m (a : Int)).bind fun bt446 => (some (bt446.1, bt446.2.1, bt446.2.2.1, bt446.2.2.2.1, bt446.2.2.2.2))) r → Ev (fun k => impl_SpotOf.f k m (a : Int)) r := by
      intro m hsm hm hlen r hr
      have wl : wrap64 ((m.length : Int) - 1) = (m.length : Int) - 1 := w64 (by omega) (by omega)
      refine Ev.bind (Ev.bind (scene_impl m hsm true ⟨fun _ => hm, fun _ => rfl⟩) (ev_pos rfl (ev_bindc (inr_some _ _ _) (ev_some rfl)))) ?_
      rw [wl, decide_eq_true (show 0 ≤ (a : Int) ∧ (a : Int) ≤ (m.length : Int) - 1 by omega)]
      exact ev_pos rfl hr
    have was := node l hs hok rfl (res s true) (Ev.bind i1 (ev_some rfl))
    have hat := hung_at l a hal up o
    have is_ : Ev (fun k => impl_spotOf.f k (hungList l a up o) (a : Int)) (res s true) := by
      have pre : ∀ r, Ev (fun k => if ((Nd (hungList l a up o) a).f1) < 0 then ((impl_Node_spot.f (Nd (hungList l a up o) a).f0 (Nd (hungList l a up o) a).f1 (Nd (hungList l a up o) a).f2 (Nd (hungList l a up o) a).f3 (Nd (hungList l a up o) a).f4 (Nd (hungList l a up o) a).f5).bind fun bt308 => (some (bt308.1, bt308.2.1, bt308.2.2.1, bt308.2.2.2, true))) else ((impl_spotOf.f k (hungList l a up o) (Nd (hungList l a up o) a).f1).bind fun bt313 => (if bt313.2.2.2.2 = true then ((impl_Node_spot.f (Nd (hungList l a up o) a).f0 (Nd (hungList l a up o) a).f1 (Nd (hungList l a up o) a).f2 (Nd (hungList l a up o) a).f3 (Nd (hungList l a up o) a).f4 (Nd (hungList l a up o) a).f5).bind fun bt320 => ((impl_JoinSpots.f k bt313.1 bt313.2.1 bt313.2.2.1 bt313.2.2.2.1 bt320.1 bt320.2.1 bt320.2.2.1 bt320.2.2.2).bind fun bt324 => (some (bt324.1, bt324.2.1, bt324.2.2.1, bt324.2.2.2.1, bt324.2.2.2.2)))) else (some (0, 0, 0, false, false))))) r → Ev (fun k => impl_spotOf.f k (hungList l a up o) (a : Int)) r :=
        fun r h => Ev.step (fun _ => rfl) (ev_pos (by omega) (ev_pos (by rw [hung_len]; omega) h))
      refine pre _ ?_
      rw [hat]
      rcases ho with ⟨rfl, rfl⟩ | ⟨u, b, rfl, hb, hbs, rfl⟩
      · exact ev_pos (by show (-1 : Int) < 0; decide) (ev_bindc rfl (ev_some rfl))
      · have hgo : Good (join (back b) s) := by
          have := (hok2.2 a (by rw [hung_len]; exact hal)).2.2.1
          rw [hat] at this
          exact this
        have hj := join_impl hb hgo true ⟨fun _ => by rw [cancel hb hgs.2.2]; exact hgs, fun _ => rfl⟩
        rw [cancel hb hgs.2.2] at hj
        refine ev_neg (by show ¬ (u : Int) < 0; omega) (Ev.bind hbs (ev_pos rfl (ev_bindc rfl ?_)))
        exact Ev.bind hj (ev_some rfl)
    have now := node (hungList l a up o) (hung_small hs a hal up o) hok2 (hung_len l a up o) (res s true) (Ev.bind is_ (ev_some rfl))
    refine Ev.bind h2 (Ev.bind h1 (ev_neg (by simp) (ev_pos rfl (Ev.bind was (Ev.bind now (ev_pos rfl (ev_pos rfl (ev_pos (by simp) (ev_pos (by show (0 : Int) ≤ (a : Int); omega) (ev_pos (by show (a : Int) < ((hungList l a up o).length : Int); rw [hung_len]; omega) (ev_some ?_)))))))))))
    rw [show rd_T36 (hungList l a up o) (a : Int) = hungNode l a up o from hat]
    simp [hungNode]
theorem FnPlaced : ∀ (l0 : List (Int)) (l1 : List (Int)), (l0.length * 1 ≤ 140737488351232 ∧ ∀ y ∈ l0, InU8 y) → (l1.length * 1 ≤ 140737488351232 ∧ ∀ y ∈ l1, InU8 y) → ∃ k, laws_FnPlaced.f k l0 l1 = some true := by
  intro code more gc gm
  refine Ev.rounds (g := fun k => laws_FnPlaced.f k code more) ?_
  refine ev_ite (fun _ => ev_some rfl) fun _ => ?_
  obtain ⟨x, y, t, f, a, s, hs, _, _⟩ := spot_any code gc.2 0 0 (by omega) (by omega)
  have hd : spec_DrawBackSpot.f code = some (x, y, t, f) := by unfold spec_DrawBackSpot.f; rw [hs]; rfl
  refine ev_bindc hd ?_
  have hl := hang_law more gm.2
  obtain ⟨g, hg⟩ := bool_of (Good ⟨x, y, t, f⟩)
  cases g with
  | false =>
    have i1 : Ev (fun k => impl_BackSpot.f k x y t f) (0, 0, 0, false, false) := ev_bindc (isSpot_impl x y t f false hg) (ev_neg (by decide) (ev_some rfl))
    have s1 : Ev (fun k => spec_BackSpot.f k x y t f) (0, 0, 0, false, false) := ev_bindc (isSpot_spec x y t f false hg) (ev_neg (by decide) (ev_some rfl))
    exact Ev.bind i1 (Ev.bind s1 (ev_neg (by simp) (ev_neg (by simp) hl)))
  | true =>
    have hgood := hg.1 rfl
    have i1 := back_impl hgood
    have s1 : Ev (fun k => spec_BackSpot.f k x y t f) (res (back ⟨x, y, t, f⟩) true) := ev_bindc (isSpot_spec x y t f true hg) (ev_pos rfl (Ev.bind (back_spec hgood) (ev_some rfl)))
    have j1 := join_impl hgood (back_good hgood) true ⟨fun _ => by rw [join_back hgood]; exact zero_good, fun _ => rfl⟩
    have j2 := join_impl (back_good hgood) hgood true ⟨fun _ => by rw [back_join hgood]; exact zero_good, fun _ => rfl⟩
    rw [join_back hgood] at j1
    rw [back_join hgood] at j2
    exact Ev.bind i1 (Ev.bind s1 (ev_neg (by simp) (ev_pos rfl (Ev.bind j1 (Ev.bind j2 (ev_pos rfl (ev_pos rfl (ev_neg (by simp [res, zero]) (ev_neg (by simp [res, zero]) hl)))))))))
end Go.Proofs.Ytmmgmbmjlbdpnaa.Pure
