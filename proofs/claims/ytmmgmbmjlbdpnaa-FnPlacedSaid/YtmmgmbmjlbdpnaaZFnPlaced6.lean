/- Texts of a row. -/
import Derived.Test.YtmmgmbmjlbdpnaaZFnPlaced3
import Derived.Test.YtmmgmbmjlbdpnaaZFnPlaced4
import Derived.Test.YtmmgmbmjlbdpnaaZFnPlaced5
namespace Go.Proofs.Ytmmgmbmjlbdpnaa.PFnPlaced
open Go.RowKit Go.Proofs.YtmmgmbmjlbdpnaaW.PrintWords Go.Proofs.YtmmgmbmjlbdpnaaW.PrintLast Go.Proofs.YtmmgmbmjlbdpnaaW.PrintMore
attribute [local go_sem] max2_int min2_int max_two min_two max_three min_three max_four min_four   -- for this text's walks alone
set_option linter.unusedVariables false
set_option linter.unusedSimpArgs false
mutual
def impl_GoodScene.l0 : Nat → List (S36) → List (S36) → Int → Int → Option (Bool)
 | 0, _, _, _, _ => none
 | k + 1, x0, x5, x6, x7 => if x7 < x6 then (if 0 ≤ x7 then (if x7 < (x5.length : Int) then ((impl_GoodName.f k ((rd_T36 x5 x7).f0)).bind fun t291 => (if t291 = true then ((impl_inRange.f ((rd_T36 x5 x7).f1) (-1) (wrap64 (x7 - 1))).bind fun t292 => (if t292 = true then ((impl_Node_spot.f ((rd_T36 x5 x7).f0) ((rd_T36 x5 x7).f1) ((rd_T36 x5 x7).f2) ((rd_T36 x5 x7).f3) ((rd_T36 x5 x7).f4) ((rd_T36 x5 x7).f5)).bind fun bt293 => ((impl_isSpot.f bt293.1 bt293.2.1 bt293.2.2.1 bt293.2.2.2).bind fun t297 => (impl_GoodScene.j1 k x0 x7 x5 x6 x7 (!t297) ((rd_T36 x5 x7).f0) ((rd_T36 x5 x7).f1) ((rd_T36 x5 x7).f2) ((rd_T36 x5 x7).f3) ((rd_T36 x5 x7).f4) ((rd_T36 x5 x7).f5)))) else (impl_GoodScene.j1 k x0 x7 x5 x6 x7 true ((rd_T36 x5 x7).f0) ((rd_T36 x5 x7).f1) ((rd_T36 x5 x7).f2) ((rd_T36 x5 x7).f3) ((rd_T36 x5 x7).f4) ((rd_T36 x5 x7).f5)))) else (impl_GoodScene.j1 k x0 x7 x5 x6 x7 true ((rd_T36 x5 x7).f0) ((rd_T36 x5 x7).f1) ((rd_T36 x5 x7).f2) ((rd_T36 x5 x7).f3) ((rd_T36 x5 x7).f4) ((rd_T36 x5 x7).f5)))) else (none)) else (none)) else (some (decide ((x0.length : Int) ≤ 40)))
def impl_GoodScene.j1 : Nat → List (S36) → Int → List (S36) → Int → Int → Bool → ByteArray → Int → Int → Int → Int → Bool → Option (Bool)
 | 0, _, _, _, _, _, _, _, _, _, _, _, _ => none
 | k + 1, x0, x3, x5, x6, x7, x29, x291000, x291001, x291002, x291003, x291004, x291005 => if x29 = true then (some false) else (if 0 ≤ x3 then (if x3 ≤ (x0.length : Int) then ((slices_ContainsFunc_w38.f k (x0.take (x3 : Int).toNat) x291000 x291001 x291002 x291003 x291004 x291005).bind fun t302 => (if t302 = true then (some false) else (impl_GoodScene.l0 k x0 x5 x6 (wrap64 (x7 + 1))))) else (none)) else (none))
end
def impl_GoodScene.f (k : Nat) (l0 : List (S36)) : Option (Bool) := impl_GoodScene.l0 k l0 l0 (l0.length : Int) 0
theorem impl_GoodScene.mono_l : ∀ k, (∀ y0 y1 y2 y3, LeO (impl_GoodScene.l0 k y0 y1 y2 y3) (impl_GoodScene.l0 (k + 1) y0 y1 y2 y3)) ∧ (∀ y0 y1 y2 y3 y4 y5 y6 y7 y8 y9 y10 y11, LeO (impl_GoodScene.j1 k y0 y1 y2 y3 y4 y5 y6 y7 y8 y9 y10 y11) (impl_GoodScene.j1 (k + 1) y0 y1 y2 y3 y4 y5 y6 y7 y8 y9 y10 y11))
 | 0 => ⟨fun _ _ _ _ r h => by simp [impl_GoodScene.l0] at h, fun _ _ _ _ _ _ _ _ _ _ _ _ r h => by simp [impl_GoodScene.j1] at h⟩
 | k + 1 => by
  obtain ⟨ih0, ih1⟩ := impl_GoodScene.mono_l k
  refine ⟨?_, ?_⟩
  ·intro y0 y1 y2 y3
   unfold impl_GoodScene.l0
   repeat' first
   | (with_reducible exact ih0 _ _ _ _)
   | (with_reducible exact ih1 _ _ _ _ _ _ _ _ _ _ _ _)
   | (with_reducible exact impl_GoodName.mono _ _)
   | (with_reducible exact slices_ContainsFunc_w38.mono _ _ _ _ _ _ _ _)
   | (with_reducible first | exact LeO.refl _ | exact LeO.none _ | refine LeO.ite ?_ ?_ | refine LeO.bind ?_ (fun _ => ?_))
   | exact ih0 _ _ _ _
   | exact ih1 _ _ _ _ _ _ _ _ _ _ _ _
   | exact impl_GoodName.mono _ _
   | exact slices_ContainsFunc_w38.mono _ _ _ _ _ _ _ _ | exact LeO.none _ | refine LeO.ite ?_ ?_ | refine LeO.bind ?_ (fun _ => ?_)
  ·intro y0 y1 y2 y3 y4 y5 y6 y7 y8 y9 y10 y11
   unfold impl_GoodScene.j1
   repeat' first
   | (with_reducible exact ih0 _ _ _ _)
   | (with_reducible exact ih1 _ _ _ _ _ _ _ _ _ _ _ _)
   | (with_reducible exact impl_GoodName.mono _ _)
   | (with_reducible exact slices_ContainsFunc_w38.mono _ _ _ _ _ _ _ _)
   | (with_reducible first | exact LeO.refl _ | exact LeO.none _ | refine LeO.ite ?_ ?_ | refine LeO.bind ?_ (fun _ => ?_))
   | exact ih0 _ _ _ _
   | exact ih1 _ _ _ _ _ _ _ _ _ _ _ _
   | exact impl_GoodName.mono _ _
   | exact slices_ContainsFunc_w38.mono _ _ _ _ _ _ _ _ | exact LeO.none _ | refine LeO.ite ?_ ?_ | refine LeO.bind ?_ (fun _ => ?_)
theorem impl_GoodScene.mono : ∀ a0 k, LeO (impl_GoodScene.f k a0) (impl_GoodScene.f (k + 1) a0) := by
 intro a0 k
 obtain ⟨ih0, ih1⟩ := impl_GoodScene.mono_l k
 unfold impl_GoodScene.f
 repeat' first
   | (with_reducible exact ih0 _ _ _ _)
   | (with_reducible exact ih1 _ _ _ _ _ _ _ _ _ _ _ _)
   | (with_reducible exact impl_GoodName.mono _ _)
   | (with_reducible exact slices_ContainsFunc_w38.mono _ _ _ _ _ _ _ _)
   | (with_reducible first | exact LeO.refl _ | exact LeO.none _ | refine LeO.ite ?_ ?_ | refine LeO.bind ?_ (fun _ => ?_))
   | exact ih0 _ _ _ _
   | exact ih1 _ _ _ _ _ _ _ _ _ _ _ _
   | exact impl_GoodName.mono _ _
   | exact slices_ContainsFunc_w38.mono _ _ _ _ _ _ _ _ | exact LeO.none _ | refine LeO.ite ?_ ?_ | refine LeO.bind ?_ (fun _ => ?_)
set_option maxHeartbeats 8000000 in
set_option maxRecDepth 100000 in
theorem impl_GoodScene.calls (k : Nat) (A0 : Option Addr) (c0 : Nat) (l0 : List (S36)) (r : Bool) (w : World) (hr0 : Kd.C k36 w A0 l0.length l0) (hc0 : l0.length ≤ c0) (h : impl_GoodScene.f k l0 = some r) :
  Calls Try.prog 24 #[.slice A0 l0.length c0] w fun e w' => e = .returned (.bool r) ∧ Below w.heap.size w w' := by
 have hu36 := Try.underlying36
 have HR0 := Aside0.mk hr0
 have HC0 := Aside0.mk hc0
 clear hr0 hc0
 have HB := Aside0.mk (Below.refl w.heap.size w)
 have H : (impl_GoodScene.l0 k l0 l0 (l0.length : Int) 0) = some r := h
 clear h
 have H' := Aside0.mk H
 clear H
 go_enter Try.func24, Try.ntmps24
 go_wp2
 go_loopg [7] k (fun kq v7 w' => ∃ (x7_1 : Int), v7 = .int .i64 x7_1 ∧ Aside0 (impl_GoodScene.l0 kq l0 l0 (l0.length : Int) x7_1 = some r) ∧ Aside0 (kq ≤ k) ∧ Aside0 (Below w.heap.size w w'))
 case atStart => exact ⟨(0), tE, H', ⟨Nat.le_refl _⟩, ⟨by repeat (first | (with_reducible first | exact HB.out | apply below_alloc | apply pw_below_drewN | apply below_drew1) | exact HB.out)⟩⟩
 case round =>
  clear H'
  obtain ⟨x7_1, rfl, HA, HK1, HB⟩ := hrel
  cases gk with
  | zero => exact absurd HA.out (by simp [impl_GoodScene.l0])
  | succ k1 =>
   have H := HA.out
   clear HA
   simp only [impl_GoodScene.l0] at H
   by_cases c2 : x7_1 < (l0.length : Int)
   ·rw [if_pos c2] at H
    have c2b0 : decide (x7_1 < (l0.length : Int)) = true := decide_eq_true c2
    clear c2
    by_cases c3 : 0 ≤ x7_1
    ·rw [if_pos c3] at H
     have c3b0 : decide (0 ≤ x7_1) = true := decide_eq_true c3
     clear c3
     by_cases c4 : x7_1 < (l0.length : Int)
     ·rw [if_pos c4] at H
      have c4b0 : decide (x7_1 < (l0.length : Int)) = true := decide_eq_true c4
      clear c4
      have HC5 := Aside0.mk H
      clear H
      have p289 : 0 ≤ (x7_1 : Int) := of_decide_eq_true hE
      have q289 : x7_1 < (l0.length : Int) := of_decide_eq_true hE
      obtain ⟨ad289, e289, hx289_0, hx289_1, hx289_2, hx289_3, hx289_4, hx289_5⟩ := at_T36 HR0.out x7_1 p289 q289
      cases e289
      replace hx289_0 := (HB.out.cell (World.block_lt_of_cell? w _ hx289_0)).trans hx289_0
      replace hx289_1 := (HB.out.cell (World.block_lt_of_cell? w _ hx289_1)).trans hx289_1
      replace hx289_2 := (HB.out.cell (World.block_lt_of_cell? w _ hx289_2)).trans hx289_2
      replace hx289_3 := (HB.out.cell (World.block_lt_of_cell? w _ hx289_3)).trans hx289_3
      replace hx289_4 := (HB.out.cell (World.block_lt_of_cell? w _ hx289_4)).trans hx289_4
      replace hx289_5 := (HB.out.cell (World.block_lt_of_cell? w _ hx289_5)).trans hx289_5
      replace p289 := eq_true p289
      replace q289 := eq_true q289
      go_upto_region 4 with (first | ((with_reducible refine gate_dst (N := 4) rfl ?_); refine box_event rfl (N := 4) rfl (cs := #[.string (⟨#[]⟩ : ByteArray), .int .i64 0, .int .i64 0, .int .i64 0, .int .i64 0, .bool false]) (t := 36) sE ?_; intro gb290 hg w6 hbox hb; have BK290 := Aside0.mk hbox; have GW290 := gS w hg (lU); have GE290 := gS w hg (lU); replace HB := bH (lU) hb; clear hb hbox hg; have hcz7_0 := cz BK290 0 (.string (⟨#[]⟩ : ByteArray)); have hcz7_1 := cz BK290 1 (.int .i64 0); have hcz7_2 := cz BK290 2 (.int .i64 0); have hcz7_3 := cz BK290 3 (.int .i64 0); have hcz7_4 := cz BK290 4 (.int .i64 0); have hcz7_5 := cz BK290 5 (.bool false); have hfz7_0 := fz BK290 0; have hfz7_1 := fz BK290 1; have hfz7_2 := fz BK290 2; have hfz7_3 := fz BK290 3; have hfz7_4 := fz BK290 4; have hfz7_5 := fz BK290 5) | ((with_reducible refine gate_store (t := 36) (p := 4) rfl ?_); refine store_event (t := 36) (p := 4) (v := ?vo_w8) (w1 := ((((((w6.setCell ⟨gb290, 0, none⟩ (.string ((rd_T36 l0 x7_1).f0))).setCell ⟨gb290, 1, none⟩ (.int .i64 ((rd_T36 l0 x7_1).f1))).setCell ⟨gb290, 2, none⟩ (.int .i64 ((rd_T36 l0 x7_1).f2))).setCell ⟨gb290, 3, none⟩ (.int .i64 ((rd_T36 l0 x7_1).f3))).setCell ⟨gb290, 4, none⟩ (.int .i64 ((rd_T36 l0 x7_1).f4))).setCell ⟨gb290, 5, none⟩ (.bool ((rd_T36 l0 x7_1).f5)))) ?hg ?ho ?hn ?hr ?_; (case ho => rfl); (case hg => rfl); (case hn => rfl); (case hr => first | (go_simp; done) | (go_simp; rfl) | (have hq0_ := (blk_cell BK290.out 0).trans (show _ = some _ from rfl); have hf0_ := blk_frozen BK290.out 0; have hq1_ := (blk_cell BK290.out 1).trans (show _ = some _ from rfl); have hf1_ := blk_frozen BK290.out 1; have hq2_ := (blk_cell BK290.out 2).trans (show _ = some _ from rfl); have hf2_ := blk_frozen BK290.out 2; have hq3_ := (blk_cell BK290.out 3).trans (show _ = some _ from rfl); have hf3_ := blk_frozen BK290.out 3; have hq4_ := (blk_cell BK290.out 4).trans (show _ = some _ from rfl); have hf4_ := blk_frozen BK290.out 4; have hq5_ := (blk_cell BK290.out 5).trans (show _ = some _ from rfl); have hf5_ := blk_frozen BK290.out 5; first | (go_simp; done) | (go_simp; rfl))); intro w8 hw; replace BK290 : Aside0 (w8.heap[gb290]? = some (.cells #[.string ((rd_T36 l0 x7_1).f0), .int .i64 ((rd_T36 l0 x7_1).f1), .int .i64 ((rd_T36 l0 x7_1).f2), .int .i64 ((rd_T36 l0 x7_1).f3), .int .i64 ((rd_T36 l0 x7_1).f4), .bool ((rd_T36 l0 x7_1).f5)] 36 (0, 0))) := ⟨(by rw [hw]; exact (by refine bU ?_; refine blk_put (cs := #[.string ((rd_T36 l0 x7_1).f0), .int .i64 ((rd_T36 l0 x7_1).f1), .int .i64 ((rd_T36 l0 x7_1).f2), .int .i64 ((rd_T36 l0 x7_1).f3), .int .i64 ((rd_T36 l0 x7_1).f4), .bool false]) ?_ 5 _ rfl; refine bU ?_; refine blk_put (cs := #[.string ((rd_T36 l0 x7_1).f0), .int .i64 ((rd_T36 l0 x7_1).f1), .int .i64 ((rd_T36 l0 x7_1).f2), .int .i64 ((rd_T36 l0 x7_1).f3), .int .i64 0, .bool false]) ?_ 4 _ rfl; refine bU ?_; refine blk_put (cs := #[.string ((rd_T36 l0 x7_1).f0), .int .i64 ((rd_T36 l0 x7_1).f1), .int .i64 ((rd_T36 l0 x7_1).f2), .int .i64 0, .int .i64 0, .bool false]) ?_ 3 _ rfl; refine bU ?_; refine blk_put (cs := #[.string ((rd_T36 l0 x7_1).f0), .int .i64 ((rd_T36 l0 x7_1).f1), .int .i64 0, .int .i64 0, .int .i64 0, .bool false]) ?_ 2 _ rfl; refine bU ?_; refine blk_put (cs := #[.string ((rd_T36 l0 x7_1).f0), .int .i64 0, .int .i64 0, .int .i64 0, .int .i64 0, .bool false]) ?_ 1 _ rfl; refine bU ?_; refine blk_put (cs := #[.string (⟨#[]⟩ : ByteArray), .int .i64 0, .int .i64 0, .int .i64 0, .int .i64 0, .bool false]) ?_ 0 _ rfl; refine bU ?_; exact BK290.out))⟩; replace HB : Aside0 (Below w.heap.size w w8) := ⟨(by rw [hw]; exact (lV1 GE290))⟩; clear hw))
      (try simp only [Act.put, List.setIfInBounds_toArray, List.set_cons_zero, List.set_cons_succ])
      go_cut [29] (fun v29 wc => ∃ (kq : Nat) (x29_4 : Bool), v29 = .bool x29_4 ∧ Aside0 (impl_GoodScene.j1 kq l0 x7_1 l0 (l0.length : Int) x7_1 x29_4 ((rd_T36 l0 x7_1).f0) ((rd_T36 l0 x7_1).f1) ((rd_T36 l0 x7_1).f2) ((rd_T36 l0 x7_1).f3) ((rd_T36 l0 x7_1).f4) ((rd_T36 l0 x7_1).f5) = some r) ∧ Aside0 (kq ≤ k1) ∧ Aside0 (wc.heap[gb290]? = some (.cells #[.string ((rd_T36 l0 x7_1).f0), .int .i64 ((rd_T36 l0 x7_1).f1), .int .i64 ((rd_T36 l0 x7_1).f2), .int .i64 ((rd_T36 l0 x7_1).f3), .int .i64 ((rd_T36 l0 x7_1).f4), .bool ((rd_T36 l0 x7_1).f5)] 36 (0, 0))) ∧ Aside0 (Below w.heap.size w wc))
      case first =>
       have H := HC5.out
       clear HC5
       replace H := Option.bind_eq_some_iff.mp H
       obtain ⟨t291, A90, H⟩ := H
       replace H : (if t291 = true then ((impl_inRange.f ((rd_T36 l0 x7_1).f1) (-1) (wrap64 (x7_1 - 1))).bind fun t292 => (if t292 = true then ((impl_Node_spot.f ((rd_T36 l0 x7_1).f0) ((rd_T36 l0 x7_1).f1) ((rd_T36 l0 x7_1).f2) ((rd_T36 l0 x7_1).f3) ((rd_T36 l0 x7_1).f4) ((rd_T36 l0 x7_1).f5)).bind fun bt293 => ((impl_isSpot.f bt293.1 bt293.2.1 bt293.2.2.1 bt293.2.2.2).bind fun t297 => (impl_GoodScene.j1 k1 l0 x7_1 l0 (l0.length : Int) x7_1 (!t297) ((rd_T36 l0 x7_1).f0) ((rd_T36 l0 x7_1).f1) ((rd_T36 l0 x7_1).f2) ((rd_T36 l0 x7_1).f3) ((rd_T36 l0 x7_1).f4) ((rd_T36 l0 x7_1).f5)))) else (impl_GoodScene.j1 k1 l0 x7_1 l0 (l0.length : Int) x7_1 true ((rd_T36 l0 x7_1).f0) ((rd_T36 l0 x7_1).f1) ((rd_T36 l0 x7_1).f2) ((rd_T36 l0 x7_1).f3) ((rd_T36 l0 x7_1).f4) ((rd_T36 l0 x7_1).f5)))) else (impl_GoodScene.j1 k1 l0 x7_1 l0 (l0.length : Int) x7_1 true ((rd_T36 l0 x7_1).f0) ((rd_T36 l0 x7_1).f1) ((rd_T36 l0 x7_1).f2) ((rd_T36 l0 x7_1).f3) ((rd_T36 l0 x7_1).f4) ((rd_T36 l0 x7_1).f5))) = some r := H
       have A9 := Aside0.mk A90
       clear A90
       by_cases c10 : t291 = true
       ·subst c10
        have H1 : ((impl_inRange.f ((rd_T36 l0 x7_1).f1) (-1) (wrap64 (x7_1 - 1))).bind fun t292 => (if t292 = true then ((impl_Node_spot.f ((rd_T36 l0 x7_1).f0) ((rd_T36 l0 x7_1).f1) ((rd_T36 l0 x7_1).f2) ((rd_T36 l0 x7_1).f3) ((rd_T36 l0 x7_1).f4) ((rd_T36 l0 x7_1).f5)).bind fun bt293 => ((impl_isSpot.f bt293.1 bt293.2.1 bt293.2.2.1 bt293.2.2.2).bind fun t297 => (impl_GoodScene.j1 k1 l0 x7_1 l0 (l0.length : Int) x7_1 (!t297) ((rd_T36 l0 x7_1).f0) ((rd_T36 l0 x7_1).f1) ((rd_T36 l0 x7_1).f2) ((rd_T36 l0 x7_1).f3) ((rd_T36 l0 x7_1).f4) ((rd_T36 l0 x7_1).f5)))) else (impl_GoodScene.j1 k1 l0 x7_1 l0 (l0.length : Int) x7_1 true ((rd_T36 l0 x7_1).f0) ((rd_T36 l0 x7_1).f1) ((rd_T36 l0 x7_1).f2) ((rd_T36 l0 x7_1).f3) ((rd_T36 l0 x7_1).f4) ((rd_T36 l0 x7_1).f5)))) = some r := by rw [if_pos rfl] at H; exact H
        clear H
        have H := H1
        clear H1
        replace H := Option.bind_eq_some_iff.mp H
        obtain ⟨t292, A110, H⟩ := H
        replace H : (if t292 = true then ((impl_Node_spot.f ((rd_T36 l0 x7_1).f0) ((rd_T36 l0 x7_1).f1) ((rd_T36 l0 x7_1).f2) ((rd_T36 l0 x7_1).f3) ((rd_T36 l0 x7_1).f4) ((rd_T36 l0 x7_1).f5)).bind fun bt293 => ((impl_isSpot.f bt293.1 bt293.2.1 bt293.2.2.1 bt293.2.2.2).bind fun t297 => (impl_GoodScene.j1 k1 l0 x7_1 l0 (l0.length : Int) x7_1 (!t297) ((rd_T36 l0 x7_1).f0) ((rd_T36 l0 x7_1).f1) ((rd_T36 l0 x7_1).f2) ((rd_T36 l0 x7_1).f3) ((rd_T36 l0 x7_1).f4) ((rd_T36 l0 x7_1).f5)))) else (impl_GoodScene.j1 k1 l0 x7_1 l0 (l0.length : Int) x7_1 true ((rd_T36 l0 x7_1).f0) ((rd_T36 l0 x7_1).f1) ((rd_T36 l0 x7_1).f2) ((rd_T36 l0 x7_1).f3) ((rd_T36 l0 x7_1).f4) ((rd_T36 l0 x7_1).f5))) = some r := H
        have A11 := Aside0.mk A110
        clear A110
        by_cases c12 : t292 = true
        ·subst c12
         have H1 : ((impl_Node_spot.f ((rd_T36 l0 x7_1).f0) ((rd_T36 l0 x7_1).f1) ((rd_T36 l0 x7_1).f2) ((rd_T36 l0 x7_1).f3) ((rd_T36 l0 x7_1).f4) ((rd_T36 l0 x7_1).f5)).bind fun bt293 => ((impl_isSpot.f bt293.1 bt293.2.1 bt293.2.2.1 bt293.2.2.2).bind fun t297 => (impl_GoodScene.j1 k1 l0 x7_1 l0 (l0.length : Int) x7_1 (!t297) ((rd_T36 l0 x7_1).f0) ((rd_T36 l0 x7_1).f1) ((rd_T36 l0 x7_1).f2) ((rd_T36 l0 x7_1).f3) ((rd_T36 l0 x7_1).f4) ((rd_T36 l0 x7_1).f5)))) = some r := by rw [if_pos rfl] at H; exact H
         clear H
         have H := H1
         clear H1
         replace H := Option.bind_eq_some_iff.mp H
         obtain ⟨⟨t293, t294, t295, t296⟩, A130, H⟩ := H
         replace H : ((impl_isSpot.f t293 t294 t295 t296).bind fun t297 => (impl_GoodScene.j1 k1 l0 x7_1 l0 (l0.length : Int) x7_1 (!t297) ((rd_T36 l0 x7_1).f0) ((rd_T36 l0 x7_1).f1) ((rd_T36 l0 x7_1).f2) ((rd_T36 l0 x7_1).f3) ((rd_T36 l0 x7_1).f4) ((rd_T36 l0 x7_1).f5))) = some r := H
         have A13 := Aside0.mk A130
         clear A130
         replace H := Option.bind_eq_some_iff.mp H
         obtain ⟨t297, A140, H⟩ := H
         replace H : (impl_GoodScene.j1 k1 l0 x7_1 l0 (l0.length : Int) x7_1 (!t297) ((rd_T36 l0 x7_1).f0) ((rd_T36 l0 x7_1).f1) ((rd_T36 l0 x7_1).f2) ((rd_T36 l0 x7_1).f3) ((rd_T36 l0 x7_1).f4) ((rd_T36 l0 x7_1).f5)) = some r := H
         have A14 := Aside0.mk A140
         clear A140
         have H' := Aside0.mk H
         clear H
         have hcz15_0 := cz BK290 0 (.string ((rd_T36 l0 x7_1).f0))
         have hcz15_1 := cz BK290 1 (.int .i64 ((rd_T36 l0 x7_1).f1))
         have hcz15_2 := cz BK290 2 (.int .i64 ((rd_T36 l0 x7_1).f2))
         have hcz15_3 := cz BK290 3 (.int .i64 ((rd_T36 l0 x7_1).f3))
         have hcz15_4 := cz BK290 4 (.int .i64 ((rd_T36 l0 x7_1).f4))
         have hcz15_5 := cz BK290 5 (.bool ((rd_T36 l0 x7_1).f5))
         have hfz15_0 := fz BK290 0
         have hfz15_1 := fz BK290 1
         have hfz15_2 := fz BK290 2
         have hfz15_3 := fz BK290 3
         have hfz15_4 := fz BK290 4
         have hfz15_5 := fz BK290 5
         go_wp2_with (first | ((with_reducible refine gate_callee (f := 36) rfl ?_); refine goesL_ (some 14) rfl rfl Try.func36 (by kernel_rfl) rfl #[.string ((rd_T36 l0 x7_1).f0)] rfl aE ?_; (with_reducible refine (impl_GoodName.calls k1 ((rd_T36 l0 x7_1).f0) true _ A9.out).mono ?_); rintro e w' ⟨rfl, ⟨nd, rfl⟩⟩; refine ⟨_, rfl, ?_⟩) | (go_at_call 21; (with_reducible refine (impl_inRange.calls ((rd_T36 l0 x7_1).f1) (-1) (wrap64 (x7_1 - 1)) true _ A11.out).mono ?_); rintro e w' ⟨rfl, ⟨nd, rfl⟩⟩) | (go_at_call 35; (with_reducible refine (impl_Node_spot.calls ((rd_T36 l0 x7_1).f0) ((rd_T36 l0 x7_1).f1) ((rd_T36 l0 x7_1).f2) ((rd_T36 l0 x7_1).f3) ((rd_T36 l0 x7_1).f4) ((rd_T36 l0 x7_1).f5) t293 t294 t295 t296 _ A13.out).mono ?_); rintro e w16 ⟨rfl, hb⟩; replace BK290 := bB (bV BK290) hb; replace HB := bH (lV1 GE290) hb; (try clear hb)) | (go_at_call 13; (with_reducible refine (impl_isSpot.calls t293 t294 t295 t296 t297 _ A14.out).mono ?_); rintro e w17 ⟨rfl, hb⟩; replace BK290 := bB (bV BK290) hb; replace HB := bH (lV1 GE290) hb; (try clear hb)))
         go_meet
         case rel => exact ⟨_, (!t297), tE, H', ⟨by have := HK1.out; first | omega | exact Nat.le_refl _⟩, ⟨by refine bU ?_; exact BK290.out⟩, ⟨by repeat (first | (with_reducible first | exact HB.out | apply below_alloc | apply pw_below_drewN | apply below_drew1 | refine below_set ?_ GE290.out) | exact HB.out)⟩⟩
        ·replace c12 := Bool.eq_false_iff.mpr c12
         subst c12
         have H1 : (impl_GoodScene.j1 k1 l0 x7_1 l0 (l0.length : Int) x7_1 true ((rd_T36 l0 x7_1).f0) ((rd_T36 l0 x7_1).f1) ((rd_T36 l0 x7_1).f2) ((rd_T36 l0 x7_1).f3) ((rd_T36 l0 x7_1).f4) ((rd_T36 l0 x7_1).f5)) = some r := by rw [if_neg (show ¬ (false = true) by decide)] at H; exact H
         clear H
         have H := H1
         clear H1
         have H' := Aside0.mk H
         clear H
         have hcz18_0 := cz BK290 0 (.string ((rd_T36 l0 x7_1).f0))
         have hcz18_1 := cz BK290 1 (.int .i64 ((rd_T36 l0 x7_1).f1))
         have hcz18_2 := cz BK290 2 (.int .i64 ((rd_T36 l0 x7_1).f2))
         have hcz18_3 := cz BK290 3 (.int .i64 ((rd_T36 l0 x7_1).f3))
         have hcz18_4 := cz BK290 4 (.int .i64 ((rd_T36 l0 x7_1).f4))
         have hcz18_5 := cz BK290 5 (.bool ((rd_T36 l0 x7_1).f5))
         have hfz18_0 := fz BK290 0
         have hfz18_1 := fz BK290 1
         have hfz18_2 := fz BK290 2
         have hfz18_3 := fz BK290 3
         have hfz18_4 := fz BK290 4
         have hfz18_5 := fz BK290 5
         go_wp2_with (first | ((with_reducible refine gate_callee (f := 36) rfl ?_); refine goesL_ (some 14) rfl rfl Try.func36 (by kernel_rfl) rfl #[.string ((rd_T36 l0 x7_1).f0)] rfl aE ?_; (with_reducible refine (impl_GoodName.calls k1 ((rd_T36 l0 x7_1).f0) true _ A9.out).mono ?_); rintro e w' ⟨rfl, ⟨nd, rfl⟩⟩; refine ⟨_, rfl, ?_⟩) | (go_at_call 21; (with_reducible refine (impl_inRange.calls ((rd_T36 l0 x7_1).f1) (-1) (wrap64 (x7_1 - 1)) false _ A11.out).mono ?_); rintro e w' ⟨rfl, ⟨nd, rfl⟩⟩))
         go_meet
         case rel => exact ⟨_, (true), tE, H', ⟨by have := HK1.out; first | omega | exact Nat.le_refl _⟩, ⟨by refine bU ?_; exact BK290.out⟩, ⟨by repeat (first | (with_reducible first | exact HB.out | apply below_alloc | apply pw_below_drewN | apply below_drew1 | refine below_set ?_ GE290.out) | exact HB.out)⟩⟩
       ·replace c10 := Bool.eq_false_iff.mpr c10
        subst c10
        have H1 : (impl_GoodScene.j1 k1 l0 x7_1 l0 (l0.length : Int) x7_1 true ((rd_T36 l0 x7_1).f0) ((rd_T36 l0 x7_1).f1) ((rd_T36 l0 x7_1).f2) ((rd_T36 l0 x7_1).f3) ((rd_T36 l0 x7_1).f4) ((rd_T36 l0 x7_1).f5)) = some r := by rw [if_neg (show ¬ (false = true) by decide)] at H; exact H
        clear H
        have H := H1
        clear H1
        have H' := Aside0.mk H
        clear H
        have hcz19_0 := cz BK290 0 (.string ((rd_T36 l0 x7_1).f0))
        have hcz19_1 := cz BK290 1 (.int .i64 ((rd_T36 l0 x7_1).f1))
        have hcz19_2 := cz BK290 2 (.int .i64 ((rd_T36 l0 x7_1).f2))
        have hcz19_3 := cz BK290 3 (.int .i64 ((rd_T36 l0 x7_1).f3))
        have hcz19_4 := cz BK290 4 (.int .i64 ((rd_T36 l0 x7_1).f4))
        have hcz19_5 := cz BK290 5 (.bool ((rd_T36 l0 x7_1).f5))
        have hfz19_0 := fz BK290 0
        have hfz19_1 := fz BK290 1
        have hfz19_2 := fz BK290 2
        have hfz19_3 := fz BK290 3
        have hfz19_4 := fz BK290 4
        have hfz19_5 := fz BK290 5
        go_wp2_with (first | ((with_reducible refine gate_callee (f := 36) rfl ?_); refine goesL_ (some 14) rfl rfl Try.func36 (by kernel_rfl) rfl #[.string ((rd_T36 l0 x7_1).f0)] rfl aE ?_; (with_reducible refine (impl_GoodName.calls k1 ((rd_T36 l0 x7_1).f0) false _ A9.out).mono ?_); rintro e w' ⟨rfl, ⟨nd, rfl⟩⟩; refine ⟨_, rfl, ?_⟩))
        go_meet
        case rel => exact ⟨_, (true), tE, H', ⟨by have := HK1.out; first | omega | exact Nat.le_refl _⟩, ⟨by refine bU ?_; exact BK290.out⟩, ⟨by repeat (first | (with_reducible first | exact HB.out | apply below_alloc | apply pw_below_drewN | apply below_drew1 | refine below_set ?_ GE290.out) | exact HB.out)⟩⟩
      case rest =>
       clear HC5
       try clear c1
       try clear q1
       try clear hf1
       try clear c2
       try clear c2b0
       try clear p2
       try clear q2
       try clear hx2
       try clear hf2
       try clear c3
       try clear c3b0
       try clear q3
       try clear hf3
       try clear c4
       try clear c4b0
       try clear q4
       try clear hf4
       try clear q5
       try clear hf5
       try clear p6
       try clear c10
       try clear c12
       try clear hcz15_0
       try clear hcz15_1
       try clear hcz15_2
       try clear hcz15_3
       try clear hcz15_4
       try clear hcz15_5
       try clear hcz18_0
       try clear hcz18_1
       try clear hcz18_2
       try clear hcz18_3
       try clear hcz18_4
       try clear hcz18_5
       try clear hcz19_0
       try clear hcz19_1
       try clear hcz19_2
       try clear hcz19_3
       try clear hcz19_4
       try clear hcz19_5
       try clear hcz7_0
       try clear hcz7_1
       try clear hcz7_2
       try clear hcz7_3
       try clear hcz7_4
       try clear hcz7_5
       try clear hfz15_0
       try clear hfz15_1
       try clear hfz15_2
       try clear hfz15_3
       try clear hfz15_4
       try clear hfz15_5
       try clear hfz18_0
       try clear hfz18_1
       try clear hfz18_2
       try clear hfz18_3
       try clear hfz18_4
       try clear hfz18_5
       try clear hfz19_0
       try clear hfz19_1
       try clear hfz19_2
       try clear hfz19_3
       try clear hfz19_4
       try clear hfz19_5
       try clear hfz7_0
       try clear hfz7_1
       try clear hfz7_2
       try clear hfz7_3
       try clear hfz7_4
       try clear hfz7_5
       try clear hx289_0
       try clear hx289_1
       try clear hx289_2
       try clear hx289_3
       try clear hx289_4
       try clear hx289_5
       try clear p289
       try clear q289
       obtain ⟨kq, x29_4, rfl, HA, HJ4, BK290, HB⟩ := hcut
       cases kq with
       | zero => exact absurd HA.out (by simp [impl_GoodScene.j1])
       | succ kj4 =>
        have H := HA.out
        clear HA
        simp only [impl_GoodScene.j1] at H
        by_cases c20 : x29_4 = true
        ·subst c20
         have H1 : (some false) = some r := by rw [if_pos rfl] at H; exact H
         clear H
         have H := H1
         clear H1
         obtain rfl := Option.some.inj H
         go_wp2
         go_ret
         exact ⟨eE, lV1 GE290⟩
        ·replace c20 := Bool.eq_false_iff.mpr c20
         subst c20
         have H1 : (if 0 ≤ x7_1 then (if x7_1 ≤ (l0.length : Int) then ((slices_ContainsFunc_w38.f kj4 (l0.take (x7_1 : Int).toNat) ((rd_T36 l0 x7_1).f0) ((rd_T36 l0 x7_1).f1) ((rd_T36 l0 x7_1).f2) ((rd_T36 l0 x7_1).f3) ((rd_T36 l0 x7_1).f4) ((rd_T36 l0 x7_1).f5)).bind fun t302 => (if t302 = true then (some false) else (impl_GoodScene.l0 kj4 l0 l0 (l0.length : Int) (wrap64 (x7_1 + 1))))) else (none)) else (none)) = some r := by rw [if_neg (show ¬ (false = true) by decide)] at H; exact H
         clear H
         have H := H1
         clear H1
         by_cases c21 : 0 ≤ x7_1
         ·rw [if_pos c21] at H
          have c21b0 := eq_true c21
          have c21b1 : decide (0 ≤ x7_1) = true := decide_eq_true c21
          clear c21
          by_cases c22 : x7_1 ≤ (l0.length : Int)
          ·rw [if_pos c22] at H
           have c22b0 := eq_true c22
           have c22b1 : decide (x7_1 ≤ (l0.length : Int)) = true := decide_eq_true c22
           clear c22
           obtain ⟨y298, hy298⟩ : ∃ y_ : List (S36), y_ = (l0.take (x7_1 : Int).toNat) := ⟨_, rfl⟩
           replace H : ((slices_ContainsFunc_w38.f kj4 y298 ((rd_T36 l0 x7_1).f0) ((rd_T36 l0 x7_1).f1) ((rd_T36 l0 x7_1).f2) ((rd_T36 l0 x7_1).f3) ((rd_T36 l0 x7_1).f4) ((rd_T36 l0 x7_1).f5)).bind fun t302 => (if t302 = true then (some false) else (impl_GoodScene.l0 kj4 l0 l0 (l0.length : Int) (wrap64 (x7_1 + 1))))) = some r := by first | (rw [hy298]; with_reducible exact H) | (have H2_ := (Option.bind_some _ _).symm.trans H; rw [hy298]; with_reducible exact H2_) | (have H2_ := (Option.bind_some _ _).symm.trans H; with_reducible exact H2_) | with_reducible exact H | (rw [hy298]; exact H) | exact H
           have Ny298 := Aside0.mk hy298
           clear hy298
           replace H := Option.bind_eq_some_iff.mp H
           obtain ⟨t302, A230, H⟩ := H
           replace H : (if t302 = true then (some false) else (impl_GoodScene.l0 kj4 l0 l0 (l0.length : Int) (wrap64 (x7_1 + 1)))) = some r := H
           have A23 := Aside0.mk A230
           clear A230
           by_cases c24 : t302 = true
           ·subst c24
            have H1 : (some false) = some r := by rw [if_pos rfl] at H; exact H
            clear H
            have H := H1
            clear H1
            obtain rfl := Option.some.inj H
            have q25 : (x7_1 : Int) ≤ ((l0.length : Int) : Int) := of_decide_eq_true hE
            obtain ⟨i025, hi025, _, hsz25, _⟩ := info_parts info36
            have hroom25 : l0.length ≤ c0 := HC0.out
            have hC25 : Kd.C k36 _ (some ad289) l0.length l0 := HR0.out
            have hcut25 := cut_to (P := Try.prog) 29 36 .i64 Try.underlying29 hi025 (some ad289) l0.length c0 x7_1 (of_decide_eq_true hE) q25 hroom25
            have hr25 := Kd.C_take (m := (x7_1 : Int).toNat) hC25 (by omega)
            have hy25 : y298.length = (x7_1 : Int).toNat := (by rw [Ny298.out, List.length_take]; omega)
            rw [← Ny298.out] at hr25
            rw [← hy25] at hcut25
            have HR301 := Aside0.mk hr25
            have HC301 := Aside0.mk (show y298.length ≤ c0 from by omega)
            clear hr25 hC25 hroom25 hi025 hsz25
            have KY25 := Aside0.mk hy25
            clear hy25
            replace q25 := eq_true q25
            go_wp2_with (first | ((with_reducible refine gate_callee (f := 37) rfl ?_); refine goesL_ (some 34) rfl rfl Try.func37 (by kernel_rfl) rfl #[.slice (some ad289) y298.length c0, .func (.func 38) #[] #[.pointer (some ⟨gb290, 0, none⟩)]] rfl aE ?_; (with_reducible refine (slices_ContainsFunc_w38.calls kj4 _ _ y298 gb290 ((rd_T36 l0 x7_1).f0) ((rd_T36 l0 x7_1).f1) ((rd_T36 l0 x7_1).f2) ((rd_T36 l0 x7_1).f3) ((rd_T36 l0 x7_1).f4) ((rd_T36 l0 x7_1).f5) true _ ?side1 ?side2 ?side3 A23.out).mono ?_); (case side1 => exact cU (Kd.C_below HR301.out HB.out)); (case side2 => exact HC301.out); (case side3 => refine bU ?_; exact BK290.out); rintro e w26 ⟨rfl, hb⟩; refine ⟨_, rfl, ?_⟩; replace BK290 := bB (bV BK290) hb; replace HB := bH (lV1 GE290) hb; (try clear hb)))
            go_ret
            exact ⟨eE, lV1 GE290⟩
           ·replace c24 := Bool.eq_false_iff.mpr c24
            subst c24
            have H1 : (impl_GoodScene.l0 kj4 l0 l0 (l0.length : Int) (wrap64 (x7_1 + 1))) = some r := by rw [if_neg (show ¬ (false = true) by decide)] at H; exact H
            clear H
            have H := H1
            clear H1
            have H' := Aside0.mk H
            clear H
            have q27 : (x7_1 : Int) ≤ ((l0.length : Int) : Int) := of_decide_eq_true hE
            obtain ⟨i027, hi027, _, hsz27, _⟩ := info_parts info36
            have hroom27 : l0.length ≤ c0 := HC0.out
            have hC27 : Kd.C k36 _ (some ad289) l0.length l0 := HR0.out
            have hcut27 := cut_to (P := Try.prog) 29 36 .i64 Try.underlying29 hi027 (some ad289) l0.length c0 x7_1 (of_decide_eq_true hE) q27 hroom27
            have hr27 := Kd.C_take (m := (x7_1 : Int).toNat) hC27 (by omega)
            have hy27 : y298.length = (x7_1 : Int).toNat := (by rw [Ny298.out, List.length_take]; omega)
            rw [← Ny298.out] at hr27
            rw [← hy27] at hcut27
            have HR301 := Aside0.mk hr27
            have HC301 := Aside0.mk (show y298.length ≤ c0 from by omega)
            clear hr27 hC27 hroom27 hi027 hsz27
            have KY27 := Aside0.mk hy27
            clear hy27
            replace q27 := eq_true q27
            go_wp2_with (first | ((with_reducible refine gate_callee (f := 37) rfl ?_); refine goesL_ (some 34) rfl rfl Try.func37 (by kernel_rfl) rfl #[.slice (some ad289) y298.length c0, .func (.func 38) #[] #[.pointer (some ⟨gb290, 0, none⟩)]] rfl aE ?_; (with_reducible refine (slices_ContainsFunc_w38.calls kj4 _ _ y298 gb290 ((rd_T36 l0 x7_1).f0) ((rd_T36 l0 x7_1).f1) ((rd_T36 l0 x7_1).f2) ((rd_T36 l0 x7_1).f3) ((rd_T36 l0 x7_1).f4) ((rd_T36 l0 x7_1).f5) false _ ?side1 ?side2 ?side3 A23.out).mono ?_); (case side1 => exact cU (Kd.C_below HR301.out HB.out)); (case side2 => exact HC301.out); (case side3 => refine bU ?_; exact BK290.out); rintro e w28 ⟨rfl, hb⟩; refine ⟨_, rfl, ?_⟩; replace BK290 := bB (bV BK290) hb; replace HB := bH (lV1 GE290) hb; (try clear hb)))
            go_roundg kj4
            case measure => have := HK1.out; have := HJ4.out; omega
            case rel => exact ⟨(wrap64 (x7_1 + 1)), tE, H', ⟨by have := HK1.out; have := HJ4.out; omega⟩, ⟨by repeat (first | (with_reducible first | exact HB.out | apply below_alloc | apply pw_below_drewN | apply below_drew1 | refine below_set ?_ GE290.out) | exact HB.out)⟩⟩
          ·rw [if_neg c22] at H
           exact absurd H (by simp)
         ·rw [if_neg c21] at H
          exact absurd H (by simp)
     ·rw [if_neg c4] at H
      exact absurd H (by simp)
    ·rw [if_neg c3] at H
     exact absurd H (by simp)
   ·rw [if_neg c2] at H
    have c2b0 : decide (x7_1 < (l0.length : Int)) = false := decide_eq_false c2
    clear c2
    obtain rfl := Option.some.inj H
    go_wp2
    go_ret
    exact ⟨eE, lU⟩
def impl_isNode.f (k : Nat) (l0 : List (S36)) (a1 : Int) : Option (Bool) := (impl_GoodScene.f k l0).bind fun t303 => (if t303 = true then ((impl_inRange.f a1 0 (wrap64 ((l0.length : Int) - 1))).bind fun t304 => (some t304)) else (some false))
theorem impl_isNode.mono : ∀ a0 a1 k, LeO (impl_isNode.f k a0 a1) (impl_isNode.f (k + 1) a0 a1) := by
 intro a0 a1 k
 unfold impl_isNode.f
 repeat' first
   | (with_reducible exact impl_GoodScene.mono _ _)
   | (with_reducible first | exact LeO.refl _ | exact LeO.none _ | refine LeO.ite ?_ ?_ | refine LeO.bind ?_ (fun _ => ?_))
   | exact impl_GoodScene.mono _ _ | exact LeO.none _ | refine LeO.ite ?_ ?_ | refine LeO.bind ?_ (fun _ => ?_)
set_option maxHeartbeats 8000000 in
set_option maxRecDepth 100000 in
theorem impl_isNode.calls (k : Nat) (A0 : Option Addr) (c0 : Nat) (l0 : List (S36)) (a1 : Int) (r : Bool) (w : World) (hr0 : Kd.C k36 w A0 l0.length l0) (hc0 : l0.length ≤ c0) (h : impl_isNode.f k l0 a1 = some r) :
  Calls Try.prog 20 #[.slice A0 l0.length c0, .int .i64 a1] w fun e w' => e = .returned (.bool r) ∧ Below w.heap.size w w' := by
 have HR0 := Aside0.mk hr0
 have HC0 := Aside0.mk hc0
 clear hr0 hc0
 have HB := Aside0.mk (Below.refl w.heap.size w)
 have H : ((impl_GoodScene.f k l0).bind fun t303 => (if t303 = true then ((impl_inRange.f a1 0 (wrap64 ((l0.length : Int) - 1))).bind fun t304 => (some t304)) else (some false))) = some r := h
 clear h
 replace H := Option.bind_eq_some_iff.mp H
 obtain ⟨t303, A30, H⟩ := H
 replace H : (if t303 = true then ((impl_inRange.f a1 0 (wrap64 ((l0.length : Int) - 1))).bind fun t304 => (some t304)) else (some false)) = some r := H
 have A3 := Aside0.mk A30
 clear A30
 by_cases c4 : t303 = true
 ·subst c4
  have H1 : ((impl_inRange.f a1 0 (wrap64 ((l0.length : Int) - 1))).bind fun t304 => (some t304)) = some r := by rw [if_pos rfl] at H; exact H
  clear H
  have H := H1
  clear H1
  replace H := Option.bind_eq_some_iff.mp H
  obtain ⟨t304, A50, H⟩ := H
  replace H : (some t304) = some r := H
  have A5 := Aside0.mk A50
  clear A50
  obtain rfl := Option.some.inj H
  go_enter Try.func20, Try.ntmps20
  go_wp2_with (first | ((with_reducible refine gate_callee (f := 24) rfl ?_); refine goesL_ (some 6) rfl rfl Try.func24 (by kernel_rfl) rfl #[.slice A0 l0.length c0] rfl aE ?_; (with_reducible refine (impl_GoodScene.calls k _ _ l0 true _ ?side1 ?side2 A3.out).mono ?_); (case side1 => repeat (first | exact HR0.out | (with_reducible refine Kd.C_alloc ?_ _) | (with_reducible refine Kd.C_drewN ?_ _) | (with_reducible refine Kd.C_drew ?_))); (case side2 => exact HC0.out); rintro e w6 ⟨rfl, hb⟩; refine ⟨_, rfl, ?_⟩; replace HB := bH (lU) hb; (try clear hb)) | (go_at_call 21; (with_reducible refine (impl_inRange.calls a1 0 (wrap64 ((l0.length : Int) - 1)) t304 _ A5.out).mono ?_); rintro e w' ⟨rfl, ⟨nd, rfl⟩⟩))
  go_ret
  exact ⟨eE, lU⟩
 ·replace c4 := Bool.eq_false_iff.mpr c4
  subst c4
  have H1 : (some false) = some r := by rw [if_neg (show ¬ (false = true) by decide)] at H; exact H
  clear H
  have H := H1
  clear H1
  obtain rfl := Option.some.inj H
  go_enter Try.func20, Try.ntmps20
  go_wp2_with (first | ((with_reducible refine gate_callee (f := 24) rfl ?_); refine goesL_ (some 6) rfl rfl Try.func24 (by kernel_rfl) rfl #[.slice A0 l0.length c0] rfl aE ?_; (with_reducible refine (impl_GoodScene.calls k _ _ l0 false _ ?side1 ?side2 A3.out).mono ?_); (case side1 => repeat (first | exact HR0.out | (with_reducible refine Kd.C_alloc ?_ _) | (with_reducible refine Kd.C_drewN ?_ _) | (with_reducible refine Kd.C_drew ?_))); (case side2 => exact HC0.out); rintro e w7 ⟨rfl, hb⟩; refine ⟨_, rfl, ?_⟩; replace HB := bH (lU) hb; (try clear hb)))
  go_ret
  exact ⟨eE, lU⟩
def impl_spotOf.f : Nat → List (S36) → Int → Option (Int × Int × Int × Bool × Bool)
 | 0, _, _ => none
 | k + 1, l0, a1 => if 0 ≤ a1 then (if a1 < (l0.length : Int) then (if ((rd_T36 l0 a1).f1) < 0 then ((impl_Node_spot.f ((rd_T36 l0 a1).f0) ((rd_T36 l0 a1).f1) ((rd_T36 l0 a1).f2) ((rd_T36 l0 a1).f3) ((rd_T36 l0 a1).f4) ((rd_T36 l0 a1).f5)).bind fun bt308 => (some (bt308.1, bt308.2.1, bt308.2.2.1, bt308.2.2.2, true))) else ((impl_spotOf.f k l0 ((rd_T36 l0 a1).f1)).bind fun bt313 => (if bt313.2.2.2.2 = true then ((impl_Node_spot.f ((rd_T36 l0 a1).f0) ((rd_T36 l0 a1).f1) ((rd_T36 l0 a1).f2) ((rd_T36 l0 a1).f3) ((rd_T36 l0 a1).f4) ((rd_T36 l0 a1).f5)).bind fun bt320 => ((impl_JoinSpots.f k bt313.1 bt313.2.1 bt313.2.2.1 bt313.2.2.2.1 bt320.1 bt320.2.1 bt320.2.2.1 bt320.2.2.2).bind fun bt324 => (some (bt324.1, bt324.2.1, bt324.2.2.1, bt324.2.2.2.1, bt324.2.2.2.2)))) else (some (0, 0, 0, false, false))))) else (none)) else (none)
theorem impl_spotOf.mono_l : ∀ k, (∀ y0 y1, LeO (impl_spotOf.f k y0 y1) (impl_spotOf.f (k + 1) y0 y1))
 | 0 => fun _ _ r h => by simp [impl_spotOf.f] at h
 | k + 1 => by
  have ih0 := impl_spotOf.mono_l k
  ·intro y0 y1
   unfold impl_spotOf.f
   repeat' first
   | (with_reducible exact ih0 _ _)
   | (with_reducible exact impl_JoinSpots.mono _ _ _ _ _ _ _ _ _)
   | (with_reducible first | exact LeO.refl _ | exact LeO.none _ | refine LeO.ite ?_ ?_ | refine LeO.bind ?_ (fun _ => ?_))
   | exact ih0 _ _
   | exact impl_JoinSpots.mono _ _ _ _ _ _ _ _ _ | exact LeO.none _ | refine LeO.ite ?_ ?_ | refine LeO.bind ?_ (fun _ => ?_)
theorem impl_spotOf.mono : ∀ a0 a1 k, LeO (impl_spotOf.f k a0 a1) (impl_spotOf.f (k + 1) a0 a1) := by
 intro a0 a1 k
 have ih0 := impl_spotOf.mono_l k
 exact ih0 a0 a1
def impl_spotOf.T6 : Bool × List (List Nat × List Nat) := (true, [([], []), ([], []), ([], []), ([1, 2], [1, 2]), ([3], [3]), ([4], [4]), ([0, 5, 5], [0, 5]), ([6], [6]), ([6], [6]), ([7, 6, 0, 1, 2, 3, 4, 5, 6, 7, 8], [7]), ([8, 9, 0, 1, 2, 3, 4, 5, 6, 7, 8, 9], [8])])
def impl_spotOf.B6 : List Nat := [0, 0, 0, 6, 14, 30, 63, 127, 127, 511, 1023]
theorem impl_spotOf.tab6 : rtab .any (opsOf Try.f22 6) = impl_spotOf.T6 := by kernel_rfl
theorem impl_spotOf.bits6 : waitsOk impl_spotOf.T6.2 impl_spotOf.B6 = true := by kernel_rfl
set_option maxHeartbeats 8000000 in
set_option maxRecDepth 100000 in
theorem impl_spotOf.calls (k : Nat) : ∀ (A0 : Option Addr) (c0 : Nat) (l0 : List (S36)) (a1 : Int) (r1 : Int) (r2 : Int) (r3 : Int) (r4 : Bool) (r5 : Bool) (w : World) (hr0 : Kd.C k36 w A0 l0.length l0) (hc0 : l0.length ≤ c0) (h : impl_spotOf.f k l0 a1 = some (r1, r2, r3, r4, r5)),
  Calls Try.prog 22 #[.slice A0 l0.length c0, .int .i64 a1] w fun e w' => e = .returned (.tuple #[.agg #[.int .i64 r1, .int .i64 r2, .int .i64 r3, .bool r4], .bool r5]) ∧ Below w.heap.size w w' := by
 induction k using Nat.strongRecOn with
 | _ k ih =>
 intro A0 c0 l0 a1 r1 r2 r3 r4 r5 w hr0 hc0 h
 cases k with
 | zero => exact absurd h (by simp [impl_spotOf.f])
 | succ k =>
 simp only [impl_spotOf.f] at h
 have hu24 := Try.underlying24
 have hu36 := Try.underlying36
 have HR0 := Aside0.mk hr0
 have HC0 := Aside0.mk hc0
 clear hr0 hc0
 have HB := Aside0.mk (Below.refl w.heap.size w)
 have H : (if 0 ≤ a1 then (if a1 < (l0.length : Int) then (if ((rd_T36 l0 a1).f1) < 0 then ((impl_Node_spot.f ((rd_T36 l0 a1).f0) ((rd_T36 l0 a1).f1) ((rd_T36 l0 a1).f2) ((rd_T36 l0 a1).f3) ((rd_T36 l0 a1).f4) ((rd_T36 l0 a1).f5)).bind fun bt308 => (some (bt308.1, bt308.2.1, bt308.2.2.1, bt308.2.2.2, true))) else ((impl_spotOf.f k l0 ((rd_T36 l0 a1).f1)).bind fun bt313 => (if bt313.2.2.2.2 = true then ((impl_Node_spot.f ((rd_T36 l0 a1).f0) ((rd_T36 l0 a1).f1) ((rd_T36 l0 a1).f2) ((rd_T36 l0 a1).f3) ((rd_T36 l0 a1).f4) ((rd_T36 l0 a1).f5)).bind fun bt320 => ((impl_JoinSpots.f k bt313.1 bt313.2.1 bt313.2.2.1 bt313.2.2.2.1 bt320.1 bt320.2.1 bt320.2.2.1 bt320.2.2.2).bind fun bt324 => (some (bt324.1, bt324.2.1, bt324.2.2.1, bt324.2.2.2.1, bt324.2.2.2.2)))) else (some (0, 0, 0, false, false))))) else (none)) else (none)) = some (r1, r2, r3, r4, r5) := h
 clear h
 by_cases c3 : 0 ≤ a1
 ·rw [if_pos c3] at H
  have c3b0 : decide (0 ≤ a1) = true := decide_eq_true c3
  clear c3
  by_cases c4 : a1 < (l0.length : Int)
  ·rw [if_pos c4] at H
   have c4b0 : decide (a1 < (l0.length : Int)) = true := decide_eq_true c4
   clear c4
   by_cases c5 : ((rd_T36 l0 a1).f1) < 0
   ·rw [if_pos c5] at H
    have c5b0 : decide (((rd_T36 l0 a1).f1) < 0) = true := decide_eq_true c5
    clear c5
    replace H := Option.bind_eq_some_iff.mp H
    obtain ⟨⟨t308, t309, t310, t311⟩, A60, H⟩ := H
    replace H : (some (t308, t309, t310, t311, true)) = some (r1, r2, r3, r4, r5) := H
    have A6 := Aside0.mk A60
    clear A60
    simp only [Option.some.injEq, Prod.mk.injEq] at H
    obtain ⟨rfl, rfl, rfl, rfl, rfl⟩ := H
    go_enter Try.func22, Try.ntmps22
    go_wp2_with (first | ((with_reducible refine gate_dst (N := 4) rfl ?_); refine box_event rfl (N := 4) rfl (cs := #[.int .i64 0, .int .i64 0, .int .i64 0, .bool false]) (t := 24) sE ?_; intro gb305 hg w7 hbox hb; have BK305 := Aside0.mk hbox; have GW305 := gS w hg (lU); have GE305 := gS w hg (lU); replace HB := bH (lU) hb; clear hb hbox hg; have p306 : 0 ≤ (a1 : Int) := of_decide_eq_true hE; have q306 : a1 < (l0.length : Int) := of_decide_eq_true hE; obtain ⟨ad306, e306, hx306_0, hx306_1, hx306_2, hx306_3, hx306_4, hx306_5⟩ := at_T36 HR0.out a1 p306 q306; cases e306; replace hx306_0 := (HB.out.cell (World.block_lt_of_cell? w _ hx306_0)).trans hx306_0; replace hx306_1 := (HB.out.cell (World.block_lt_of_cell? w _ hx306_1)).trans hx306_1; replace hx306_2 := (HB.out.cell (World.block_lt_of_cell? w _ hx306_2)).trans hx306_2; replace hx306_3 := (HB.out.cell (World.block_lt_of_cell? w _ hx306_3)).trans hx306_3; replace hx306_4 := (HB.out.cell (World.block_lt_of_cell? w _ hx306_4)).trans hx306_4; replace hx306_5 := (HB.out.cell (World.block_lt_of_cell? w _ hx306_5)).trans hx306_5; replace p306 := eq_true p306; replace q306 := eq_true q306; have p307 : 0 ≤ (a1 : Int) := of_decide_eq_true hE; have q307 : a1 < (l0.length : Int) := of_decide_eq_true hE; obtain ⟨ad307, e307, hx307_0, hx307_1, hx307_2, hx307_3, hx307_4, hx307_5⟩ := at_T36 HR0.out a1 p307 q307; obtain rfl : ad306 = ad307 := (by injection e307); replace hx307_0 := (HB.out.cell (World.block_lt_of_cell? w _ hx307_0)).trans hx307_0; replace hx307_1 := (HB.out.cell (World.block_lt_of_cell? w _ hx307_1)).trans hx307_1; replace hx307_2 := (HB.out.cell (World.block_lt_of_cell? w _ hx307_2)).trans hx307_2; replace hx307_3 := (HB.out.cell (World.block_lt_of_cell? w _ hx307_3)).trans hx307_3; replace hx307_4 := (HB.out.cell (World.block_lt_of_cell? w _ hx307_4)).trans hx307_4; replace hx307_5 := (HB.out.cell (World.block_lt_of_cell? w _ hx307_5)).trans hx307_5; replace p307 := eq_true p307; replace q307 := eq_true q307) | ((with_reducible refine gate_callee (f := 35) rfl ?_); refine goesL_ (some 18) rfl rfl Try.func35 (by kernel_rfl) rfl #[.agg #[.string ((rd_T36 l0 a1).f0), .int .i64 ((rd_T36 l0 a1).f1), .int .i64 ((rd_T36 l0 a1).f2), .int .i64 ((rd_T36 l0 a1).f3), .int .i64 ((rd_T36 l0 a1).f4), .bool ((rd_T36 l0 a1).f5)]] rfl aE ?_; (with_reducible refine (impl_Node_spot.calls ((rd_T36 l0 a1).f0) ((rd_T36 l0 a1).f1) ((rd_T36 l0 a1).f2) ((rd_T36 l0 a1).f3) ((rd_T36 l0 a1).f4) ((rd_T36 l0 a1).f5) t308 t309 t310 t311 _ A6.out).mono ?_); rintro e w8 ⟨rfl, hb⟩; refine ⟨_, rfl, ?_⟩; replace BK305 := bB (bV BK305) hb; replace HB := bH (lV1 GE305) hb; (try clear hb); have hcz9_0 := cz BK305 0 (.int .i64 0); have hcz9_1 := cz BK305 1 (.int .i64 0); have hcz9_2 := cz BK305 2 (.int .i64 0); have hcz9_3 := cz BK305 3 (.bool false); have hfz9_0 := fz BK305 0; have hfz9_1 := fz BK305 1; have hfz9_2 := fz BK305 2; have hfz9_3 := fz BK305 3) | ((with_reducible refine gate_store (t := 24) (p := 4) rfl ?_); refine store_event (t := 24) (p := 4) (v := ?vo_w10) (w1 := ((((w8.setCell ⟨gb305, 0, none⟩ (.int .i64 t308)).setCell ⟨gb305, 1, none⟩ (.int .i64 t309)).setCell ⟨gb305, 2, none⟩ (.int .i64 t310)).setCell ⟨gb305, 3, none⟩ (.bool t311))) ?hg ?ho ?hn ?hr ?_; (case ho => rfl); (case hg => rfl); (case hn => rfl); (case hr => first | (go_simp; done) | (go_simp; rfl) | (have hq0_ := (blk_cell BK305.out 0).trans (show _ = some _ from rfl); have hf0_ := blk_frozen BK305.out 0; have hq1_ := (blk_cell BK305.out 1).trans (show _ = some _ from rfl); have hf1_ := blk_frozen BK305.out 1; have hq2_ := (blk_cell BK305.out 2).trans (show _ = some _ from rfl); have hf2_ := blk_frozen BK305.out 2; have hq3_ := (blk_cell BK305.out 3).trans (show _ = some _ from rfl); have hf3_ := blk_frozen BK305.out 3; first | (go_simp; done) | (go_simp; rfl))); intro w10 hw; replace BK305 : Aside0 (w10.heap[gb305]? = some (.cells #[.int .i64 t308, .int .i64 t309, .int .i64 t310, .bool t311] 24 (0, 0))) := ⟨(by rw [hw]; exact (by refine bU ?_; refine blk_put (cs := #[.int .i64 t308, .int .i64 t309, .int .i64 t310, .bool false]) ?_ 3 _ rfl; refine bU ?_; refine blk_put (cs := #[.int .i64 t308, .int .i64 t309, .int .i64 0, .bool false]) ?_ 2 _ rfl; refine bU ?_; refine blk_put (cs := #[.int .i64 t308, .int .i64 0, .int .i64 0, .bool false]) ?_ 1 _ rfl; refine bU ?_; refine blk_put (cs := #[.int .i64 0, .int .i64 0, .int .i64 0, .bool false]) ?_ 0 _ rfl; refine bU ?_; exact BK305.out))⟩; replace HB : Aside0 (Below w.heap.size w w10) := ⟨(by rw [hw]; exact (lV1 GE305))⟩; clear hw))
    refine bodyPost_ret (results_ct rfl _ _ gb305 24 #[.int .i64 t308, .int .i64 t309, .int .i64 t310, .bool t311] (0, 0) _ rfl (bV BK305) Try.underlying24 rfl (by kernel_rfl)) rfl ?_
    exact ⟨eE, lV1 GE305⟩
   ·rw [if_neg c5] at H
    have c5b0 : decide (((rd_T36 l0 a1).f1) < 0) = false := decide_eq_false c5
    clear c5
    replace H := Option.bind_eq_some_iff.mp H
    obtain ⟨⟨t313, t314, t315, t316, t317⟩, A110, H⟩ := H
    replace H : (if t317 = true then ((impl_Node_spot.f ((rd_T36 l0 a1).f0) ((rd_T36 l0 a1).f1) ((rd_T36 l0 a1).f2) ((rd_T36 l0 a1).f3) ((rd_T36 l0 a1).f4) ((rd_T36 l0 a1).f5)).bind fun bt320 => ((impl_JoinSpots.f k t313 t314 t315 t316 bt320.1 bt320.2.1 bt320.2.2.1 bt320.2.2.2).bind fun bt324 => (some (bt324.1, bt324.2.1, bt324.2.2.1, bt324.2.2.2.1, bt324.2.2.2.2)))) else (some (0, 0, 0, false, false))) = some (r1, r2, r3, r4, r5) := H
    have A11 := Aside0.mk A110
    clear A110
    by_cases c12 : t317 = true
    ·subst c12
     have H1 : ((impl_Node_spot.f ((rd_T36 l0 a1).f0) ((rd_T36 l0 a1).f1) ((rd_T36 l0 a1).f2) ((rd_T36 l0 a1).f3) ((rd_T36 l0 a1).f4) ((rd_T36 l0 a1).f5)).bind fun bt320 => ((impl_JoinSpots.f k t313 t314 t315 t316 bt320.1 bt320.2.1 bt320.2.2.1 bt320.2.2.2).bind fun bt324 => (some (bt324.1, bt324.2.1, bt324.2.2.1, bt324.2.2.2.1, bt324.2.2.2.2)))) = some (r1, r2, r3, r4, r5) := by rw [if_pos rfl] at H; exact H
     clear H
     have H := H1
     clear H1
     replace H := Option.bind_eq_some_iff.mp H
     obtain ⟨⟨t320, t321, t322, t323⟩, A130, H⟩ := H
     replace H : ((impl_JoinSpots.f k t313 t314 t315 t316 t320 t321 t322 t323).bind fun bt324 => (some (bt324.1, bt324.2.1, bt324.2.2.1, bt324.2.2.2.1, bt324.2.2.2.2))) = some (r1, r2, r3, r4, r5) := H
     have A13 := Aside0.mk A130
     clear A130
     replace H := Option.bind_eq_some_iff.mp H
     obtain ⟨⟨t324, t325, t326, t327, t328⟩, A140, H⟩ := H
     replace H : (some (t324, t325, t326, t327, t328)) = some (r1, r2, r3, r4, r5) := H
     have A14 := Aside0.mk A140
     clear A140
     simp only [Option.some.injEq, Prod.mk.injEq] at H
     obtain ⟨rfl, rfl, rfl, rfl, rfl⟩ := H
     go_enter Try.func22, Try.ntmps22
     try go_wp2_with (first | ((with_reducible refine gate_dst (N := 4) rfl ?_); refine box_event rfl (N := 4) rfl (cs := #[.int .i64 0, .int .i64 0, .int .i64 0, .bool false]) (t := 24) sE ?_; intro gb305 hg w15 hbox hb; have BK305 := Aside0.mk hbox; have GW305 := gS w hg (lU); have GE305 := gS w hg (lU); replace HB := bH (lU) hb; clear hb hbox hg; have p306 : 0 ≤ (a1 : Int) := of_decide_eq_true hE; have q306 : a1 < (l0.length : Int) := of_decide_eq_true hE; obtain ⟨ad306, e306, hx306_0, hx306_1, hx306_2, hx306_3, hx306_4, hx306_5⟩ := at_T36 HR0.out a1 p306 q306; cases e306; replace hx306_0 := (HB.out.cell (World.block_lt_of_cell? w _ hx306_0)).trans hx306_0; replace hx306_1 := (HB.out.cell (World.block_lt_of_cell? w _ hx306_1)).trans hx306_1; replace hx306_2 := (HB.out.cell (World.block_lt_of_cell? w _ hx306_2)).trans hx306_2; replace hx306_3 := (HB.out.cell (World.block_lt_of_cell? w _ hx306_3)).trans hx306_3; replace hx306_4 := (HB.out.cell (World.block_lt_of_cell? w _ hx306_4)).trans hx306_4; replace hx306_5 := (HB.out.cell (World.block_lt_of_cell? w _ hx306_5)).trans hx306_5; replace p306 := eq_true p306; replace q306 := eq_true q306; have p312 : 0 ≤ (a1 : Int) := of_decide_eq_true hE; have q312 : a1 < (l0.length : Int) := of_decide_eq_true hE; obtain ⟨ad312, e312, hx312_0, hx312_1, hx312_2, hx312_3, hx312_4, hx312_5⟩ := at_T36 HR0.out a1 p312 q312; obtain rfl : ad306 = ad312 := (by injection e312); replace hx312_0 := (HB.out.cell (World.block_lt_of_cell? w _ hx312_0)).trans hx312_0; replace hx312_1 := (HB.out.cell (World.block_lt_of_cell? w _ hx312_1)).trans hx312_1; replace hx312_2 := (HB.out.cell (World.block_lt_of_cell? w _ hx312_2)).trans hx312_2; replace hx312_3 := (HB.out.cell (World.block_lt_of_cell? w _ hx312_3)).trans hx312_3; replace hx312_4 := (HB.out.cell (World.block_lt_of_cell? w _ hx312_4)).trans hx312_4; replace hx312_5 := (HB.out.cell (World.block_lt_of_cell? w _ hx312_5)).trans hx312_5; replace p312 := eq_true p312; replace q312 := eq_true q312) | ((with_reducible refine gate_callee (f := 22) rfl ?_); refine goesL_ (some 26) rfl rfl Try.func22 (by kernel_rfl) rfl #[.slice (some ad306) l0.length c0, .int .i64 ((rd_T36 l0 a1).f1)] rfl aE ?_; (with_reducible refine (ih k (by omega) _ _ l0 ((rd_T36 l0 a1).f1) t313 t314 t315 t316 true _ ?side1 ?side2 A11.out).mono ?_); (case side1 => exact cU (Kd.C_below HR0.out HB.out)); (case side2 => exact HC0.out); rintro e w16 ⟨rfl, hb⟩; refine ⟨_, rfl, ?_⟩; replace BK305 := bB (bV BK305) hb; replace HB := bH (lV1 GE305) hb; (try clear hb)) | ((with_reducible refine gate_dst (N := 6) rfl ?_); refine box_event rfl (N := 6) rfl (cs := #[.int .i64 0, .int .i64 0, .int .i64 0, .bool false]) (t := 24) sE ?_; intro gb318 hg w17 hbox hb; have BK318 := Aside0.mk hbox; have GW318 := gS w hg (lV1 GE305); have GE318 := gS w hg (lV1 GE305); replace HB := bH (lV1 GE305) hb; have NB305_318 := nL hg (bV BK305); have NB318_305 := nG hg (bV BK305); replace BK305 := bB (bV BK305) hb; clear hb hbox hg; have hnb18 := NB318_305.out; have hnc18 := NB305_318.out; have hcz19_0 := cz BK318 0 (.int .i64 0); have hcz19_1 := cz BK318 1 (.int .i64 0); have hcz19_2 := cz BK318 2 (.int .i64 0); have hcz19_3 := cz BK318 3 (.bool false); have hfz19_0 := fz BK318 0; have hfz19_1 := fz BK318 1; have hfz19_2 := fz BK318 2; have hfz19_3 := fz BK318 3) | ((with_reducible refine gate_store (t := 24) (p := 6) rfl ?_); refine store_event (t := 24) (p := 6) (v := ?vo_w20) (w1 := ((((w17.setCell ⟨gb318, 0, none⟩ (.int .i64 t313)).setCell ⟨gb318, 1, none⟩ (.int .i64 t314)).setCell ⟨gb318, 2, none⟩ (.int .i64 t315)).setCell ⟨gb318, 3, none⟩ (.bool t316))) ?hg ?ho ?hn ?hr ?_; (case ho => rfl); (case hg => rfl); (case hn => rfl); (case hr => first | (go_simp; done) | (go_simp; rfl) | (have hq0_ := (blk_cell BK318.out 0).trans (show _ = some _ from rfl); have hf0_ := blk_frozen BK318.out 0; have hq1_ := (blk_cell BK318.out 1).trans (show _ = some _ from rfl); have hf1_ := blk_frozen BK318.out 1; have hq2_ := (blk_cell BK318.out 2).trans (show _ = some _ from rfl); have hf2_ := blk_frozen BK318.out 2; have hq3_ := (blk_cell BK318.out 3).trans (show _ = some _ from rfl); have hf3_ := blk_frozen BK318.out 3; first | (go_simp; done) | (go_simp; rfl))); intro w20 hw; replace BK305 : Aside0 (w20.heap[gb305]? = some (.cells #[.int .i64 0, .int .i64 0, .int .i64 0, .bool false] 24 (0, 0))) := ⟨(by rw [hw]; exact (bG NB305_318 BK305))⟩; replace BK318 : Aside0 (w20.heap[gb318]? = some (.cells #[.int .i64 t313, .int .i64 t314, .int .i64 t315, .bool t316] 24 (0, 0))) := ⟨(by rw [hw]; exact (by refine bU ?_; refine blk_put (cs := #[.int .i64 t313, .int .i64 t314, .int .i64 t315, .bool false]) ?_ 3 _ rfl; refine bU ?_; refine blk_put (cs := #[.int .i64 t313, .int .i64 t314, .int .i64 0, .bool false]) ?_ 2 _ rfl; refine bU ?_; refine blk_put (cs := #[.int .i64 t313, .int .i64 0, .int .i64 0, .bool false]) ?_ 1 _ rfl; refine bU ?_; refine blk_put (cs := #[.int .i64 0, .int .i64 0, .int .i64 0, .bool false]) ?_ 0 _ rfl; refine bU ?_; exact BK318.out))⟩; replace HB : Aside0 (Below w.heap.size w w20) := ⟨(by rw [hw]; exact (lV2 GE305 GE318))⟩; clear hw))
     replace BK305 := Aside0.mk (blk_drew BK305.out)
     replace BK318 := Aside0.mk (blk_drew BK318.out)
     replace HB := Aside0.mk (below_drew1 HB.out)
     have p319 : 0 ≤ (a1 : Int) := of_decide_eq_true hE
     have q319 : a1 < (l0.length : Int) := of_decide_eq_true hE
     obtain ⟨ad319, e319, hx319_0, hx319_1, hx319_2, hx319_3, hx319_4, hx319_5⟩ := at_T36 HR0.out a1 p319 q319
     have hw319_5 := hx319_5
     have hw319_4 := hx319_4
     have hw319_3 := hx319_3
     have hw319_2 := hx319_2
     have hw319_1 := hx319_1
     have hw319_0 := hx319_0
     obtain rfl : ad306 = ad319 := (by injection e319)
     replace hx319_0 := (HB.out.cell (World.block_lt_of_cell? w _ hx319_0)).trans hx319_0
     replace hx319_1 := (HB.out.cell (World.block_lt_of_cell? w _ hx319_1)).trans hx319_1
     replace hx319_2 := (HB.out.cell (World.block_lt_of_cell? w _ hx319_2)).trans hx319_2
     replace hx319_3 := (HB.out.cell (World.block_lt_of_cell? w _ hx319_3)).trans hx319_3
     replace hx319_4 := (HB.out.cell (World.block_lt_of_cell? w _ hx319_4)).trans hx319_4
     replace hx319_5 := (HB.out.cell (World.block_lt_of_cell? w _ hx319_5)).trans hx319_5
     replace p319 := eq_true p319
     replace q319 := eq_true q319
     refine start_ (n := 11) (S := fun w' => w'.cell? ⟨gb318, 0, none⟩ = some (.int .i64 t313) ∧ w'.cell? ⟨gb318, 1, none⟩ = some (.int .i64 t314) ∧ w'.cell? ⟨gb318, 2, none⟩ = some (.int .i64 t315) ∧ w'.cell? ⟨gb318, 3, none⟩ = some (.bool t316) ∧ w'.cell? (ad306.add ((a1).toNat * 6)) = some (.string ((rd_T36 l0 a1).f0)) ∧ w'.cell? ⟨(ad306.add ((a1).toNat * 6)).block, (ad306.add ((a1).toNat * 6)).off + 1, none⟩ = some (.int .i64 ((rd_T36 l0 a1).f1)) ∧ w'.cell? ⟨(ad306.add ((a1).toNat * 6)).block, (ad306.add ((a1).toNat * 6)).off + 2, none⟩ = some (.int .i64 ((rd_T36 l0 a1).f2)) ∧ w'.cell? ⟨(ad306.add ((a1).toNat * 6)).block, (ad306.add ((a1).toNat * 6)).off + 3, none⟩ = some (.int .i64 ((rd_T36 l0 a1).f3)) ∧ w'.cell? ⟨(ad306.add ((a1).toNat * 6)).block, (ad306.add ((a1).toNat * 6)).off + 4, none⟩ = some (.int .i64 ((rd_T36 l0 a1).f4)) ∧ w'.cell? ⟨(ad306.add ((a1).toNat * 6)).block, (ad306.add ((a1).toNat * 6)).off + 5, none⟩ = some (.bool ((rd_T36 l0 a1).f5))) (ds := []) #[false, false, false, false, false, false, false, false, false, false, false] (by kernel_rfl) rfl rfl ⟨cz BK318 0 _, cz BK318 1 _, cz BK318 2 _, cz BK318 3 _, ((HB.out.cell (World.block_lt_of_cell? w _ hw319_0)).trans hw319_0), ((HB.out.cell (World.block_lt_of_cell? w _ hw319_1)).trans hw319_1), ((HB.out.cell (World.block_lt_of_cell? w _ hw319_2)).trans hw319_2), ((HB.out.cell (World.block_lt_of_cell? w _ hw319_3)).trans hw319_3), ((HB.out.cell (World.block_lt_of_cell? w _ hw319_4)).trans hw319_4), ((HB.out.cell (World.block_lt_of_cell? w _ hw319_5)).trans hw319_5)⟩ (fun hHeld => ?_); refine with_tabW impl_spotOf.tab6 impl_spotOf.bits6 (fun HT_ HW_ => ?_)
     generalize w20.drew = w21 at BK305 BK318 HB hx319_0 hx319_1 hx319_2 hx319_3 hx319_4 hx319_5 hHeld ⊢
     refine pureA 1 33 (bz 11 2) rfl rfl (any_of HT_.out (by kernel_rfl)) ?_
     refine pureA 2 34 (bz 11 6) rfl rfl (any_of HT_.out (by kernel_rfl)) ?_
     refine pureA 3 35 (bz 11 14) rfl rfl (any_of HT_.out (by kernel_rfl)) ?_
     refine takeA 0 32 (bz 11 15) rfl rfl (take_ofW HT_.out HW_.out (by kernel_rfl)) hHeld (by rintro w' ⟨s0, s1, s2, s3, s4, s5, s6, s7, s8, s9⟩; go_simp; with_reducible rfl) ?_
     refine takeA 4 36 (bz 11 31) rfl rfl (take_ofW HT_.out HW_.out (by kernel_rfl)) hHeld (by rintro w' ⟨s0, s1, s2, s3, s4, s5, s6, s7, s8, s9⟩; go_simp; with_reducible rfl) ?_
     refine one_ (i := 5) (N := some 37) (bz 11 63) rfl rfl (one_of HT_.out (by kernel_rfl)) (by decide) (fun K hK => ?_)
     refine goes_ Try.func35 (by kernel_rfl) rfl #[.agg #[.string ((rd_T36 l0 a1).f0), .int .i64 ((rd_T36 l0 a1).f1), .int .i64 ((rd_T36 l0 a1).f2), .int .i64 ((rd_T36 l0 a1).f3), .int .i64 ((rd_T36 l0 a1).f4), .bool ((rd_T36 l0 a1).f5)]] (by rfl) rfl rfl aE ?_
     with_reducible refine (impl_Node_spot.calls ((rd_T36 l0 a1).f0) ((rd_T36 l0 a1).f1) ((rd_T36 l0 a1).f2) ((rd_T36 l0 a1).f3) ((rd_T36 l0 a1).f4) ((rd_T36 l0 a1).f5) t320 t321 t322 t323 _ A13.out).mono ?_
     rintro e w22 ⟨rfl, hb⟩
     refine ⟨_, rfl, ?_⟩
     replace BK305 := bB (bV BK305) hb
     replace BK318 := bB (bV BK318) hb
     replace HB := bH (lV2 GE305 GE318) hb
     (try clear hb)
     (try clear hb2)
     (try clear hk)
     (try clear hi)
     refine hK.out _ _ ⟨cz BK318 0 _, cz BK318 1 _, cz BK318 2 _, cz BK318 3 _, ((HB.out.cell (World.block_lt_of_cell? w _ hw319_0)).trans hw319_0), ((HB.out.cell (World.block_lt_of_cell? w _ hw319_1)).trans hw319_1), ((HB.out.cell (World.block_lt_of_cell? w _ hw319_2)).trans hw319_2), ((HB.out.cell (World.block_lt_of_cell? w _ hw319_3)).trans hw319_3), ((HB.out.cell (World.block_lt_of_cell? w _ hw319_4)).trans hw319_4), ((HB.out.cell (World.block_lt_of_cell? w _ hw319_5)).trans hw319_5)⟩ (fun hHeld => ?_)
     clear hK K
     refine norm_ (a' := ?_) ?_ ?_
     rotate_left
     ·show Act.put _ (some 37) _ = _
      simp only [Act.put, List.setIfInBounds_toArray, List.set_cons_zero, List.set_cons_succ, i64_w, i32_w]
      rfl
     refine one_ (i := 6) (N := some 38) (bz 11 127) rfl rfl (one_of HT_.out (by kernel_rfl)) (by decide) (fun K hK => ?_)
     refine goes_ Try.func7 (by kernel_rfl) rfl #[.agg #[.int .i64 t313, .int .i64 t314, .int .i64 t315, .bool t316], .agg #[.int .i64 t320, .int .i64 t321, .int .i64 t322, .bool t323]] (by rfl) rfl rfl aE ?_
     with_reducible refine (impl_JoinSpots.calls k t313 t314 t315 t316 t320 t321 t322 t323 t324 t325 t326 t327 t328 _ A14.out).mono ?_
     rintro e w23 ⟨rfl, hb⟩
     refine ⟨_, rfl, ?_⟩
     replace BK305 := bB (bV BK305) hb
     replace BK318 := bB (bV BK318) hb
     replace HB := bH (lV2 GE305 GE318) hb
     (try clear hb)
     (try clear hb2)
     (try clear hk)
     (try clear hi)
     refine hK.out _ _ ⟨cz BK318 0 _, cz BK318 1 _, cz BK318 2 _, cz BK318 3 _, ((HB.out.cell (World.block_lt_of_cell? w _ hw319_0)).trans hw319_0), ((HB.out.cell (World.block_lt_of_cell? w _ hw319_1)).trans hw319_1), ((HB.out.cell (World.block_lt_of_cell? w _ hw319_2)).trans hw319_2), ((HB.out.cell (World.block_lt_of_cell? w _ hw319_3)).trans hw319_3), ((HB.out.cell (World.block_lt_of_cell? w _ hw319_4)).trans hw319_4), ((HB.out.cell (World.block_lt_of_cell? w _ hw319_5)).trans hw319_5)⟩ (fun hHeld => ?_)
     clear hK K
     refine norm_ (a' := ?_) ?_ ?_
     rotate_left
     ·show Act.put _ (some 38) _ = _
      simp only [Act.put, List.setIfInBounds_toArray, List.set_cons_zero, List.set_cons_succ, i64_w, i32_w]
      rfl
     refine pureA 7 39 (bz 11 255) rfl rfl (any_of HT_.out (by kernel_rfl)) ?_
     refine pureA 8 40 (bz 11 511) rfl rfl (any_of HT_.out (by kernel_rfl)) ?_
     refine one_ (i := 9) (N := none) (bz 11 1023) rfl rfl (one_of HT_.out (by kernel_rfl)) (by decide) (fun K hK => ?_)
     have hs24 : w23.cell? ⟨gb305, 0, none⟩ = some (.int .i64 0) := (blk_cell BK305.out 0).trans rfl
     have hfs24 := blk_frozen BK305.out 0
     have hns24_1 := NB318_305.out
     have hms24_1 := NB305_318.out
     have hs25 : w23.cell? ⟨gb305, 1, none⟩ = some (.int .i64 0) := (blk_cell BK305.out 1).trans rfl
     have hfs25 := blk_frozen BK305.out 1
     have hns25_1 := NB318_305.out
     have hms25_1 := NB305_318.out
     have hs26 : w23.cell? ⟨gb305, 2, none⟩ = some (.int .i64 0) := (blk_cell BK305.out 2).trans rfl
     have hfs26 := blk_frozen BK305.out 2
     have hns26_1 := NB318_305.out
     have hms26_1 := NB305_318.out
     have hs27 : w23.cell? ⟨gb305, 3, none⟩ = some (.bool false) := (blk_cell BK305.out 3).trans rfl
     have hfs27 := blk_frozen BK305.out 3
     have hns27_1 := NB318_305.out
     have hms27_1 := NB305_318.out
     refine skip_ (w1 := ?_) (by rfl) rfl ?_ ?_
     rotate_left
     ·go_simp
      rfl
     refine hK.out _ _ ⟨((cell_far (p := ⟨gb305, _, none⟩) NB318_305.out _).trans (((cell_far (p := ⟨gb305, _, none⟩) NB318_305.out _).trans (((cell_far (p := ⟨gb305, _, none⟩) NB318_305.out _).trans (((cell_far (p := ⟨gb305, _, none⟩) NB318_305.out _).trans (hHeld.1)))))))), ((cell_far (p := ⟨gb305, _, none⟩) NB318_305.out _).trans (((cell_far (p := ⟨gb305, _, none⟩) NB318_305.out _).trans (((cell_far (p := ⟨gb305, _, none⟩) NB318_305.out _).trans (((cell_far (p := ⟨gb305, _, none⟩) NB318_305.out _).trans (hHeld.2.1)))))))), ((cell_far (p := ⟨gb305, _, none⟩) NB318_305.out _).trans (((cell_far (p := ⟨gb305, _, none⟩) NB318_305.out _).trans (((cell_far (p := ⟨gb305, _, none⟩) NB318_305.out _).trans (((cell_far (p := ⟨gb305, _, none⟩) NB318_305.out _).trans (hHeld.2.2.1)))))))), ((cell_far (p := ⟨gb305, _, none⟩) NB318_305.out _).trans (((cell_far (p := ⟨gb305, _, none⟩) NB318_305.out _).trans (((cell_far (p := ⟨gb305, _, none⟩) NB318_305.out _).trans (((cell_far (p := ⟨gb305, _, none⟩) NB318_305.out _).trans (hHeld.2.2.2.1)))))))), ((cell_far (p := ⟨gb305, _, none⟩) (by first | exact Nat.ne_of_lt (Nat.lt_of_lt_of_le (by have := World.block_lt_of_cell? _ _ hw319_0; first | rwa [add_block] at this | exact this) GW305.out) | (rw [add_block]; exact Nat.ne_of_lt (Nat.lt_of_lt_of_le (by have := World.block_lt_of_cell? _ _ hw319_0; first | rwa [add_block] at this | exact this) GW305.out)) | (show (Addr.add _ _).block ≠ _; rw [add_block]; exact Nat.ne_of_lt (Nat.lt_of_lt_of_le (by have := World.block_lt_of_cell? _ _ hw319_0; first | rwa [add_block] at this | exact this) GW305.out)) | (dsimp only; exact Nat.ne_of_lt (Nat.lt_of_lt_of_le (by have := World.block_lt_of_cell? _ _ hw319_0; first | rwa [add_block] at this | exact this) GW305.out))) _).trans (((cell_far (p := ⟨gb305, _, none⟩) (by first | exact Nat.ne_of_lt (Nat.lt_of_lt_of_le (by have := World.block_lt_of_cell? _ _ hw319_0; first | rwa [add_block] at this | exact this) GW305.out) | (rw [add_block]; exact Nat.ne_of_lt (Nat.lt_of_lt_of_le (by have := World.block_lt_of_cell? _ _ hw319_0; first | rwa [add_block] at this | exact this) GW305.out)) | (show (Addr.add _ _).block ≠ _; rw [add_block]; exact Nat.ne_of_lt (Nat.lt_of_lt_of_le (by have := World.block_lt_of_cell? _ _ hw319_0; first | rwa [add_block] at this | exact this) GW305.out)) | (dsimp only; exact Nat.ne_of_lt (Nat.lt_of_lt_of_le (by have := World.block_lt_of_cell? _ _ hw319_0; first | rwa [add_block] at this | exact this) GW305.out))) _).trans (((cell_far (p := ⟨gb305, _, none⟩) (by first | exact Nat.ne_of_lt (Nat.lt_of_lt_of_le (by have := World.block_lt_of_cell? _ _ hw319_0; first | rwa [add_block] at this | exact this) GW305.out) | (rw [add_block]; exact Nat.ne_of_lt (Nat.lt_of_lt_of_le (by have := World.block_lt_of_cell? _ _ hw319_0; first | rwa [add_block] at this | exact this) GW305.out)) | (show (Addr.add _ _).block ≠ _; rw [add_block]; exact Nat.ne_of_lt (Nat.lt_of_lt_of_le (by have := World.block_lt_of_cell? _ _ hw319_0; first | rwa [add_block] at this | exact this) GW305.out)) | (dsimp only; exact Nat.ne_of_lt (Nat.lt_of_lt_of_le (by have := World.block_lt_of_cell? _ _ hw319_0; first | rwa [add_block] at this | exact this) GW305.out))) _).trans (((cell_far (p := ⟨gb305, _, none⟩) (by first | exact Nat.ne_of_lt (Nat.lt_of_lt_of_le (by have := World.block_lt_of_cell? _ _ hw319_0; first | rwa [add_block] at this | exact this) GW305.out) | (rw [add_block]; exact Nat.ne_of_lt (Nat.lt_of_lt_of_le (by have := World.block_lt_of_cell? _ _ hw319_0; first | rwa [add_block] at this | exact this) GW305.out)) | (show (Addr.add _ _).block ≠ _; rw [add_block]; exact Nat.ne_of_lt (Nat.lt_of_lt_of_le (by have := World.block_lt_of_cell? _ _ hw319_0; first | rwa [add_block] at this | exact this) GW305.out)) | (dsimp only; exact Nat.ne_of_lt (Nat.lt_of_lt_of_le (by have := World.block_lt_of_cell? _ _ hw319_0; first | rwa [add_block] at this | exact this) GW305.out))) _).trans (hHeld.2.2.2.2.1)))))))), ((cell_far (p := ⟨gb305, _, none⟩) (by first | exact Nat.ne_of_lt (Nat.lt_of_lt_of_le (by have := World.block_lt_of_cell? _ _ hw319_1; first | rwa [add_block] at this | exact this) GW305.out) | (rw [add_block]; exact Nat.ne_of_lt (Nat.lt_of_lt_of_le (by have := World.block_lt_of_cell? _ _ hw319_1; first | rwa [add_block] at this | exact this) GW305.out)) | (show (Addr.add _ _).block ≠ _; rw [add_block]; exact Nat.ne_of_lt (Nat.lt_of_lt_of_le (by have := World.block_lt_of_cell? _ _ hw319_1; first | rwa [add_block] at this | exact this) GW305.out)) | (dsimp only; exact Nat.ne_of_lt (Nat.lt_of_lt_of_le (by have := World.block_lt_of_cell? _ _ hw319_1; first | rwa [add_block] at this | exact this) GW305.out))) _).trans (((cell_far (p := ⟨gb305, _, none⟩) (by first | exact Nat.ne_of_lt (Nat.lt_of_lt_of_le (by have := World.block_lt_of_cell? _ _ hw319_1; first | rwa [add_block] at this | exact this) GW305.out) | (rw [add_block]; exact Nat.ne_of_lt (Nat.lt_of_lt_of_le (by have := World.block_lt_of_cell? _ _ hw319_1; first | rwa [add_block] at this | exact this) GW305.out)) | (show (Addr.add _ _).block ≠ _; rw [add_block]; exact Nat.ne_of_lt (Nat.lt_of_lt_of_le (by have := World.block_lt_of_cell? _ _ hw319_1; first | rwa [add_block] at this | exact this) GW305.out)) | (dsimp only; exact Nat.ne_of_lt (Nat.lt_of_lt_of_le (by have := World.block_lt_of_cell? _ _ hw319_1; first | rwa [add_block] at this | exact this) GW305.out))) _).trans (((cell_far (p := ⟨gb305, _, none⟩) (by first | exact Nat.ne_of_lt (Nat.lt_of_lt_of_le (by have := World.block_lt_of_cell? _ _ hw319_1; first | rwa [add_block] at this | exact this) GW305.out) | (rw [add_block]; exact Nat.ne_of_lt (Nat.lt_of_lt_of_le (by have := World.block_lt_of_cell? _ _ hw319_1; first | rwa [add_block] at this | exact this) GW305.out)) | (show (Addr.add _ _).block ≠ _; rw [add_block]; exact Nat.ne_of_lt (Nat.lt_of_lt_of_le (by have := World.block_lt_of_cell? _ _ hw319_1; first | rwa [add_block] at this | exact this) GW305.out)) | (dsimp only; exact Nat.ne_of_lt (Nat.lt_of_lt_of_le (by have := World.block_lt_of_cell? _ _ hw319_1; first | rwa [add_block] at this | exact this) GW305.out))) _).trans (((cell_far (p := ⟨gb305, _, none⟩) (by first | exact Nat.ne_of_lt (Nat.lt_of_lt_of_le (by have := World.block_lt_of_cell? _ _ hw319_1; first | rwa [add_block] at this | exact this) GW305.out) | (rw [add_block]; exact Nat.ne_of_lt (Nat.lt_of_lt_of_le (by have := World.block_lt_of_cell? _ _ hw319_1; first | rwa [add_block] at this | exact this) GW305.out)) | (show (Addr.add _ _).block ≠ _; rw [add_block]; exact Nat.ne_of_lt (Nat.lt_of_lt_of_le (by have := World.block_lt_of_cell? _ _ hw319_1; first | rwa [add_block] at this | exact this) GW305.out)) | (dsimp only; exact Nat.ne_of_lt (Nat.lt_of_lt_of_le (by have := World.block_lt_of_cell? _ _ hw319_1; first | rwa [add_block] at this | exact this) GW305.out))) _).trans (hHeld.2.2.2.2.2.1)))))))), ((cell_far (p := ⟨gb305, _, none⟩) (by first | exact Nat.ne_of_lt (Nat.lt_of_lt_of_le (by have := World.block_lt_of_cell? _ _ hw319_2; first | rwa [add_block] at this | exact this) GW305.out) | (rw [add_block]; exact Nat.ne_of_lt (Nat.lt_of_lt_of_le (by have := World.block_lt_of_cell? _ _ hw319_2; first | rwa [add_block] at this | exact this) GW305.out)) | (show (Addr.add _ _).block ≠ _; rw [add_block]; exact Nat.ne_of_lt (Nat.lt_of_lt_of_le (by have := World.block_lt_of_cell? _ _ hw319_2; first | rwa [add_block] at this | exact this) GW305.out)) | (dsimp only; exact Nat.ne_of_lt (Nat.lt_of_lt_of_le (by have := World.block_lt_of_cell? _ _ hw319_2; first | rwa [add_block] at this | exact this) GW305.out))) _).trans (((cell_far (p := ⟨gb305, _, none⟩) (by first | exact Nat.ne_of_lt (Nat.lt_of_lt_of_le (by have := World.block_lt_of_cell? _ _ hw319_2; first | rwa [add_block] at this | exact this) GW305.out) | (rw [add_block]; exact Nat.ne_of_lt (Nat.lt_of_lt_of_le (by have := World.block_lt_of_cell? _ _ hw319_2; first | rwa [add_block] at this | exact this) GW305.out)) | (show (Addr.add _ _).block ≠ _; rw [add_block]; exact Nat.ne_of_lt (Nat.lt_of_lt_of_le (by have := World.block_lt_of_cell? _ _ hw319_2; first | rwa [add_block] at this | exact this) GW305.out)) | (dsimp only; exact Nat.ne_of_lt (Nat.lt_of_lt_of_le (by have := World.block_lt_of_cell? _ _ hw319_2; first | rwa [add_block] at this | exact this) GW305.out))) _).trans (((cell_far (p := ⟨gb305, _, none⟩) (by first | exact Nat.ne_of_lt (Nat.lt_of_lt_of_le (by have := World.block_lt_of_cell? _ _ hw319_2; first | rwa [add_block] at this | exact this) GW305.out) | (rw [add_block]; exact Nat.ne_of_lt (Nat.lt_of_lt_of_le (by have := World.block_lt_of_cell? _ _ hw319_2; first | rwa [add_block] at this | exact this) GW305.out)) | (show (Addr.add _ _).block ≠ _; rw [add_block]; exact Nat.ne_of_lt (Nat.lt_of_lt_of_le (by have := World.block_lt_of_cell? _ _ hw319_2; first | rwa [add_block] at this | exact this) GW305.out)) | (dsimp only; exact Nat.ne_of_lt (Nat.lt_of_lt_of_le (by have := World.block_lt_of_cell? _ _ hw319_2; first | rwa [add_block] at this | exact this) GW305.out))) _).trans (((cell_far (p := ⟨gb305, _, none⟩) (by first | exact Nat.ne_of_lt (Nat.lt_of_lt_of_le (by have := World.block_lt_of_cell? _ _ hw319_2; first | rwa [add_block] at this | exact this) GW305.out) | (rw [add_block]; exact Nat.ne_of_lt (Nat.lt_of_lt_of_le (by have := World.block_lt_of_cell? _ _ hw319_2; first | rwa [add_block] at this | exact this) GW305.out)) | (show (Addr.add _ _).block ≠ _; rw [add_block]; exact Nat.ne_of_lt (Nat.lt_of_lt_of_le (by have := World.block_lt_of_cell? _ _ hw319_2; first | rwa [add_block] at this | exact this) GW305.out)) | (dsimp only; exact Nat.ne_of_lt (Nat.lt_of_lt_of_le (by have := World.block_lt_of_cell? _ _ hw319_2; first | rwa [add_block] at this | exact this) GW305.out))) _).trans (hHeld.2.2.2.2.2.2.1)))))))), ((cell_far (p := ⟨gb305, _, none⟩) (by first | exact Nat.ne_of_lt (Nat.lt_of_lt_of_le (by have := World.block_lt_of_cell? _ _ hw319_3; first | rwa [add_block] at this | exact this) GW305.out) | (rw [add_block]; exact Nat.ne_of_lt (Nat.lt_of_lt_of_le (by have := World.block_lt_of_cell? _ _ hw319_3; first | rwa [add_block] at this | exact this) GW305.out)) | (show (Addr.add _ _).block ≠ _; rw [add_block]; exact Nat.ne_of_lt (Nat.lt_of_lt_of_le (by have := World.block_lt_of_cell? _ _ hw319_3; first | rwa [add_block] at this | exact this) GW305.out)) | (dsimp only; exact Nat.ne_of_lt (Nat.lt_of_lt_of_le (by have := World.block_lt_of_cell? _ _ hw319_3; first | rwa [add_block] at this | exact this) GW305.out))) _).trans (((cell_far (p := ⟨gb305, _, none⟩) (by first | exact Nat.ne_of_lt (Nat.lt_of_lt_of_le (by have := World.block_lt_of_cell? _ _ hw319_3; first | rwa [add_block] at this | exact this) GW305.out) | (rw [add_block]; exact Nat.ne_of_lt (Nat.lt_of_lt_of_le (by have := World.block_lt_of_cell? _ _ hw319_3; first | rwa [add_block] at this | exact this) GW305.out)) | (show (Addr.add _ _).block ≠ _; rw [add_block]; exact Nat.ne_of_lt (Nat.lt_of_lt_of_le (by have := World.block_lt_of_cell? _ _ hw319_3; first | rwa [add_block] at this | exact this) GW305.out)) | (dsimp only; exact Nat.ne_of_lt (Nat.lt_of_lt_of_le (by have := World.block_lt_of_cell? _ _ hw319_3; first | rwa [add_block] at this | exact this) GW305.out))) _).trans (((cell_far (p := ⟨gb305, _, none⟩) (by first | exact Nat.ne_of_lt (Nat.lt_of_lt_of_le (by have := World.block_lt_of_cell? _ _ hw319_3; first | rwa [add_block] at this | exact this) GW305.out) | (rw [add_block]; exact Nat.ne_of_lt (Nat.lt_of_lt_of_le (by have := World.block_lt_of_cell? _ _ hw319_3; first | rwa [add_block] at this | exact this) GW305.out)) | (show (Addr.add _ _).block ≠ _; rw [add_block]; exact Nat.ne_of_lt (Nat.lt_of_lt_of_le (by have := World.block_lt_of_cell? _ _ hw319_3; first | rwa [add_block] at this | exact this) GW305.out)) | (dsimp only; exact Nat.ne_of_lt (Nat.lt_of_lt_of_le (by have := World.block_lt_of_cell? _ _ hw319_3; first | rwa [add_block] at this | exact this) GW305.out))) _).trans (((cell_far (p := ⟨gb305, _, none⟩) (by first | exact Nat.ne_of_lt (Nat.lt_of_lt_of_le (by have := World.block_lt_of_cell? _ _ hw319_3; first | rwa [add_block] at this | exact this) GW305.out) | (rw [add_block]; exact Nat.ne_of_lt (Nat.lt_of_lt_of_le (by have := World.block_lt_of_cell? _ _ hw319_3; first | rwa [add_block] at this | exact this) GW305.out)) | (show (Addr.add _ _).block ≠ _; rw [add_block]; exact Nat.ne_of_lt (Nat.lt_of_lt_of_le (by have := World.block_lt_of_cell? _ _ hw319_3; first | rwa [add_block] at this | exact this) GW305.out)) | (dsimp only; exact Nat.ne_of_lt (Nat.lt_of_lt_of_le (by have := World.block_lt_of_cell? _ _ hw319_3; first | rwa [add_block] at this | exact this) GW305.out))) _).trans (hHeld.2.2.2.2.2.2.2.1)))))))), ((cell_far (p := ⟨gb305, _, none⟩) (by first | exact Nat.ne_of_lt (Nat.lt_of_lt_of_le (by have := World.block_lt_of_cell? _ _ hw319_4; first | rwa [add_block] at this | exact this) GW305.out) | (rw [add_block]; exact Nat.ne_of_lt (Nat.lt_of_lt_of_le (by have := World.block_lt_of_cell? _ _ hw319_4; first | rwa [add_block] at this | exact this) GW305.out)) | (show (Addr.add _ _).block ≠ _; rw [add_block]; exact Nat.ne_of_lt (Nat.lt_of_lt_of_le (by have := World.block_lt_of_cell? _ _ hw319_4; first | rwa [add_block] at this | exact this) GW305.out)) | (dsimp only; exact Nat.ne_of_lt (Nat.lt_of_lt_of_le (by have := World.block_lt_of_cell? _ _ hw319_4; first | rwa [add_block] at this | exact this) GW305.out))) _).trans (((cell_far (p := ⟨gb305, _, none⟩) (by first | exact Nat.ne_of_lt (Nat.lt_of_lt_of_le (by have := World.block_lt_of_cell? _ _ hw319_4; first | rwa [add_block] at this | exact this) GW305.out) | (rw [add_block]; exact Nat.ne_of_lt (Nat.lt_of_lt_of_le (by have := World.block_lt_of_cell? _ _ hw319_4; first | rwa [add_block] at this | exact this) GW305.out)) | (show (Addr.add _ _).block ≠ _; rw [add_block]; exact Nat.ne_of_lt (Nat.lt_of_lt_of_le (by have := World.block_lt_of_cell? _ _ hw319_4; first | rwa [add_block] at this | exact this) GW305.out)) | (dsimp only; exact Nat.ne_of_lt (Nat.lt_of_lt_of_le (by have := World.block_lt_of_cell? _ _ hw319_4; first | rwa [add_block] at this | exact this) GW305.out))) _).trans (((cell_far (p := ⟨gb305, _, none⟩) (by first | exact Nat.ne_of_lt (Nat.lt_of_lt_of_le (by have := World.block_lt_of_cell? _ _ hw319_4; first | rwa [add_block] at this | exact this) GW305.out) | (rw [add_block]; exact Nat.ne_of_lt (Nat.lt_of_lt_of_le (by have := World.block_lt_of_cell? _ _ hw319_4; first | rwa [add_block] at this | exact this) GW305.out)) | (show (Addr.add _ _).block ≠ _; rw [add_block]; exact Nat.ne_of_lt (Nat.lt_of_lt_of_le (by have := World.block_lt_of_cell? _ _ hw319_4; first | rwa [add_block] at this | exact this) GW305.out)) | (dsimp only; exact Nat.ne_of_lt (Nat.lt_of_lt_of_le (by have := World.block_lt_of_cell? _ _ hw319_4; first | rwa [add_block] at this | exact this) GW305.out))) _).trans (((cell_far (p := ⟨gb305, _, none⟩) (by first | exact Nat.ne_of_lt (Nat.lt_of_lt_of_le (by have := World.block_lt_of_cell? _ _ hw319_4; first | rwa [add_block] at this | exact this) GW305.out) | (rw [add_block]; exact Nat.ne_of_lt (Nat.lt_of_lt_of_le (by have := World.block_lt_of_cell? _ _ hw319_4; first | rwa [add_block] at this | exact this) GW305.out)) | (show (Addr.add _ _).block ≠ _; rw [add_block]; exact Nat.ne_of_lt (Nat.lt_of_lt_of_le (by have := World.block_lt_of_cell? _ _ hw319_4; first | rwa [add_block] at this | exact this) GW305.out)) | (dsimp only; exact Nat.ne_of_lt (Nat.lt_of_lt_of_le (by have := World.block_lt_of_cell? _ _ hw319_4; first | rwa [add_block] at this | exact this) GW305.out))) _).trans (hHeld.2.2.2.2.2.2.2.2.1)))))))), ((cell_far (p := ⟨gb305, _, none⟩) (by first | exact Nat.ne_of_lt (Nat.lt_of_lt_of_le (by have := World.block_lt_of_cell? _ _ hw319_5; first | rwa [add_block] at this | exact this) GW305.out) | (rw [add_block]; exact Nat.ne_of_lt (Nat.lt_of_lt_of_le (by have := World.block_lt_of_cell? _ _ hw319_5; first | rwa [add_block] at this | exact this) GW305.out)) | (show (Addr.add _ _).block ≠ _; rw [add_block]; exact Nat.ne_of_lt (Nat.lt_of_lt_of_le (by have := World.block_lt_of_cell? _ _ hw319_5; first | rwa [add_block] at this | exact this) GW305.out)) | (dsimp only; exact Nat.ne_of_lt (Nat.lt_of_lt_of_le (by have := World.block_lt_of_cell? _ _ hw319_5; first | rwa [add_block] at this | exact this) GW305.out))) _).trans (((cell_far (p := ⟨gb305, _, none⟩) (by first | exact Nat.ne_of_lt (Nat.lt_of_lt_of_le (by have := World.block_lt_of_cell? _ _ hw319_5; first | rwa [add_block] at this | exact this) GW305.out) | (rw [add_block]; exact Nat.ne_of_lt (Nat.lt_of_lt_of_le (by have := World.block_lt_of_cell? _ _ hw319_5; first | rwa [add_block] at this | exact this) GW305.out)) | (show (Addr.add _ _).block ≠ _; rw [add_block]; exact Nat.ne_of_lt (Nat.lt_of_lt_of_le (by have := World.block_lt_of_cell? _ _ hw319_5; first | rwa [add_block] at this | exact this) GW305.out)) | (dsimp only; exact Nat.ne_of_lt (Nat.lt_of_lt_of_le (by have := World.block_lt_of_cell? _ _ hw319_5; first | rwa [add_block] at this | exact this) GW305.out))) _).trans (((cell_far (p := ⟨gb305, _, none⟩) (by first | exact Nat.ne_of_lt (Nat.lt_of_lt_of_le (by have := World.block_lt_of_cell? _ _ hw319_5; first | rwa [add_block] at this | exact this) GW305.out) | (rw [add_block]; exact Nat.ne_of_lt (Nat.lt_of_lt_of_le (by have := World.block_lt_of_cell? _ _ hw319_5; first | rwa [add_block] at this | exact this) GW305.out)) | (show (Addr.add _ _).block ≠ _; rw [add_block]; exact Nat.ne_of_lt (Nat.lt_of_lt_of_le (by have := World.block_lt_of_cell? _ _ hw319_5; first | rwa [add_block] at this | exact this) GW305.out)) | (dsimp only; exact Nat.ne_of_lt (Nat.lt_of_lt_of_le (by have := World.block_lt_of_cell? _ _ hw319_5; first | rwa [add_block] at this | exact this) GW305.out))) _).trans (((cell_far (p := ⟨gb305, _, none⟩) (by first | exact Nat.ne_of_lt (Nat.lt_of_lt_of_le (by have := World.block_lt_of_cell? _ _ hw319_5; first | rwa [add_block] at this | exact this) GW305.out) | (rw [add_block]; exact Nat.ne_of_lt (Nat.lt_of_lt_of_le (by have := World.block_lt_of_cell? _ _ hw319_5; first | rwa [add_block] at this | exact this) GW305.out)) | (show (Addr.add _ _).block ≠ _; rw [add_block]; exact Nat.ne_of_lt (Nat.lt_of_lt_of_le (by have := World.block_lt_of_cell? _ _ hw319_5; first | rwa [add_block] at this | exact this) GW305.out)) | (dsimp only; exact Nat.ne_of_lt (Nat.lt_of_lt_of_le (by have := World.block_lt_of_cell? _ _ hw319_5; first | rwa [add_block] at this | exact this) GW305.out))) _).trans (hHeld.2.2.2.2.2.2.2.2.2))))))))⟩ (fun hHeld => ?_)
     clear hK K
     refine pureA 10 5 (bz 11 2047) rfl rfl (any_of HT_.out (by kernel_rfl)) ?_
     refine done_ (done_of HT_.out (by kernel_rfl)) ?_
     try go_wp2
     refine bodyPost_ret (results_ct rfl _ _ gb305 24 #[.int .i64 t324, .int .i64 t325, .int .i64 t326, .bool t327] (0, 0) _ rfl (by refine bU ?_; refine blk_put (cs := #[.int .i64 t324, .int .i64 t325, .int .i64 t326, .bool false]) ?_ 3 _ rfl; refine bU ?_; refine blk_put (cs := #[.int .i64 t324, .int .i64 t325, .int .i64 0, .bool false]) ?_ 2 _ rfl; refine bU ?_; refine blk_put (cs := #[.int .i64 t324, .int .i64 0, .int .i64 0, .bool false]) ?_ 1 _ rfl; refine bU ?_; refine blk_put (cs := #[.int .i64 0, .int .i64 0, .int .i64 0, .bool false]) ?_ 0 _ rfl; refine bU ?_; exact BK305.out) Try.underlying24 rfl (by kernel_rfl)) rfl ?_
     exact ⟨eE, lV2 GE305 GE318⟩
    ·replace c12 := Bool.eq_false_iff.mpr c12
     subst c12
     have H1 : (some (0, 0, 0, false, false)) = some (r1, r2, r3, r4, r5) := by rw [if_neg (show ¬ (false = true) by decide)] at H; exact H
     clear H
     have H := H1
     clear H1
     simp only [Option.some.injEq, Prod.mk.injEq] at H
     obtain ⟨rfl, rfl, rfl, rfl, rfl⟩ := H
     go_enter Try.func22, Try.ntmps22
     go_wp2_with (first | ((with_reducible refine gate_dst (N := 4) rfl ?_); refine box_event rfl (N := 4) rfl (cs := #[.int .i64 0, .int .i64 0, .int .i64 0, .bool false]) (t := 24) sE ?_; intro gb305 hg w28 hbox hb; have BK305 := Aside0.mk hbox; have GW305 := gS w hg (lU); have GE305 := gS w hg (lU); replace HB := bH (lU) hb; clear hb hbox hg; have p306 : 0 ≤ (a1 : Int) := of_decide_eq_true hE; have q306 : a1 < (l0.length : Int) := of_decide_eq_true hE; obtain ⟨ad306, e306, hx306_0, hx306_1, hx306_2, hx306_3, hx306_4, hx306_5⟩ := at_T36 HR0.out a1 p306 q306; cases e306; replace hx306_0 := (HB.out.cell (World.block_lt_of_cell? w _ hx306_0)).trans hx306_0; replace hx306_1 := (HB.out.cell (World.block_lt_of_cell? w _ hx306_1)).trans hx306_1; replace hx306_2 := (HB.out.cell (World.block_lt_of_cell? w _ hx306_2)).trans hx306_2; replace hx306_3 := (HB.out.cell (World.block_lt_of_cell? w _ hx306_3)).trans hx306_3; replace hx306_4 := (HB.out.cell (World.block_lt_of_cell? w _ hx306_4)).trans hx306_4; replace hx306_5 := (HB.out.cell (World.block_lt_of_cell? w _ hx306_5)).trans hx306_5; replace p306 := eq_true p306; replace q306 := eq_true q306; have p312 : 0 ≤ (a1 : Int) := of_decide_eq_true hE; have q312 : a1 < (l0.length : Int) := of_decide_eq_true hE; obtain ⟨ad312, e312, hx312_0, hx312_1, hx312_2, hx312_3, hx312_4, hx312_5⟩ := at_T36 HR0.out a1 p312 q312; obtain rfl : ad306 = ad312 := (by injection e312); replace hx312_0 := (HB.out.cell (World.block_lt_of_cell? w _ hx312_0)).trans hx312_0; replace hx312_1 := (HB.out.cell (World.block_lt_of_cell? w _ hx312_1)).trans hx312_1; replace hx312_2 := (HB.out.cell (World.block_lt_of_cell? w _ hx312_2)).trans hx312_2; replace hx312_3 := (HB.out.cell (World.block_lt_of_cell? w _ hx312_3)).trans hx312_3; replace hx312_4 := (HB.out.cell (World.block_lt_of_cell? w _ hx312_4)).trans hx312_4; replace hx312_5 := (HB.out.cell (World.block_lt_of_cell? w _ hx312_5)).trans hx312_5; replace p312 := eq_true p312; replace q312 := eq_true q312) | ((with_reducible refine gate_callee (f := 22) rfl ?_); refine goesL_ (some 26) rfl rfl Try.func22 (by kernel_rfl) rfl #[.slice (some ad306) l0.length c0, .int .i64 ((rd_T36 l0 a1).f1)] rfl aE ?_; (with_reducible refine (ih k (by omega) _ _ l0 ((rd_T36 l0 a1).f1) t313 t314 t315 t316 false _ ?side1 ?side2 A11.out).mono ?_); (case side1 => exact cU (Kd.C_below HR0.out HB.out)); (case side2 => exact HC0.out); rintro e w29 ⟨rfl, hb⟩; refine ⟨_, rfl, ?_⟩; replace BK305 := bB (bV BK305) hb; replace HB := bH (lV1 GE305) hb; (try clear hb)) | ((with_reducible refine gate_dst (N := 6) rfl ?_); refine box_event rfl (N := 6) rfl (cs := #[.int .i64 0, .int .i64 0, .int .i64 0, .bool false]) (t := 24) sE ?_; intro gb318 hg w30 hbox hb; have BK318 := Aside0.mk hbox; have GW318 := gS w hg (lV1 GE305); have GE318 := gS w hg (lV1 GE305); replace HB := bH (lV1 GE305) hb; have NB305_318 := nL hg (bV BK305); have NB318_305 := nG hg (bV BK305); replace BK305 := bB (bV BK305) hb; clear hb hbox hg; have hnb31 := NB318_305.out; have hnc31 := NB305_318.out; have hcz32_0 := cz BK318 0 (.int .i64 0); have hcz32_1 := cz BK318 1 (.int .i64 0); have hcz32_2 := cz BK318 2 (.int .i64 0); have hcz32_3 := cz BK318 3 (.bool false); have hfz32_0 := fz BK318 0; have hfz32_1 := fz BK318 1; have hfz32_2 := fz BK318 2; have hfz32_3 := fz BK318 3) | ((with_reducible refine gate_store (t := 24) (p := 6) rfl ?_); refine store_event (t := 24) (p := 6) (v := ?vo_w33) (w1 := ((((w30.setCell ⟨gb318, 0, none⟩ (.int .i64 t313)).setCell ⟨gb318, 1, none⟩ (.int .i64 t314)).setCell ⟨gb318, 2, none⟩ (.int .i64 t315)).setCell ⟨gb318, 3, none⟩ (.bool t316))) ?hg ?ho ?hn ?hr ?_; (case ho => rfl); (case hg => rfl); (case hn => rfl); (case hr => first | (go_simp; done) | (go_simp; rfl) | (have hq0_ := (blk_cell BK318.out 0).trans (show _ = some _ from rfl); have hf0_ := blk_frozen BK318.out 0; have hq1_ := (blk_cell BK318.out 1).trans (show _ = some _ from rfl); have hf1_ := blk_frozen BK318.out 1; have hq2_ := (blk_cell BK318.out 2).trans (show _ = some _ from rfl); have hf2_ := blk_frozen BK318.out 2; have hq3_ := (blk_cell BK318.out 3).trans (show _ = some _ from rfl); have hf3_ := blk_frozen BK318.out 3; first | (go_simp; done) | (go_simp; rfl))); intro w33 hw; replace BK305 : Aside0 (w33.heap[gb305]? = some (.cells #[.int .i64 0, .int .i64 0, .int .i64 0, .bool false] 24 (0, 0))) := ⟨(by rw [hw]; exact (bG NB305_318 BK305))⟩; replace BK318 : Aside0 (w33.heap[gb318]? = some (.cells #[.int .i64 t313, .int .i64 t314, .int .i64 t315, .bool t316] 24 (0, 0))) := ⟨(by rw [hw]; exact (by refine bU ?_; refine blk_put (cs := #[.int .i64 t313, .int .i64 t314, .int .i64 t315, .bool false]) ?_ 3 _ rfl; refine bU ?_; refine blk_put (cs := #[.int .i64 t313, .int .i64 t314, .int .i64 0, .bool false]) ?_ 2 _ rfl; refine bU ?_; refine blk_put (cs := #[.int .i64 t313, .int .i64 0, .int .i64 0, .bool false]) ?_ 1 _ rfl; refine bU ?_; refine blk_put (cs := #[.int .i64 0, .int .i64 0, .int .i64 0, .bool false]) ?_ 0 _ rfl; refine bU ?_; exact BK318.out))⟩; replace HB : Aside0 (Below w.heap.size w w33) := ⟨(by rw [hw]; exact (lV2 GE305 GE318))⟩; clear hw; have hcz34_0 := cz BK305 0 (.int .i64 0); have hcz34_1 := cz BK305 1 (.int .i64 0); have hcz34_2 := cz BK305 2 (.int .i64 0); have hcz34_3 := cz BK305 3 (.bool false); have hfz34_0 := fz BK305 0; have hfz34_1 := fz BK305 1; have hfz34_2 := fz BK305 2; have hfz34_3 := fz BK305 3) | ((with_reducible refine gate_store (t := 24) (p := 4) rfl ?_); refine store_event (t := 24) (p := 4) (v := ?vo_w35) (w1 := ((((w33.setCell ⟨gb305, 0, none⟩ (.int .i64 0)).setCell ⟨gb305, 1, none⟩ (.int .i64 0)).setCell ⟨gb305, 2, none⟩ (.int .i64 0)).setCell ⟨gb305, 3, none⟩ (.bool false))) ?hg ?ho ?hn ?hr ?_; (case ho => rfl); (case hg => rfl); (case hn => rfl); (case hr => first | (go_simp; done) | (go_simp; rfl) | (have hq0_ := (blk_cell BK305.out 0).trans (show _ = some _ from rfl); have hf0_ := blk_frozen BK305.out 0; have hq1_ := (blk_cell BK305.out 1).trans (show _ = some _ from rfl); have hf1_ := blk_frozen BK305.out 1; have hq2_ := (blk_cell BK305.out 2).trans (show _ = some _ from rfl); have hf2_ := blk_frozen BK305.out 2; have hq3_ := (blk_cell BK305.out 3).trans (show _ = some _ from rfl); have hf3_ := blk_frozen BK305.out 3; first | (go_simp; done) | (go_simp; rfl))); intro w35 hw; replace BK305 : Aside0 (w35.heap[gb305]? = some (.cells #[.int .i64 0, .int .i64 0, .int .i64 0, .bool false] 24 (0, 0))) := ⟨(by rw [hw]; exact (by refine bU ?_; refine blk_put (cs := #[.int .i64 0, .int .i64 0, .int .i64 0, .bool false]) ?_ 3 _ rfl; refine bU ?_; refine blk_put (cs := #[.int .i64 0, .int .i64 0, .int .i64 0, .bool false]) ?_ 2 _ rfl; refine bU ?_; refine blk_put (cs := #[.int .i64 0, .int .i64 0, .int .i64 0, .bool false]) ?_ 1 _ rfl; refine bU ?_; refine blk_put (cs := #[.int .i64 0, .int .i64 0, .int .i64 0, .bool false]) ?_ 0 _ rfl; refine bU ?_; exact BK305.out))⟩; replace BK318 : Aside0 (w35.heap[gb318]? = some (.cells #[.int .i64 t313, .int .i64 t314, .int .i64 t315, .bool t316] 24 (0, 0))) := ⟨(by rw [hw]; exact (bG NB318_305 BK318))⟩; replace HB : Aside0 (Below w.heap.size w w35) := ⟨(by rw [hw]; exact (lV2 GE305 GE318))⟩; clear hw))
     refine bodyPost_ret (results_ct rfl _ _ gb305 24 #[.int .i64 0, .int .i64 0, .int .i64 0, .bool false] (0, 0) _ rfl (bV BK305) Try.underlying24 rfl (by kernel_rfl)) rfl ?_
     exact ⟨eE, lV2 GE305 GE318⟩
  ·rw [if_neg c4] at H
   exact absurd H (by simp)
 ·rw [if_neg c3] at H
  exact absurd H (by simp)
def impl_Node_23.f (l0 : List (S36)) : Option (List (S36)) := if l0.length < 2513169434916 then (some l0) else (none)
set_option maxHeartbeats 8000000 in
set_option maxRecDepth 100000 in
theorem impl_Node_23.calls (A0 : Option Addr) (c0 : Nat) (l0 : List (S36)) (r : List (S36)) (w : World) (hr0 : Kd.C k36 w A0 l0.length l0) (hc0 : l0.length ≤ c0) (h : impl_Node_23.f l0 = some r) :
  Calls Try.prog 23 #[.slice A0 l0.length c0] w fun e w' => ∃ v0_ : Value, e = .returned (v0_) ∧ Kd.R k36 36 w' w.heap.size (fun _ => True) v0_ r ∧ Below w.heap.size w w' := by
 have hl : l0.length < 2513169434916 ∧ l0 = r := by
  unfold impl_Node_23.f at h
  split at h
  ·exact ⟨by assumption, Option.some.inj h⟩
  ·cases h
 clear h
 obtain ⟨hl, rfl⟩ := hl
 have HL := Aside0.mk hl
 have HR0 := Aside0.mk hr0
 clear hr0 hl
 have HT := Try.underlying29
 have u0 : ∀ w, Sem.run Try.prog (underlying 29) w = .ok (TypeDesc.slice 36) w := run_underlying HT
 have q0 : ∀ (w : World) (a : Option Addr) (n c n' c' : Nat), (binOp .eql 29 (.slice a n c) (.slice none n' c')).run Try.prog w = .ok (.bool a.isNone) w := fun w a n c n' c' => Lib.run_eql_slice_nil w _ _ a n c n' c' HT
 cases A0 with
 | none =>
  obtain rfl : l0 = [] := by
   rcases Nat.eq_zero_or_pos l0.length with h0 | h0
   ·exact List.eq_nil_of_length_eq_zero h0
   ·obtain ⟨ad, h1, _⟩ := HR0.out.2.2 h0
    cases h1
  go_enter Try.func23, Try.ntmps23
  go_wp2
  go_ret
  exact ⟨_, rfl, Kd.R_nil _ _ _ _ _, Below.refl _ _⟩
 | some ad =>
  go_enter Try.func23, Try.ntmps23
  go_wp2_with (first | ((with_reducible refine gate_builtin (b := .append) (xs := #[.tmp 5, .tmp 6]) rfl ?_); at_builtin; refine Kd.R_append_rows k36 (w0 := w) w.heap.size rfl (.tmp 5) (.tmp 6) 29 36 (.agg #[(.string ⟨#[]⟩), (.int .i64 0), (.int .i64 0), (.int .i64 0), (.int .i64 0), (.bool false)]) 56 rfl Try.underlying29 info36 rfl (by decide) (by omega) (.slice (some ⟨w.heap.size, 0, none⟩) 0 0) [] l0 (some ad) l0.length c0 (fun _ => True) (fun _ => False) rfl rfl ?aO ?aR (fun _ _ h => h) (fun _ h => h.elim) ?aF ?aB ?aS ?aL ?_; (case aR => exact Kd.C_below HR0.out (below_alloc (Below.refl _ _) _)); (case aB => exact below_alloc (Below.refl _ _) _); (case aF => exact fun _ _ => trivial); (case aO => exact ⟨fun _ _ => trivial, [], World.ownsRow_made w #[] 0 (Nat.le_refl _) (Nat.zero_le _) rfl, ⟨rfl, fun j p hj => by simp at hj⟩⟩); (case aS => simp); (case aL => have := HL.out; simp only [List.length_nil, Nat.zero_add]; omega); intro v1 w1 ho hb hg hat; rw [List.nil_append] at ho; have HO := Aside0.mk ho; have HB := Aside0.mk hb; clear ho hb hg hat))
  go_ret
  exact ⟨_, rfl, HO.out, HB.out⟩
end Go.Proofs.Ytmmgmbmjlbdpnaa.PFnPlaced
namespace Go.Proofs.Ytmmgmbmjlbdpnaa.PFnPlaced
open Go.RowKit Go.Proofs.YtmmgmbmjlbdpnaaW.PrintWords Go.Proofs.YtmmgmbmjlbdpnaaW.PrintLast Go.Proofs.YtmmgmbmjlbdpnaaW.PrintMore
attribute [local go_sem] max2_int min2_int max_two min_two max_three min_three max_four min_four   -- for this text's walks alone
set_option linter.unusedVariables false
set_option linter.unusedSimpArgs false
mutual
def impl_Hang.j0 : Nat → List (S36) → Int → Int → Bool → Option ((List (S36)) × Bool)
 | 0, _, _, _, _ => none
 | k + 1, x0, x1, x2, x25 => if x25 = true then (some (([] : List (S36)), false)) else ((impl_spotOf.f k x0 x1).bind fun bt331 => (if x2 ≥ 0 then (impl_Hang.j1 k x0 x1 x2 bt331.2.2.2.2 bt331.2.2.2.2 bt331.1 bt331.2.1 bt331.2.2.1 bt331.2.2.2.1) else (impl_Hang.j1 k x0 x1 x2 bt331.2.2.2.2 false bt331.1 bt331.2.1 bt331.2.2.1 bt331.2.2.2.1)))
def impl_Hang.j1 : Nat → List (S36) → Int → Int → Bool → Bool → Int → Int → Int → Bool → Option ((List (S36)) × Bool)
 | 0, _, _, _, _, _, _, _, _, _ => none
 | k + 1, x0, x1, x2, x9, x36, x337000, x337001, x337002, x337003 => if x36 = true then ((impl_spotOf.f k x0 x2).bind fun bt337 => ((impl_BackSpot.f k bt337.1 bt337.2.1 bt337.2.2.1 bt337.2.2.2.1).bind fun bt343 => ((impl_JoinSpots.f k bt343.1 bt343.2.1 bt343.2.2.1 bt343.2.2.2.1 x337000 x337001 x337002 x337003).bind fun bt349 => (if bt349.2.2.2.2 = true then (impl_Hang.j2 k x0 x1 x2 bt337.2.2.2.2 bt349.1 bt349.2.1 bt349.2.2.1 bt349.2.2.2.1) else (impl_Hang.j2 k x0 x1 x2 false bt349.1 bt349.2.1 bt349.2.2.1 bt349.2.2.2.1))))) else (impl_Hang.j2 k x0 x1 x2 x9 x337000 x337001 x337002 x337003)
def impl_Hang.j2 : Nat → List (S36) → Int → Int → Bool → Int → Int → Int → Bool → Option ((List (S36)) × Bool)
 | 0, _, _, _, _, _, _, _, _ => none
 | k + 1, x0, x1, x2, x9, x337000, x337001, x337002, x337003 => (impl_Node_23.f x0).bind fun t354 => (if 0 ≤ x1 then (if x1 < (x0.length : Int) then (if x1 < (t354.length : Int) then ((some (t354.set (x1 : Int).toNat (⟨(rd_T36 x0 x1).f0, x2, x337000, x337001, x337002, x337003⟩ : S36) : List (S36))).bind fun y358 => (if x9 = true then ((impl_GoodScene.f k y358).bind fun t359 => (if t359 = true then (some (y358, true)) else (some (([] : List (S36)), false)))) else (some (([] : List (S36)), false)))) else (none)) else (none)) else (none))
end
def impl_Hang.f (k : Nat) (l0 : List (S36)) (a1 : Int) (a2 : Int) : Option ((List (S36)) × Bool) := (impl_isNode.f k l0 a1).bind fun t329 => (if t329 = true then ((impl_inRange.f a2 (-1) (wrap64 (a1 - 1))).bind fun t330 => (impl_Hang.j0 k l0 a1 a2 (!t330))) else (impl_Hang.j0 k l0 a1 a2 true))
theorem impl_Hang.mono_l : ∀ k, (∀ y0 y1 y2 y3, LeO (impl_Hang.j0 k y0 y1 y2 y3) (impl_Hang.j0 (k + 1) y0 y1 y2 y3)) ∧ (∀ y0 y1 y2 y3 y4 y5 y6 y7 y8, LeO (impl_Hang.j1 k y0 y1 y2 y3 y4 y5 y6 y7 y8) (impl_Hang.j1 (k + 1) y0 y1 y2 y3 y4 y5 y6 y7 y8)) ∧ (∀ y0 y1 y2 y3 y4 y5 y6 y7, LeO (impl_Hang.j2 k y0 y1 y2 y3 y4 y5 y6 y7) (impl_Hang.j2 (k + 1) y0 y1 y2 y3 y4 y5 y6 y7))
 | 0 => ⟨fun _ _ _ _ r h => by simp [impl_Hang.j0] at h, fun _ _ _ _ _ _ _ _ _ r h => by simp [impl_Hang.j1] at h, fun _ _ _ _ _ _ _ _ r h => by simp [impl_Hang.j2] at h⟩
 | k + 1 => by
  obtain ⟨ih0, ih1, ih2⟩ := impl_Hang.mono_l k
  refine ⟨?_, ?_, ?_⟩
  ·intro y0 y1 y2 y3
   unfold impl_Hang.j0
   repeat' first
   | (with_reducible exact ih0 _ _ _ _)
   | (with_reducible exact ih1 _ _ _ _ _ _ _ _ _)
   | (with_reducible exact ih2 _ _ _ _ _ _ _ _)
   | (with_reducible exact impl_BackSpot.mono _ _ _ _ _)
   | (with_reducible exact impl_GoodScene.mono _ _)
   | (with_reducible exact impl_JoinSpots.mono _ _ _ _ _ _ _ _ _)
   | (with_reducible exact impl_isNode.mono _ _ _)
   | (with_reducible exact impl_spotOf.mono _ _ _)
   | (with_reducible first | exact LeO.refl _ | exact LeO.none _ | refine LeO.ite ?_ ?_ | refine LeO.bind ?_ (fun _ => ?_))
   | exact ih0 _ _ _ _
   | exact ih1 _ _ _ _ _ _ _ _ _
   | exact ih2 _ _ _ _ _ _ _ _
   | exact impl_BackSpot.mono _ _ _ _ _
   | exact impl_GoodScene.mono _ _
   | exact impl_JoinSpots.mono _ _ _ _ _ _ _ _ _
   | exact impl_isNode.mono _ _ _
   | exact impl_spotOf.mono _ _ _ | exact LeO.none _ | refine LeO.ite ?_ ?_ | refine LeO.bind ?_ (fun _ => ?_)
  ·intro y0 y1 y2 y3 y4 y5 y6 y7 y8
   unfold impl_Hang.j1
   repeat' first
   | (with_reducible exact ih0 _ _ _ _)
   | (with_reducible exact ih1 _ _ _ _ _ _ _ _ _)
   | (with_reducible exact ih2 _ _ _ _ _ _ _ _)
   | (with_reducible exact impl_BackSpot.mono _ _ _ _ _)
   | (with_reducible exact impl_GoodScene.mono _ _)
   | (with_reducible exact impl_JoinSpots.mono _ _ _ _ _ _ _ _ _)
   | (with_reducible exact impl_isNode.mono _ _ _)
   | (with_reducible exact impl_spotOf.mono _ _ _)
   | (with_reducible first | exact LeO.refl _ | exact LeO.none _ | refine LeO.ite ?_ ?_ | refine LeO.bind ?_ (fun _ => ?_))
   | exact ih0 _ _ _ _
   | exact ih1 _ _ _ _ _ _ _ _ _
   | exact ih2 _ _ _ _ _ _ _ _
   | exact impl_BackSpot.mono _ _ _ _ _
   | exact impl_GoodScene.mono _ _
   | exact impl_JoinSpots.mono _ _ _ _ _ _ _ _ _
   | exact impl_isNode.mono _ _ _
   | exact impl_spotOf.mono _ _ _ | exact LeO.none _ | refine LeO.ite ?_ ?_ | refine LeO.bind ?_ (fun _ => ?_)
  ·intro y0 y1 y2 y3 y4 y5 y6 y7
   unfold impl_Hang.j2
   repeat' first
   | (with_reducible exact ih0 _ _ _ _)
   | (with_reducible exact ih1 _ _ _ _ _ _ _ _ _)
   | (with_reducible exact ih2 _ _ _ _ _ _ _ _)
   | (with_reducible exact impl_BackSpot.mono _ _ _ _ _)
   | (with_reducible exact impl_GoodScene.mono _ _)
   | (with_reducible exact impl_JoinSpots.mono _ _ _ _ _ _ _ _ _)
   | (with_reducible exact impl_isNode.mono _ _ _)
   | (with_reducible exact impl_spotOf.mono _ _ _)
   | (with_reducible first | exact LeO.refl _ | exact LeO.none _ | refine LeO.ite ?_ ?_ | refine LeO.bind ?_ (fun _ => ?_))
   | exact ih0 _ _ _ _
   | exact ih1 _ _ _ _ _ _ _ _ _
   | exact ih2 _ _ _ _ _ _ _ _
   | exact impl_BackSpot.mono _ _ _ _ _
   | exact impl_GoodScene.mono _ _
   | exact impl_JoinSpots.mono _ _ _ _ _ _ _ _ _
   | exact impl_isNode.mono _ _ _
   | exact impl_spotOf.mono _ _ _ | exact LeO.none _ | refine LeO.ite ?_ ?_ | refine LeO.bind ?_ (fun _ => ?_)
theorem impl_Hang.mono : ∀ a0 a1 a2 k, LeO (impl_Hang.f k a0 a1 a2) (impl_Hang.f (k + 1) a0 a1 a2) := by
 intro a0 a1 a2 k
 obtain ⟨ih0, ih1, ih2⟩ := impl_Hang.mono_l k
 unfold impl_Hang.f
 repeat' first
   | (with_reducible exact ih0 _ _ _ _)
   | (with_reducible exact ih1 _ _ _ _ _ _ _ _ _)
   | (with_reducible exact ih2 _ _ _ _ _ _ _ _)
   | (with_reducible exact impl_BackSpot.mono _ _ _ _ _)
   | (with_reducible exact impl_GoodScene.mono _ _)
   | (with_reducible exact impl_JoinSpots.mono _ _ _ _ _ _ _ _ _)
   | (with_reducible exact impl_isNode.mono _ _ _)
   | (with_reducible exact impl_spotOf.mono _ _ _)
   | (with_reducible first | exact LeO.refl _ | exact LeO.none _ | refine LeO.ite ?_ ?_ | refine LeO.bind ?_ (fun _ => ?_))
   | exact ih0 _ _ _ _
   | exact ih1 _ _ _ _ _ _ _ _ _
   | exact ih2 _ _ _ _ _ _ _ _
   | exact impl_BackSpot.mono _ _ _ _ _
   | exact impl_GoodScene.mono _ _
   | exact impl_JoinSpots.mono _ _ _ _ _ _ _ _ _
   | exact impl_isNode.mono _ _ _
   | exact impl_spotOf.mono _ _ _ | exact LeO.none _ | refine LeO.ite ?_ ?_ | refine LeO.bind ?_ (fun _ => ?_)
def impl_Hang.T10 : Bool × List (List Nat × List Nat) := (true, [([], []), ([], []), ([], []), ([], []), ([2, 3], [2, 3]), ([4], [4]), ([5], [5]), ([], []), ([], []), ([8], [8]), ([], []), ([10], [10]), ([], []), ([12], [12]), ([], []), ([14], [14]), ([6, 7, 9, 11, 13, 15], [6, 7, 9, 11, 13, 15]), ([0, 1, 0, 1, 2, 3, 4, 5, 6, 7, 8, 9, 10, 11, 12, 13, 14, 15, 16], [0, 1]), ([17, 16, 0, 1, 2, 3, 4, 5, 6, 7, 8, 9, 10, 11, 12, 13, 14, 15, 16], [16, 17])])
def impl_Hang.B10 : List Nat := [0, 0, 0, 0, 12, 28, 60, 0, 0, 256, 0, 1024, 0, 4096, 0, 16384, 65532, 131071, 262143]
theorem impl_Hang.tab10 : rtab .any (opsOf Try.f9 10) = impl_Hang.T10 := by kernel_rfl
theorem impl_Hang.bits10 : waitsOk impl_Hang.T10.2 impl_Hang.B10 = true := by kernel_rfl
set_option maxHeartbeats 8000000 in
set_option maxRecDepth 100000 in
theorem impl_Hang.calls (k : Nat) (A0 : Option Addr) (c0 : Nat) (l0 : List (S36)) (a1 : Int) (a2 : Int) (r1 : List (S36)) (r2 : Bool) (w : World) (hr0 : Kd.C k36 w A0 l0.length l0) (hc0 : l0.length ≤ c0) (h : impl_Hang.f k l0 a1 a2 = some (r1, r2)) :
  Calls Try.prog 9 #[.slice A0 l0.length c0, .int .i64 a1, .int .i64 a2] w fun e w' => ∃ v0_ : Value, e = .returned (.tuple #[v0_, .bool r2]) ∧ Kd.R k36 36 w' w.heap.size (fun _ => True) v0_ r1 ∧ Below w.heap.size w w' := by
 have hu24 := Try.underlying24
 have hu36 := Try.underlying36
 have HR0 := Aside0.mk hr0
 have HC0 := Aside0.mk hc0
 clear hr0 hc0
 have HB := Aside0.mk (Below.refl w.heap.size w)
 have H : ((impl_isNode.f k l0 a1).bind fun t329 => (if t329 = true then ((impl_inRange.f a2 (-1) (wrap64 (a1 - 1))).bind fun t330 => (impl_Hang.j0 k l0 a1 a2 (!t330))) else (impl_Hang.j0 k l0 a1 a2 true))) = some (r1, r2) := h
 clear h
 have HC4 := Aside0.mk H
 clear H
 go_enter Try.func9, Try.ntmps9
 go_upto_region 1 with (fail)
 go_cut [25] (fun v25 wc => ∃ (kq : Nat) (x25_3 : Bool), v25 = .bool x25_3 ∧ Aside0 (impl_Hang.j0 kq l0 a1 a2 x25_3 = some (r1, r2)) ∧ Aside0 (kq ≤ k) ∧ Aside0 (Below w.heap.size w wc))
 case first =>
  have H := HC4.out
  clear HC4
  replace H := Option.bind_eq_some_iff.mp H
  obtain ⟨t329, A50, H⟩ := H
  replace H : (if t329 = true then ((impl_inRange.f a2 (-1) (wrap64 (a1 - 1))).bind fun t330 => (impl_Hang.j0 k l0 a1 a2 (!t330))) else (impl_Hang.j0 k l0 a1 a2 true)) = some (r1, r2) := H
  have A5 := Aside0.mk A50
  clear A50
  by_cases c6 : t329 = true
  ·subst c6
   have H1 : ((impl_inRange.f a2 (-1) (wrap64 (a1 - 1))).bind fun t330 => (impl_Hang.j0 k l0 a1 a2 (!t330))) = some (r1, r2) := by rw [if_pos rfl] at H; exact H
   clear H
   have H := H1
   clear H1
   replace H := Option.bind_eq_some_iff.mp H
   obtain ⟨t330, A70, H⟩ := H
   replace H : (impl_Hang.j0 k l0 a1 a2 (!t330)) = some (r1, r2) := H
   have A7 := Aside0.mk A70
   clear A70
   have H' := Aside0.mk H
   clear H
   go_wp2_with (first | ((with_reducible refine gate_callee (f := 20) rfl ?_); refine goesL_ (some 17) rfl rfl Try.func20 (by kernel_rfl) rfl #[.slice A0 l0.length c0, .int .i64 a1] rfl aE ?_; (with_reducible refine (impl_isNode.calls k _ _ l0 a1 true _ ?side1 ?side2 A5.out).mono ?_); (case side1 => exact cU (Kd.C_below HR0.out HB.out)); (case side2 => exact HC0.out); rintro e w8 ⟨rfl, hb⟩; refine ⟨_, rfl, ?_⟩; replace HB := bH (lU) hb; (try clear hb)) | (go_at_call 21; (with_reducible refine (impl_inRange.calls a2 (-1) (wrap64 (a1 - 1)) t330 _ A7.out).mono ?_); rintro e w' ⟨rfl, ⟨nd, rfl⟩⟩))
   go_meet
   case rel => exact ⟨_, (!t330), tE, H', ⟨by first | omega | exact Nat.le_refl _⟩, ⟨by repeat (first | (with_reducible first | exact HB.out | apply below_alloc | apply pw_below_drewN | apply below_drew1) | exact HB.out)⟩⟩
  ·replace c6 := Bool.eq_false_iff.mpr c6
   subst c6
   have H1 : (impl_Hang.j0 k l0 a1 a2 true) = some (r1, r2) := by rw [if_neg (show ¬ (false = true) by decide)] at H; exact H
   clear H
   have H := H1
   clear H1
   have H' := Aside0.mk H
   clear H
   go_wp2_with (first | ((with_reducible refine gate_callee (f := 20) rfl ?_); refine goesL_ (some 17) rfl rfl Try.func20 (by kernel_rfl) rfl #[.slice A0 l0.length c0, .int .i64 a1] rfl aE ?_; (with_reducible refine (impl_isNode.calls k _ _ l0 a1 false _ ?side1 ?side2 A5.out).mono ?_); (case side1 => exact cU (Kd.C_below HR0.out HB.out)); (case side2 => exact HC0.out); rintro e w9 ⟨rfl, hb⟩; refine ⟨_, rfl, ?_⟩; replace HB := bH (lU) hb; (try clear hb)))
   go_meet
   case rel => exact ⟨_, (true), tE, H', ⟨by first | omega | exact Nat.le_refl _⟩, ⟨by repeat (first | (with_reducible first | exact HB.out | apply below_alloc | apply pw_below_drewN | apply below_drew1) | exact HB.out)⟩⟩
 case rest =>
  clear HC4
  try clear c2
  try clear p2
  try clear c6
  try clear p6
  try clear c9
  obtain ⟨kq, x25_3, rfl, HA, HJ3, HB⟩ := hcut
  cases kq with
  | zero => exact absurd HA.out (by simp [impl_Hang.j0])
  | succ kj3 =>
   have H := HA.out
   clear HA
   simp only [impl_Hang.j0] at H
   by_cases c10 : x25_3 = true
   ·subst c10
    have H1 : (some (([] : List (S36)), false)) = some (r1, r2) := by rw [if_pos rfl] at H; exact H
    clear H
    have H := H1
    clear H1
    simp only [Option.some.injEq, Prod.mk.injEq] at H
    obtain ⟨rfl, rfl⟩ := H
    go_wp2
    go_ret2
    exact ⟨_, eE, by first | exact Kd.R_nil _ _ _ _ _ | exact Kd.N_nil _ _ _ _ _ | exact Kd.V_nil _ _ _ _ _ | exact Kd.Q_nil _ _ _ _ _ | exact Kd.S_nil _ _ _ _ _, lU⟩
   ·replace c10 := Bool.eq_false_iff.mpr c10
    subst c10
    have H1 : ((impl_spotOf.f kj3 l0 a1).bind fun bt331 => (if a2 ≥ 0 then (impl_Hang.j1 kj3 l0 a1 a2 bt331.2.2.2.2 bt331.2.2.2.2 bt331.1 bt331.2.1 bt331.2.2.1 bt331.2.2.2.1) else (impl_Hang.j1 kj3 l0 a1 a2 bt331.2.2.2.2 false bt331.1 bt331.2.1 bt331.2.2.1 bt331.2.2.2.1))) = some (r1, r2) := by rw [if_neg (show ¬ (false = true) by decide)] at H; exact H
    clear H
    have H := H1
    clear H1
    replace H := Option.bind_eq_some_iff.mp H
    obtain ⟨⟨t331, t332, t333, t334, t335⟩, A110, H⟩ := H
    replace H : (if a2 ≥ 0 then (impl_Hang.j1 kj3 l0 a1 a2 t335 t335 t331 t332 t333 t334) else (impl_Hang.j1 kj3 l0 a1 a2 t335 false t331 t332 t333 t334)) = some (r1, r2) := H
    have A11 := Aside0.mk A110
    clear A110
    have HC12 := Aside0.mk H
    clear H
    go_upto_region 4 with (first | ((with_reducible refine gate_callee (f := 22) rfl ?_); refine goesL_ (some 29) rfl rfl Try.func22 (by kernel_rfl) rfl #[.slice A0 l0.length c0, .int .i64 a1] rfl aE ?_; (with_reducible refine (impl_spotOf.calls kj3 _ _ l0 a1 t331 t332 t333 t334 t335 _ ?side1 ?side2 A11.out).mono ?_); (case side1 => exact cU (Kd.C_below HR0.out HB.out)); (case side2 => exact HC0.out); rintro e w13 ⟨rfl, hb⟩; refine ⟨_, rfl, ?_⟩; replace HB := bH (lU) hb; (try clear hb)) | ((with_reducible refine gate_dst (N := 8) rfl ?_); refine box_event rfl (N := 8) rfl (cs := #[.int .i64 0, .int .i64 0, .int .i64 0, .bool false]) (t := 24) sE ?_; intro gb336 hg w14 hbox hb; have BK336 := Aside0.mk hbox; have GW336 := gS w hg (lU); have GE336 := gS w hg (lU); replace HB := bH (lU) hb; clear hb hbox hg; have hcz15_0 := cz BK336 0 (.int .i64 0); have hcz15_1 := cz BK336 1 (.int .i64 0); have hcz15_2 := cz BK336 2 (.int .i64 0); have hcz15_3 := cz BK336 3 (.bool false); have hfz15_0 := fz BK336 0; have hfz15_1 := fz BK336 1; have hfz15_2 := fz BK336 2; have hfz15_3 := fz BK336 3) | ((with_reducible refine gate_store (t := 24) (p := 8) rfl ?_); refine store_event (t := 24) (p := 8) (v := ?vo_w16) (w1 := ((((w14.setCell ⟨gb336, 0, none⟩ (.int .i64 t331)).setCell ⟨gb336, 1, none⟩ (.int .i64 t332)).setCell ⟨gb336, 2, none⟩ (.int .i64 t333)).setCell ⟨gb336, 3, none⟩ (.bool t334))) ?hg ?ho ?hn ?hr ?_; (case ho => rfl); (case hg => rfl); (case hn => rfl); (case hr => first | (go_simp; done) | (go_simp; rfl) | (have hq0_ := (blk_cell BK336.out 0).trans (show _ = some _ from rfl); have hf0_ := blk_frozen BK336.out 0; have hq1_ := (blk_cell BK336.out 1).trans (show _ = some _ from rfl); have hf1_ := blk_frozen BK336.out 1; have hq2_ := (blk_cell BK336.out 2).trans (show _ = some _ from rfl); have hf2_ := blk_frozen BK336.out 2; have hq3_ := (blk_cell BK336.out 3).trans (show _ = some _ from rfl); have hf3_ := blk_frozen BK336.out 3; first | (go_simp; done) | (go_simp; rfl))); intro w16 hw; replace BK336 : Aside0 (w16.heap[gb336]? = some (.cells #[.int .i64 t331, .int .i64 t332, .int .i64 t333, .bool t334] 24 (0, 0))) := ⟨(by rw [hw]; exact (by refine bU ?_; refine blk_put (cs := #[.int .i64 t331, .int .i64 t332, .int .i64 t333, .bool false]) ?_ 3 _ rfl; refine bU ?_; refine blk_put (cs := #[.int .i64 t331, .int .i64 t332, .int .i64 0, .bool false]) ?_ 2 _ rfl; refine bU ?_; refine blk_put (cs := #[.int .i64 t331, .int .i64 0, .int .i64 0, .bool false]) ?_ 1 _ rfl; refine bU ?_; refine blk_put (cs := #[.int .i64 0, .int .i64 0, .int .i64 0, .bool false]) ?_ 0 _ rfl; refine bU ?_; exact BK336.out))⟩; replace HB : Aside0 (Below w.heap.size w w16) := ⟨(by rw [hw]; exact (lV1 GE336))⟩; clear hw))
    (try simp only [Act.put, List.setIfInBounds_toArray, List.set_cons_zero, List.set_cons_succ])
    go_cut [36] (fun v36 wc => ∃ (kq : Nat) (x36_11 : Bool), v36 = .bool x36_11 ∧ Aside0 (impl_Hang.j1 kq l0 a1 a2 t335 x36_11 t331 t332 t333 t334 = some (r1, r2)) ∧ Aside0 (kq ≤ kj3) ∧ Aside0 (wc.heap[gb336]? = some (.cells #[.int .i64 t331, .int .i64 t332, .int .i64 t333, .bool t334] 24 (0, 0))) ∧ Aside0 (Below w.heap.size w wc))
    case first =>
     have H := HC12.out
     clear HC12
     by_cases c17 : a2 ≥ 0
     ·rw [if_pos c17] at H
      have c17b0 : decide (0 ≤ a2) = true := decide_eq_true c17
      clear c17
      (first | rw [c17b0] | (simp only [i64_w, i32_w]; rw [c17b0]) | (rw [c17b2]; simp only [Bool.not_false, Bool.not_true]) | skip)
      have H' := Aside0.mk H
      clear H
      go_wp2
      go_meet
      case rel => exact ⟨_, (t335), tE, H', ⟨by have := HJ3.out; first | omega | exact Nat.le_refl _⟩, ⟨by refine bU ?_; exact BK336.out⟩, ⟨by repeat (first | (with_reducible first | exact HB.out | apply below_alloc | apply pw_below_drewN | apply below_drew1 | refine below_set ?_ GE336.out) | exact HB.out)⟩⟩
     ·rw [if_neg c17] at H
      have c17b0 : decide (0 ≤ a2) = false := decide_eq_false c17
      clear c17
      (first | rw [c17b0] | (simp only [i64_w, i32_w]; rw [c17b0]) | (rw [c17b2]; simp only [Bool.not_false, Bool.not_true]) | skip)
      have H' := Aside0.mk H
      clear H
      go_wp2
      go_meet
      case rel => exact ⟨_, (false), tE, H', ⟨by have := HJ3.out; first | omega | exact Nat.le_refl _⟩, ⟨by refine bU ?_; exact BK336.out⟩, ⟨by repeat (first | (with_reducible first | exact HB.out | apply below_alloc | apply pw_below_drewN | apply below_drew1 | refine below_set ?_ GE336.out) | exact HB.out)⟩⟩
    case rest =>
     clear HC12
     try clear c1
     try clear q1
     try clear c2
     try clear p2
     try clear q2
     try clear q3
     try clear hf3
     try clear c6
     try clear p6
     try clear c9
     try clear c10
     try clear c17
     try clear c17b0
     try clear c17b2
     try clear hcz15_0
     try clear hcz15_1
     try clear hcz15_2
     try clear hcz15_3
     try clear hfz15_0
     try clear hfz15_1
     try clear hfz15_2
     try clear hfz15_3
     try clear p2
     try clear p6
     obtain ⟨kq, x36_11, rfl, HA, HJ11, BK336, HB⟩ := hcut
     cases kq with
     | zero => exact absurd HA.out (by simp [impl_Hang.j1])
     | succ kj11 =>
      have H := HA.out
      clear HA
      simp only [impl_Hang.j1] at H
      have HC18 := Aside0.mk H
      clear H
      go_upto_if 36 with (fail)
      go_cut [9] (fun v9 wc => ∃ (kq : Nat) (x9_17 : Bool) (x337000_17 : Int) (x337001_17 : Int) (x337002_17 : Int) (x337003_17 : Bool), v9 = .bool x9_17 ∧ Aside0 (impl_Hang.j2 kq l0 a1 a2 x9_17 x337000_17 x337001_17 x337002_17 x337003_17 = some (r1, r2)) ∧ Aside0 (kq ≤ kj11) ∧ Aside0 (wc.heap[gb336]? = some (.cells #[.int .i64 x337000_17, .int .i64 x337001_17, .int .i64 x337002_17, .bool x337003_17] 24 (0, 0))) ∧ Aside0 (Below w.heap.size w wc))
      case first =>
       have H := HC18.out
       clear HC18
       by_cases c19 : x36_11 = true
       ·subst c19
        have H1 : ((impl_spotOf.f kj11 l0 a2).bind fun bt337 => ((impl_BackSpot.f kj11 bt337.1 bt337.2.1 bt337.2.2.1 bt337.2.2.2.1).bind fun bt343 => ((impl_JoinSpots.f kj11 bt343.1 bt343.2.1 bt343.2.2.1 bt343.2.2.2.1 t331 t332 t333 t334).bind fun bt349 => (if bt349.2.2.2.2 = true then (impl_Hang.j2 kj11 l0 a1 a2 bt337.2.2.2.2 bt349.1 bt349.2.1 bt349.2.2.1 bt349.2.2.2.1) else (impl_Hang.j2 kj11 l0 a1 a2 false bt349.1 bt349.2.1 bt349.2.2.1 bt349.2.2.2.1))))) = some (r1, r2) := by rw [if_pos rfl] at H; exact H
        clear H
        have H := H1
        clear H1
        replace H := Option.bind_eq_some_iff.mp H
        obtain ⟨⟨t337, t338, t339, t340, t341⟩, A200, H⟩ := H
        replace H : ((impl_BackSpot.f kj11 t337 t338 t339 t340).bind fun bt343 => ((impl_JoinSpots.f kj11 bt343.1 bt343.2.1 bt343.2.2.1 bt343.2.2.2.1 t331 t332 t333 t334).bind fun bt349 => (if bt349.2.2.2.2 = true then (impl_Hang.j2 kj11 l0 a1 a2 t341 bt349.1 bt349.2.1 bt349.2.2.1 bt349.2.2.2.1) else (impl_Hang.j2 kj11 l0 a1 a2 false bt349.1 bt349.2.1 bt349.2.2.1 bt349.2.2.2.1)))) = some (r1, r2) := H
        have A20 := Aside0.mk A200
        clear A200
        replace H := Option.bind_eq_some_iff.mp H
        obtain ⟨⟨t343, t344, t345, t346, t347⟩, A210, H⟩ := H
        replace H : ((impl_JoinSpots.f kj11 t343 t344 t345 t346 t331 t332 t333 t334).bind fun bt349 => (if bt349.2.2.2.2 = true then (impl_Hang.j2 kj11 l0 a1 a2 t341 bt349.1 bt349.2.1 bt349.2.2.1 bt349.2.2.2.1) else (impl_Hang.j2 kj11 l0 a1 a2 false bt349.1 bt349.2.1 bt349.2.2.1 bt349.2.2.2.1))) = some (r1, r2) := H
        have A21 := Aside0.mk A210
        clear A210
        replace H := Option.bind_eq_some_iff.mp H
        obtain ⟨⟨t349, t350, t351, t352, t353⟩, A220, H⟩ := H
        replace H : (if t353 = true then (impl_Hang.j2 kj11 l0 a1 a2 t341 t349 t350 t351 t352) else (impl_Hang.j2 kj11 l0 a1 a2 false t349 t350 t351 t352)) = some (r1, r2) := H
        have A22 := Aside0.mk A220
        clear A220
        by_cases c23 : t353 = true
        ·subst c23
         have H1 : (impl_Hang.j2 kj11 l0 a1 a2 t341 t349 t350 t351 t352) = some (r1, r2) := by rw [if_pos rfl] at H; exact H
         clear H
         have H := H1
         clear H1
         have H' := Aside0.mk H
         clear H
         go_wp2_with (first | ((with_reducible refine gate_callee (f := 22) rfl ?_); refine goesL_ (some 40) rfl rfl Try.func22 (by kernel_rfl) rfl #[.slice A0 l0.length c0, .int .i64 a2] rfl aE ?_; (with_reducible refine (impl_spotOf.calls kj11 _ _ l0 a2 t337 t338 t339 t340 t341 _ ?side1 ?side2 A20.out).mono ?_); (case side1 => exact cU (Kd.C_below HR0.out HB.out)); (case side2 => exact HC0.out); rintro e w24 ⟨rfl, hb⟩; refine ⟨_, rfl, ?_⟩; replace BK336 := bB (bV BK336) hb; replace HB := bH (lV1 GE336) hb; (try clear hb)) | ((with_reducible refine gate_dst (N := 10) rfl ?_); refine box_event rfl (N := 10) rfl (cs := #[.int .i64 0, .int .i64 0, .int .i64 0, .bool false]) (t := 24) sE ?_; intro gb342 hg w25 hbox hb; have BK342 := Aside0.mk hbox; have GW342 := gS w hg (lV1 GE336); have GE342 := gS w hg (lV1 GE336); replace HB := bH (lV1 GE336) hb; have NB336_342 := nL hg (bV BK336); have NB342_336 := nG hg (bV BK336); replace BK336 := bB (bV BK336) hb; clear hb hbox hg; have hnb26 := NB342_336.out; have hnc26 := NB336_342.out; have hcz27_0 := cz BK342 0 (.int .i64 0); have hcz27_1 := cz BK342 1 (.int .i64 0); have hcz27_2 := cz BK342 2 (.int .i64 0); have hcz27_3 := cz BK342 3 (.bool false); have hfz27_0 := fz BK342 0; have hfz27_1 := fz BK342 1; have hfz27_2 := fz BK342 2; have hfz27_3 := fz BK342 3) | ((with_reducible refine gate_store (t := 24) (p := 10) rfl ?_); refine store_event (t := 24) (p := 10) (v := ?vo_w28) (w1 := ((((w25.setCell ⟨gb342, 0, none⟩ (.int .i64 t337)).setCell ⟨gb342, 1, none⟩ (.int .i64 t338)).setCell ⟨gb342, 2, none⟩ (.int .i64 t339)).setCell ⟨gb342, 3, none⟩ (.bool t340))) ?hg ?ho ?hn ?hr ?_; (case ho => rfl); (case hg => rfl); (case hn => rfl); (case hr => first | (go_simp; done) | (go_simp; rfl) | (have hq0_ := (blk_cell BK342.out 0).trans (show _ = some _ from rfl); have hf0_ := blk_frozen BK342.out 0; have hq1_ := (blk_cell BK342.out 1).trans (show _ = some _ from rfl); have hf1_ := blk_frozen BK342.out 1; have hq2_ := (blk_cell BK342.out 2).trans (show _ = some _ from rfl); have hf2_ := blk_frozen BK342.out 2; have hq3_ := (blk_cell BK342.out 3).trans (show _ = some _ from rfl); have hf3_ := blk_frozen BK342.out 3; first | (go_simp; done) | (go_simp; rfl))); intro w28 hw; replace BK336 : Aside0 (w28.heap[gb336]? = some (.cells #[.int .i64 t331, .int .i64 t332, .int .i64 t333, .bool t334] 24 (0, 0))) := ⟨(by rw [hw]; exact (bG NB336_342 BK336))⟩; replace BK342 : Aside0 (w28.heap[gb342]? = some (.cells #[.int .i64 t337, .int .i64 t338, .int .i64 t339, .bool t340] 24 (0, 0))) := ⟨(by rw [hw]; exact (by refine bU ?_; refine blk_put (cs := #[.int .i64 t337, .int .i64 t338, .int .i64 t339, .bool false]) ?_ 3 _ rfl; refine bU ?_; refine blk_put (cs := #[.int .i64 t337, .int .i64 t338, .int .i64 0, .bool false]) ?_ 2 _ rfl; refine bU ?_; refine blk_put (cs := #[.int .i64 t337, .int .i64 0, .int .i64 0, .bool false]) ?_ 1 _ rfl; refine bU ?_; refine blk_put (cs := #[.int .i64 0, .int .i64 0, .int .i64 0, .bool false]) ?_ 0 _ rfl; refine bU ?_; exact BK342.out))⟩; replace HB : Aside0 (Below w.heap.size w w28) := ⟨(by rw [hw]; exact (lV2 GE336 GE342))⟩; clear hw; have hcz29_0 := cz BK342 0 (.int .i64 t337); have hcz29_1 := cz BK342 1 (.int .i64 t338); have hcz29_2 := cz BK342 2 (.int .i64 t339); have hcz29_3 := cz BK342 3 (.bool t340); have hfz29_0 := fz BK342 0; have hfz29_1 := fz BK342 1; have hfz29_2 := fz BK342 2; have hfz29_3 := fz BK342 3) | ((with_reducible refine gate_callee (f := 5) rfl ?_); refine goesL_ (some 45) rfl rfl Try.func5 (by kernel_rfl) rfl #[.agg #[.int .i64 t337, .int .i64 t338, .int .i64 t339, .bool t340]] rfl aE ?_; (with_reducible refine (impl_BackSpot.calls kj11 t337 t338 t339 t340 t343 t344 t345 t346 t347 _ A21.out).mono ?_); rintro e w30 ⟨rfl, hb⟩; refine ⟨_, rfl, ?_⟩; replace BK336 := bB (bV BK336) hb; replace BK342 := bB (bV BK342) hb; replace HB := bH (lV2 GE336 GE342) hb; (try clear hb)) | ((with_reducible refine gate_dst (N := 12) rfl ?_); refine box_event rfl (N := 12) rfl (cs := #[.int .i64 0, .int .i64 0, .int .i64 0, .bool false]) (t := 24) sE ?_; intro gb348 hg w31 hbox hb; have BK348 := Aside0.mk hbox; have GW348 := gS w hg (lV2 GE336 GE342); have GE348 := gS w hg (lV2 GE336 GE342); replace HB := bH (lV2 GE336 GE342) hb; have NB336_348 := nL hg (bV BK336); have NB348_336 := nG hg (bV BK336); replace BK336 := bB (bV BK336) hb; have NB342_348 := nL hg (bV BK342); have NB348_342 := nG hg (bV BK342); replace BK342 := bB (bV BK342) hb; clear hb hbox hg; have hnb32 := NB348_336.out; have hnc32 := NB336_348.out; have hnb33 := NB348_342.out; have hnc33 := NB342_348.out; have hcz34_0 := cz BK348 0 (.int .i64 0); have hcz34_1 := cz BK348 1 (.int .i64 0); have hcz34_2 := cz BK348 2 (.int .i64 0); have hcz34_3 := cz BK348 3 (.bool false); have hfz34_0 := fz BK348 0; have hfz34_1 := fz BK348 1; have hfz34_2 := fz BK348 2; have hfz34_3 := fz BK348 3) | ((with_reducible refine gate_store (t := 24) (p := 12) rfl ?_); refine store_event (t := 24) (p := 12) (v := ?vo_w35) (w1 := ((((w31.setCell ⟨gb348, 0, none⟩ (.int .i64 t343)).setCell ⟨gb348, 1, none⟩ (.int .i64 t344)).setCell ⟨gb348, 2, none⟩ (.int .i64 t345)).setCell ⟨gb348, 3, none⟩ (.bool t346))) ?hg ?ho ?hn ?hr ?_; (case ho => rfl); (case hg => rfl); (case hn => rfl); (case hr => first | (go_simp; done) | (go_simp; rfl) | (have hq0_ := (blk_cell BK348.out 0).trans (show _ = some _ from rfl); have hf0_ := blk_frozen BK348.out 0; have hq1_ := (blk_cell BK348.out 1).trans (show _ = some _ from rfl); have hf1_ := blk_frozen BK348.out 1; have hq2_ := (blk_cell BK348.out 2).trans (show _ = some _ from rfl); have hf2_ := blk_frozen BK348.out 2; have hq3_ := (blk_cell BK348.out 3).trans (show _ = some _ from rfl); have hf3_ := blk_frozen BK348.out 3; first | (go_simp; done) | (go_simp; rfl))); intro w35 hw; replace BK336 : Aside0 (w35.heap[gb336]? = some (.cells #[.int .i64 t331, .int .i64 t332, .int .i64 t333, .bool t334] 24 (0, 0))) := ⟨(by rw [hw]; exact (bG NB336_348 BK336))⟩; replace BK342 : Aside0 (w35.heap[gb342]? = some (.cells #[.int .i64 t337, .int .i64 t338, .int .i64 t339, .bool t340] 24 (0, 0))) := ⟨(by rw [hw]; exact (bG NB342_348 BK342))⟩; replace BK348 : Aside0 (w35.heap[gb348]? = some (.cells #[.int .i64 t343, .int .i64 t344, .int .i64 t345, .bool t346] 24 (0, 0))) := ⟨(by rw [hw]; exact (by refine bU ?_; refine blk_put (cs := #[.int .i64 t343, .int .i64 t344, .int .i64 t345, .bool false]) ?_ 3 _ rfl; refine bU ?_; refine blk_put (cs := #[.int .i64 t343, .int .i64 t344, .int .i64 0, .bool false]) ?_ 2 _ rfl; refine bU ?_; refine blk_put (cs := #[.int .i64 t343, .int .i64 0, .int .i64 0, .bool false]) ?_ 1 _ rfl; refine bU ?_; refine blk_put (cs := #[.int .i64 0, .int .i64 0, .int .i64 0, .bool false]) ?_ 0 _ rfl; refine bU ?_; exact BK348.out))⟩; replace HB : Aside0 (Below w.heap.size w w35) := ⟨(by rw [hw]; exact (lV3 GE336 GE342 GE348))⟩; clear hw; have hcz36_0 := cz BK348 0 (.int .i64 t343); have hcz36_1 := cz BK348 1 (.int .i64 t344); have hcz36_2 := cz BK348 2 (.int .i64 t345); have hcz36_3 := cz BK348 3 (.bool t346); have hfz36_0 := fz BK348 0; have hfz36_1 := fz BK348 1; have hfz36_2 := fz BK348 2; have hfz36_3 := fz BK348 3; have hcz37_0 := cz BK336 0 (.int .i64 t331); have hcz37_1 := cz BK336 1 (.int .i64 t332); have hcz37_2 := cz BK336 2 (.int .i64 t333); have hcz37_3 := cz BK336 3 (.bool t334); have hfz37_0 := fz BK336 0; have hfz37_1 := fz BK336 1; have hfz37_2 := fz BK336 2; have hfz37_3 := fz BK336 3) | ((with_reducible refine gate_callee (f := 7) rfl ?_); refine goesL_ (some 51) rfl rfl Try.func7 (by kernel_rfl) rfl #[.agg #[.int .i64 t343, .int .i64 t344, .int .i64 t345, .bool t346], .agg #[.int .i64 t331, .int .i64 t332, .int .i64 t333, .bool t334]] rfl aE ?_; (with_reducible refine (impl_JoinSpots.calls kj11 t343 t344 t345 t346 t331 t332 t333 t334 t349 t350 t351 t352 true _ A22.out).mono ?_); rintro e w38 ⟨rfl, hb⟩; refine ⟨_, rfl, ?_⟩; replace BK336 := bB (bV BK336) hb; replace BK342 := bB (bV BK342) hb; replace BK348 := bB (bV BK348) hb; replace HB := bH (lV3 GE336 GE342 GE348) hb; (try clear hb); have hcz39_0 := cz BK336 0 (.int .i64 t331); have hcz39_1 := cz BK336 1 (.int .i64 t332); have hcz39_2 := cz BK336 2 (.int .i64 t333); have hcz39_3 := cz BK336 3 (.bool t334); have hfz39_0 := fz BK336 0; have hfz39_1 := fz BK336 1; have hfz39_2 := fz BK336 2; have hfz39_3 := fz BK336 3) | ((with_reducible refine gate_store (t := 24) (p := 8) rfl ?_); refine store_event (t := 24) (p := 8) (v := ?vo_w40) (w1 := ((((w38.setCell ⟨gb336, 0, none⟩ (.int .i64 t349)).setCell ⟨gb336, 1, none⟩ (.int .i64 t350)).setCell ⟨gb336, 2, none⟩ (.int .i64 t351)).setCell ⟨gb336, 3, none⟩ (.bool t352))) ?hg ?ho ?hn ?hr ?_; (case ho => rfl); (case hg => rfl); (case hn => rfl); (case hr => first | (go_simp; done) | (go_simp; rfl) | (have hq0_ := (blk_cell BK336.out 0).trans (show _ = some _ from rfl); have hf0_ := blk_frozen BK336.out 0; have hq1_ := (blk_cell BK336.out 1).trans (show _ = some _ from rfl); have hf1_ := blk_frozen BK336.out 1; have hq2_ := (blk_cell BK336.out 2).trans (show _ = some _ from rfl); have hf2_ := blk_frozen BK336.out 2; have hq3_ := (blk_cell BK336.out 3).trans (show _ = some _ from rfl); have hf3_ := blk_frozen BK336.out 3; first | (go_simp; done) | (go_simp; rfl))); intro w40 hw; replace BK336 : Aside0 (w40.heap[gb336]? = some (.cells #[.int .i64 t349, .int .i64 t350, .int .i64 t351, .bool t352] 24 (0, 0))) := ⟨(by rw [hw]; exact (by refine bU ?_; refine blk_put (cs := #[.int .i64 t349, .int .i64 t350, .int .i64 t351, .bool t334]) ?_ 3 _ rfl; refine bU ?_; refine blk_put (cs := #[.int .i64 t349, .int .i64 t350, .int .i64 t333, .bool t334]) ?_ 2 _ rfl; refine bU ?_; refine blk_put (cs := #[.int .i64 t349, .int .i64 t332, .int .i64 t333, .bool t334]) ?_ 1 _ rfl; refine bU ?_; refine blk_put (cs := #[.int .i64 t331, .int .i64 t332, .int .i64 t333, .bool t334]) ?_ 0 _ rfl; refine bU ?_; exact BK336.out))⟩; replace BK342 : Aside0 (w40.heap[gb342]? = some (.cells #[.int .i64 t337, .int .i64 t338, .int .i64 t339, .bool t340] 24 (0, 0))) := ⟨(by rw [hw]; exact (bG NB342_336 BK342))⟩; replace BK348 : Aside0 (w40.heap[gb348]? = some (.cells #[.int .i64 t343, .int .i64 t344, .int .i64 t345, .bool t346] 24 (0, 0))) := ⟨(by rw [hw]; exact (bG NB348_336 BK348))⟩; replace HB : Aside0 (Below w.heap.size w w40) := ⟨(by rw [hw]; exact (lV3 GE336 GE342 GE348))⟩; clear hw))
         go_meet
         case rel => exact ⟨_, (t341), (t349), (t350), (t351), (t352), tE, H', ⟨by have := HJ3.out; have := HJ11.out; first | omega | exact Nat.le_refl _⟩, ⟨by refine bU ?_; exact BK336.out⟩, ⟨by repeat (first | (with_reducible first | exact HB.out | apply below_alloc | apply pw_below_drewN | apply below_drew1 | refine below_set ?_ GE336.out | refine below_set ?_ GE342.out | refine below_set ?_ GE348.out) | exact HB.out)⟩⟩
        ·replace c23 := Bool.eq_false_iff.mpr c23
         subst c23
         have H1 : (impl_Hang.j2 kj11 l0 a1 a2 false t349 t350 t351 t352) = some (r1, r2) := by rw [if_neg (show ¬ (false = true) by decide)] at H; exact H
         clear H
         have H := H1
         clear H1
         have H' := Aside0.mk H
         clear H
         go_wp2_with (first | ((with_reducible refine gate_callee (f := 22) rfl ?_); refine goesL_ (some 40) rfl rfl Try.func22 (by kernel_rfl) rfl #[.slice A0 l0.length c0, .int .i64 a2] rfl aE ?_; (with_reducible refine (impl_spotOf.calls kj11 _ _ l0 a2 t337 t338 t339 t340 t341 _ ?side1 ?side2 A20.out).mono ?_); (case side1 => exact cU (Kd.C_below HR0.out HB.out)); (case side2 => exact HC0.out); rintro e w41 ⟨rfl, hb⟩; refine ⟨_, rfl, ?_⟩; replace BK336 := bB (bV BK336) hb; replace HB := bH (lV1 GE336) hb; (try clear hb)) | ((with_reducible refine gate_dst (N := 10) rfl ?_); refine box_event rfl (N := 10) rfl (cs := #[.int .i64 0, .int .i64 0, .int .i64 0, .bool false]) (t := 24) sE ?_; intro gb342 hg w42 hbox hb; have BK342 := Aside0.mk hbox; have GW342 := gS w hg (lV1 GE336); have GE342 := gS w hg (lV1 GE336); replace HB := bH (lV1 GE336) hb; have NB336_342 := nL hg (bV BK336); have NB342_336 := nG hg (bV BK336); replace BK336 := bB (bV BK336) hb; clear hb hbox hg; have hnb43 := NB342_336.out; have hnc43 := NB336_342.out; have hcz44_0 := cz BK342 0 (.int .i64 0); have hcz44_1 := cz BK342 1 (.int .i64 0); have hcz44_2 := cz BK342 2 (.int .i64 0); have hcz44_3 := cz BK342 3 (.bool false); have hfz44_0 := fz BK342 0; have hfz44_1 := fz BK342 1; have hfz44_2 := fz BK342 2; have hfz44_3 := fz BK342 3) | ((with_reducible refine gate_store (t := 24) (p := 10) rfl ?_); refine store_event (t := 24) (p := 10) (v := ?vo_w45) (w1 := ((((w42.setCell ⟨gb342, 0, none⟩ (.int .i64 t337)).setCell ⟨gb342, 1, none⟩ (.int .i64 t338)).setCell ⟨gb342, 2, none⟩ (.int .i64 t339)).setCell ⟨gb342, 3, none⟩ (.bool t340))) ?hg ?ho ?hn ?hr ?_; (case ho => rfl); (case hg => rfl); (case hn => rfl); (case hr => first | (go_simp; done) | (go_simp; rfl) | (have hq0_ := (blk_cell BK342.out 0).trans (show _ = some _ from rfl); have hf0_ := blk_frozen BK342.out 0; have hq1_ := (blk_cell BK342.out 1).trans (show _ = some _ from rfl); have hf1_ := blk_frozen BK342.out 1; have hq2_ := (blk_cell BK342.out 2).trans (show _ = some _ from rfl); have hf2_ := blk_frozen BK342.out 2; have hq3_ := (blk_cell BK342.out 3).trans (show _ = some _ from rfl); have hf3_ := blk_frozen BK342.out 3; first | (go_simp; done) | (go_simp; rfl))); intro w45 hw; replace BK336 : Aside0 (w45.heap[gb336]? = some (.cells #[.int .i64 t331, .int .i64 t332, .int .i64 t333, .bool t334] 24 (0, 0))) := ⟨(by rw [hw]; exact (bG NB336_342 BK336))⟩; replace BK342 : Aside0 (w45.heap[gb342]? = some (.cells #[.int .i64 t337, .int .i64 t338, .int .i64 t339, .bool t340] 24 (0, 0))) := ⟨(by rw [hw]; exact (by refine bU ?_; refine blk_put (cs := #[.int .i64 t337, .int .i64 t338, .int .i64 t339, .bool false]) ?_ 3 _ rfl; refine bU ?_; refine blk_put (cs := #[.int .i64 t337, .int .i64 t338, .int .i64 0, .bool false]) ?_ 2 _ rfl; refine bU ?_; refine blk_put (cs := #[.int .i64 t337, .int .i64 0, .int .i64 0, .bool false]) ?_ 1 _ rfl; refine bU ?_; refine blk_put (cs := #[.int .i64 0, .int .i64 0, .int .i64 0, .bool false]) ?_ 0 _ rfl; refine bU ?_; exact BK342.out))⟩; replace HB : Aside0 (Below w.heap.size w w45) := ⟨(by rw [hw]; exact (lV2 GE336 GE342))⟩; clear hw; have hcz46_0 := cz BK342 0 (.int .i64 t337); have hcz46_1 := cz BK342 1 (.int .i64 t338); have hcz46_2 := cz BK342 2 (.int .i64 t339); have hcz46_3 := cz BK342 3 (.bool t340); have hfz46_0 := fz BK342 0; have hfz46_1 := fz BK342 1; have hfz46_2 := fz BK342 2; have hfz46_3 := fz BK342 3) | ((with_reducible refine gate_callee (f := 5) rfl ?_); refine goesL_ (some 45) rfl rfl Try.func5 (by kernel_rfl) rfl #[.agg #[.int .i64 t337, .int .i64 t338, .int .i64 t339, .bool t340]] rfl aE ?_; (with_reducible refine (impl_BackSpot.calls kj11 t337 t338 t339 t340 t343 t344 t345 t346 t347 _ A21.out).mono ?_); rintro e w47 ⟨rfl, hb⟩; refine ⟨_, rfl, ?_⟩; replace BK336 := bB (bV BK336) hb; replace BK342 := bB (bV BK342) hb; replace HB := bH (lV2 GE336 GE342) hb; (try clear hb)) | ((with_reducible refine gate_dst (N := 12) rfl ?_); refine box_event rfl (N := 12) rfl (cs := #[.int .i64 0, .int .i64 0, .int .i64 0, .bool false]) (t := 24) sE ?_; intro gb348 hg w48 hbox hb; have BK348 := Aside0.mk hbox; have GW348 := gS w hg (lV2 GE336 GE342); have GE348 := gS w hg (lV2 GE336 GE342); replace HB := bH (lV2 GE336 GE342) hb; have NB336_348 := nL hg (bV BK336); have NB348_336 := nG hg (bV BK336); replace BK336 := bB (bV BK336) hb; have NB342_348 := nL hg (bV BK342); have NB348_342 := nG hg (bV BK342); replace BK342 := bB (bV BK342) hb; clear hb hbox hg; have hnb49 := NB348_336.out; have hnc49 := NB336_348.out; have hnb50 := NB348_342.out; have hnc50 := NB342_348.out; have hcz51_0 := cz BK348 0 (.int .i64 0); have hcz51_1 := cz BK348 1 (.int .i64 0); have hcz51_2 := cz BK348 2 (.int .i64 0); have hcz51_3 := cz BK348 3 (.bool false); have hfz51_0 := fz BK348 0; have hfz51_1 := fz BK348 1; have hfz51_2 := fz BK348 2; have hfz51_3 := fz BK348 3) | ((with_reducible refine gate_store (t := 24) (p := 12) rfl ?_); refine store_event (t := 24) (p := 12) (v := ?vo_w52) (w1 := ((((w48.setCell ⟨gb348, 0, none⟩ (.int .i64 t343)).setCell ⟨gb348, 1, none⟩ (.int .i64 t344)).setCell ⟨gb348, 2, none⟩ (.int .i64 t345)).setCell ⟨gb348, 3, none⟩ (.bool t346))) ?hg ?ho ?hn ?hr ?_; (case ho => rfl); (case hg => rfl); (case hn => rfl); (case hr => first | (go_simp; done) | (go_simp; rfl) | (have hq0_ := (blk_cell BK348.out 0).trans (show _ = some _ from rfl); have hf0_ := blk_frozen BK348.out 0; have hq1_ := (blk_cell BK348.out 1).trans (show _ = some _ from rfl); have hf1_ := blk_frozen BK348.out 1; have hq2_ := (blk_cell BK348.out 2).trans (show _ = some _ from rfl); have hf2_ := blk_frozen BK348.out 2; have hq3_ := (blk_cell BK348.out 3).trans (show _ = some _ from rfl); have hf3_ := blk_frozen BK348.out 3; first | (go_simp; done) | (go_simp; rfl))); intro w52 hw; replace BK336 : Aside0 (w52.heap[gb336]? = some (.cells #[.int .i64 t331, .int .i64 t332, .int .i64 t333, .bool t334] 24 (0, 0))) := ⟨(by rw [hw]; exact (bG NB336_348 BK336))⟩; replace BK342 : Aside0 (w52.heap[gb342]? = some (.cells #[.int .i64 t337, .int .i64 t338, .int .i64 t339, .bool t340] 24 (0, 0))) := ⟨(by rw [hw]; exact (bG NB342_348 BK342))⟩; replace BK348 : Aside0 (w52.heap[gb348]? = some (.cells #[.int .i64 t343, .int .i64 t344, .int .i64 t345, .bool t346] 24 (0, 0))) := ⟨(by rw [hw]; exact (by refine bU ?_; refine blk_put (cs := #[.int .i64 t343, .int .i64 t344, .int .i64 t345, .bool false]) ?_ 3 _ rfl; refine bU ?_; refine blk_put (cs := #[.int .i64 t343, .int .i64 t344, .int .i64 0, .bool false]) ?_ 2 _ rfl; refine bU ?_; refine blk_put (cs := #[.int .i64 t343, .int .i64 0, .int .i64 0, .bool false]) ?_ 1 _ rfl; refine bU ?_; refine blk_put (cs := #[.int .i64 0, .int .i64 0, .int .i64 0, .bool false]) ?_ 0 _ rfl; refine bU ?_; exact BK348.out))⟩; replace HB : Aside0 (Below w.heap.size w w52) := ⟨(by rw [hw]; exact (lV3 GE336 GE342 GE348))⟩; clear hw; have hcz53_0 := cz BK348 0 (.int .i64 t343); have hcz53_1 := cz BK348 1 (.int .i64 t344); have hcz53_2 := cz BK348 2 (.int .i64 t345); have hcz53_3 := cz BK348 3 (.bool t346); have hfz53_0 := fz BK348 0; have hfz53_1 := fz BK348 1; have hfz53_2 := fz BK348 2; have hfz53_3 := fz BK348 3; have hcz54_0 := cz BK336 0 (.int .i64 t331); have hcz54_1 := cz BK336 1 (.int .i64 t332); have hcz54_2 := cz BK336 2 (.int .i64 t333); have hcz54_3 := cz BK336 3 (.bool t334); have hfz54_0 := fz BK336 0; have hfz54_1 := fz BK336 1; have hfz54_2 := fz BK336 2; have hfz54_3 := fz BK336 3) | ((with_reducible refine gate_callee (f := 7) rfl ?_); refine goesL_ (some 51) rfl rfl Try.func7 (by kernel_rfl) rfl #[.agg #[.int .i64 t343, .int .i64 t344, .int .i64 t345, .bool t346], .agg #[.int .i64 t331, .int .i64 t332, .int .i64 t333, .bool t334]] rfl aE ?_; (with_reducible refine (impl_JoinSpots.calls kj11 t343 t344 t345 t346 t331 t332 t333 t334 t349 t350 t351 t352 false _ A22.out).mono ?_); rintro e w55 ⟨rfl, hb⟩; refine ⟨_, rfl, ?_⟩; replace BK336 := bB (bV BK336) hb; replace BK342 := bB (bV BK342) hb; replace BK348 := bB (bV BK348) hb; replace HB := bH (lV3 GE336 GE342 GE348) hb; (try clear hb); have hcz56_0 := cz BK336 0 (.int .i64 t331); have hcz56_1 := cz BK336 1 (.int .i64 t332); have hcz56_2 := cz BK336 2 (.int .i64 t333); have hcz56_3 := cz BK336 3 (.bool t334); have hfz56_0 := fz BK336 0; have hfz56_1 := fz BK336 1; have hfz56_2 := fz BK336 2; have hfz56_3 := fz BK336 3) | ((with_reducible refine gate_store (t := 24) (p := 8) rfl ?_); refine store_event (t := 24) (p := 8) (v := ?vo_w57) (w1 := ((((w55.setCell ⟨gb336, 0, none⟩ (.int .i64 t349)).setCell ⟨gb336, 1, none⟩ (.int .i64 t350)).setCell ⟨gb336, 2, none⟩ (.int .i64 t351)).setCell ⟨gb336, 3, none⟩ (.bool t352))) ?hg ?ho ?hn ?hr ?_; (case ho => rfl); (case hg => rfl); (case hn => rfl); (case hr => first | (go_simp; done) | (go_simp; rfl) | (have hq0_ := (blk_cell BK336.out 0).trans (show _ = some _ from rfl); have hf0_ := blk_frozen BK336.out 0; have hq1_ := (blk_cell BK336.out 1).trans (show _ = some _ from rfl); have hf1_ := blk_frozen BK336.out 1; have hq2_ := (blk_cell BK336.out 2).trans (show _ = some _ from rfl); have hf2_ := blk_frozen BK336.out 2; have hq3_ := (blk_cell BK336.out 3).trans (show _ = some _ from rfl); have hf3_ := blk_frozen BK336.out 3; first | (go_simp; done) | (go_simp; rfl))); intro w57 hw; replace BK336 : Aside0 (w57.heap[gb336]? = some (.cells #[.int .i64 t349, .int .i64 t350, .int .i64 t351, .bool t352] 24 (0, 0))) := ⟨(by rw [hw]; exact (by refine bU ?_; refine blk_put (cs := #[.int .i64 t349, .int .i64 t350, .int .i64 t351, .bool t334]) ?_ 3 _ rfl; refine bU ?_; refine blk_put (cs := #[.int .i64 t349, .int .i64 t350, .int .i64 t333, .bool t334]) ?_ 2 _ rfl; refine bU ?_; refine blk_put (cs := #[.int .i64 t349, .int .i64 t332, .int .i64 t333, .bool t334]) ?_ 1 _ rfl; refine bU ?_; refine blk_put (cs := #[.int .i64 t331, .int .i64 t332, .int .i64 t333, .bool t334]) ?_ 0 _ rfl; refine bU ?_; exact BK336.out))⟩; replace BK342 : Aside0 (w57.heap[gb342]? = some (.cells #[.int .i64 t337, .int .i64 t338, .int .i64 t339, .bool t340] 24 (0, 0))) := ⟨(by rw [hw]; exact (bG NB342_336 BK342))⟩; replace BK348 : Aside0 (w57.heap[gb348]? = some (.cells #[.int .i64 t343, .int .i64 t344, .int .i64 t345, .bool t346] 24 (0, 0))) := ⟨(by rw [hw]; exact (bG NB348_336 BK348))⟩; replace HB : Aside0 (Below w.heap.size w w57) := ⟨(by rw [hw]; exact (lV3 GE336 GE342 GE348))⟩; clear hw))
         go_meet
         case rel => exact ⟨_, (false), (t349), (t350), (t351), (t352), tE, H', ⟨by have := HJ3.out; have := HJ11.out; first | omega | exact Nat.le_refl _⟩, ⟨by refine bU ?_; exact BK336.out⟩, ⟨by repeat (first | (with_reducible first | exact HB.out | apply below_alloc | apply pw_below_drewN | apply below_drew1 | refine below_set ?_ GE336.out | refine below_set ?_ GE342.out | refine below_set ?_ GE348.out) | exact HB.out)⟩⟩
       ·replace c19 := Bool.eq_false_iff.mpr c19
        subst c19
        have H1 : (impl_Hang.j2 kj11 l0 a1 a2 t335 t331 t332 t333 t334) = some (r1, r2) := by rw [if_neg (show ¬ (false = true) by decide)] at H; exact H
        clear H
        have H := H1
        clear H1
        have H' := Aside0.mk H
        clear H
        go_wp2
        go_meet
        case rel => exact ⟨_, (t335), (t331), (t332), (t333), (t334), tE, H', ⟨by have := HJ3.out; have := HJ11.out; first | omega | exact Nat.le_refl _⟩, ⟨by refine bU ?_; exact BK336.out⟩, ⟨by repeat (first | (with_reducible first | exact HB.out | apply below_alloc | apply pw_below_drewN | apply below_drew1 | refine below_set ?_ GE336.out) | exact HB.out)⟩⟩
      case rest =>
       clear HC18
       try clear c1
       try clear q1
       try clear c2
       try clear p2
       try clear q2
       try clear c3
       try clear q3
       try clear hf3
       try clear c4
       try clear c5
       try clear c6
       try clear p6
       try clear c7
       try clear c9
       try clear c10
       try clear c17
       try clear c17b0
       try clear c17b2
       try clear c19
       try clear c20
       try clear c22
       try clear c23
       try clear c26
       try clear c32
       try clear c33
       try clear c43
       try clear c49
       try clear c50
       try clear hcz15_0
       try clear hcz15_1
       try clear hcz15_2
       try clear hcz15_3
       try clear hcz27_0
       try clear hcz27_1
       try clear hcz27_2
       try clear hcz27_3
       try clear hcz29_0
       try clear hcz29_1
       try clear hcz29_2
       try clear hcz29_3
       try clear hcz34_0
       try clear hcz34_1
       try clear hcz34_2
       try clear hcz34_3
       try clear hcz36_0
       try clear hcz36_1
       try clear hcz36_2
       try clear hcz36_3
       try clear hcz37_0
       try clear hcz37_1
       try clear hcz37_2
       try clear hcz37_3
       try clear hcz39_0
       try clear hcz39_1
       try clear hcz39_2
       try clear hcz39_3
       try clear hcz44_0
       try clear hcz44_1
       try clear hcz44_2
       try clear hcz44_3
       try clear hcz46_0
       try clear hcz46_1
       try clear hcz46_2
       try clear hcz46_3
       try clear hcz51_0
       try clear hcz51_1
       try clear hcz51_2
       try clear hcz51_3
       try clear hcz53_0
       try clear hcz53_1
       try clear hcz53_2
       try clear hcz53_3
       try clear hcz54_0
       try clear hcz54_1
       try clear hcz54_2
       try clear hcz54_3
       try clear hcz56_0
       try clear hcz56_1
       try clear hcz56_2
       try clear hcz56_3
       try clear hfz15_0
       try clear hfz15_1
       try clear hfz15_2
       try clear hfz15_3
       try clear hfz27_0
       try clear hfz27_1
       try clear hfz27_2
       try clear hfz27_3
       try clear hfz29_0
       try clear hfz29_1
       try clear hfz29_2
       try clear hfz29_3
       try clear hfz34_0
       try clear hfz34_1
       try clear hfz34_2
       try clear hfz34_3
       try clear hfz36_0
       try clear hfz36_1
       try clear hfz36_2
       try clear hfz36_3
       try clear hfz37_0
       try clear hfz37_1
       try clear hfz37_2
       try clear hfz37_3
       try clear hfz39_0
       try clear hfz39_1
       try clear hfz39_2
       try clear hfz39_3
       try clear hfz44_0
       try clear hfz44_1
       try clear hfz44_2
       try clear hfz44_3
       try clear hfz46_0
       try clear hfz46_1
       try clear hfz46_2
       try clear hfz46_3
       try clear hfz51_0
       try clear hfz51_1
       try clear hfz51_2
       try clear hfz51_3
       try clear hfz53_0
       try clear hfz53_1
       try clear hfz53_2
       try clear hfz53_3
       try clear hfz54_0
       try clear hfz54_1
       try clear hfz54_2
       try clear hfz54_3
       try clear hfz56_0
       try clear hfz56_1
       try clear hfz56_2
       try clear hfz56_3
       try clear p2
       try clear p6
       try clear q1
       try clear q2
       try clear q3
       obtain ⟨kq, x9_17, x337000_17, x337001_17, x337002_17, x337003_17, rfl, HA, HJ17, BK336, HB⟩ := hcut
       cases kq with
       | zero => exact absurd HA.out (by simp [impl_Hang.j2])
       | succ kj17 =>
        have H := HA.out
        clear HA
        simp only [impl_Hang.j2] at H
        replace H := Option.bind_eq_some_iff.mp H
        obtain ⟨t354, A580, H⟩ := H
        replace H : (if 0 ≤ a1 then (if a1 < (l0.length : Int) then (if a1 < (t354.length : Int) then ((some (t354.set (a1 : Int).toNat (⟨(rd_T36 l0 a1).f0, a2, x337000_17, x337001_17, x337002_17, x337003_17⟩ : S36) : List (S36))).bind fun y358 => (if x9_17 = true then ((impl_GoodScene.f kj17 y358).bind fun t359 => (if t359 = true then (some (y358, true)) else (some (([] : List (S36)), false)))) else (some (([] : List (S36)), false)))) else (none)) else (none)) else (none)) = some (r1, r2) := H
        have A58 := Aside0.mk A580
        clear A580
        by_cases c59 : 0 ≤ a1
        ·rw [if_pos c59] at H
         have c59b0 : decide (0 ≤ a1) = true := decide_eq_true c59
         clear c59
         by_cases c60 : a1 < (l0.length : Int)
         ·rw [if_pos c60] at H
          have c60b0 : decide (a1 < (l0.length : Int)) = true := decide_eq_true c60
          clear c60
          by_cases c61 : a1 < (t354.length : Int)
          ·rw [if_pos c61] at H
           have c61b0 : decide (a1 < (t354.length : Int)) = true := decide_eq_true c61
           clear c61
           obtain ⟨y358, hy358⟩ : ∃ y_ : List (S36), y_ = (t354.set (a1 : Int).toNat (⟨(rd_T36 l0 a1).f0, a2, x337000_17, x337001_17, x337002_17, x337003_17⟩ : S36)) := ⟨_, rfl⟩
           replace H : (if x9_17 = true then ((impl_GoodScene.f kj17 y358).bind fun t359 => (if t359 = true then (some (y358, true)) else (some (([] : List (S36)), false)))) else (some (([] : List (S36)), false))) = some (r1, r2) := by first | (rw [hy358]; with_reducible exact H) | (have H2_ := (Option.bind_some _ _).symm.trans H; rw [hy358]; with_reducible exact H2_) | (have H2_ := (Option.bind_some _ _).symm.trans H; with_reducible exact H2_) | with_reducible exact H | (rw [hy358]; exact H) | exact H
           have Ny358 := Aside0.mk hy358
           clear hy358
           by_cases c63 : x9_17 = true
           ·subst c63
            have H1 : ((impl_GoodScene.f kj17 y358).bind fun t359 => (if t359 = true then (some (y358, true)) else (some (([] : List (S36)), false)))) = some (r1, r2) := by rw [if_pos rfl] at H; exact H
            clear H
            have H := H1
            clear H1
            replace H := Option.bind_eq_some_iff.mp H
            obtain ⟨t359, A640, H⟩ := H
            replace H : (if t359 = true then (some (y358, true)) else (some (([] : List (S36)), false))) = some (r1, r2) := H
            have A64 := Aside0.mk A640
            clear A640
            by_cases c65 : t359 = true
            ·subst c65
             have H1 : (some (y358, true)) = some (r1, r2) := by rw [if_pos rfl] at H; exact H
             clear H
             have H := H1
             clear H1
             simp only [Option.some.injEq, Prod.mk.injEq] at H
             obtain ⟨rfl, rfl⟩ := H
             try go_wp2_with (first | ((with_reducible refine gate_callee (f := 23) rfl ?_); refine goesL_ (some 59) rfl rfl Try.func23 (by kernel_rfl) rfl #[.slice A0 l0.length c0] rfl aE ?_; (with_reducible refine (impl_Node_23.calls _ _ l0 t354 _ ?side1 ?side2 A58.out).mono ?_); (case side1 => exact cU (Kd.C_below HR0.out HB.out)); (case side2 => exact HC0.out); rintro e w66 ⟨v355, rfl, ho0, hb⟩; refine ⟨_, rfl, ?_⟩; have HO356 := Aside0.mk (Kd.R_lower ho0 (below_size (lV1 GE336))); replace BK336 := bB (bV BK336) hb; replace HB := bH (lV1 GE336) hb; (try clear hb); (try clear ho0)))
             replace HO356 := Aside0.mk (Kd.R_drew HO356.out)
             replace BK336 := Aside0.mk (blk_drew BK336.out)
             replace HB := Aside0.mk (below_drew1 HB.out)
             have p357 : 0 ≤ (a1 : Int) := of_decide_eq_true hE
             have q357 : a1 < (l0.length : Int) := of_decide_eq_true hE
             obtain ⟨ad357, e357, hx357_0, hx357_1, hx357_2, hx357_3, hx357_4, hx357_5⟩ := at_T36 HR0.out a1 p357 q357
             have hw357_5 := hx357_5
             have hw357_4 := hx357_4
             have hw357_3 := hx357_3
             have hw357_2 := hx357_2
             have hw357_1 := hx357_1
             have hw357_0 := hx357_0
             cases e357
             replace hx357_0 := (HB.out.cell (World.block_lt_of_cell? w _ hx357_0)).trans hx357_0
             replace hx357_1 := (HB.out.cell (World.block_lt_of_cell? w _ hx357_1)).trans hx357_1
             replace hx357_2 := (HB.out.cell (World.block_lt_of_cell? w _ hx357_2)).trans hx357_2
             replace hx357_3 := (HB.out.cell (World.block_lt_of_cell? w _ hx357_3)).trans hx357_3
             replace hx357_4 := (HB.out.cell (World.block_lt_of_cell? w _ hx357_4)).trans hx357_4
             replace hx357_5 := (HB.out.cell (World.block_lt_of_cell? w _ hx357_5)).trans hx357_5
             replace p357 := eq_true p357
             replace q357 := eq_true q357
             have p62 : 0 ≤ (a1 : Int) := of_decide_eq_true hE
             have q62 : (a1 : Int) < ((t354.length : Int) : Int) := of_decide_eq_true hE
             obtain ⟨go62, co62, eo62, gb62, gl62, cl62, HG62⟩ := Kd.R_form HO356.out (by omega)
             (first | cases eo62 | (injection eo62 with ea_ en_ ec_; (first | subst ea_ | (injection ea_ with ea_; subst ea_)); subst ec_; clear en_))
             have GB62 := Aside0.mk gb62
             have GG62 := Aside0.mk HG62
             clear gb62 gl62 HG62
             obtain ⟨ce62, hcl62, hM62, hcc62, hfr62⟩ := Kd.R_elem HO356.out z36 (a1 : Int) p62 q62
             obtain rfl := k36_openM hM62
             have hx62_0 : World.cell? _ ⟨go62, (a1 : Int).toNat * 6, none⟩ = some (.string ((rd_T36 t354 a1).f0)) := hcc62 0 _ rfl
             have hx62_1 : World.cell? _ ⟨go62, (a1 : Int).toNat * 6 + 1, none⟩ = some (.int .i64 ((rd_T36 t354 a1).f1)) := hcc62 1 _ rfl
             have hx62_2 : World.cell? _ ⟨go62, (a1 : Int).toNat * 6 + 2, none⟩ = some (.int .i64 ((rd_T36 t354 a1).f2)) := hcc62 2 _ rfl
             have hx62_3 : World.cell? _ ⟨go62, (a1 : Int).toNat * 6 + 3, none⟩ = some (.int .i64 ((rd_T36 t354 a1).f3)) := hcc62 3 _ rfl
             have hx62_4 : World.cell? _ ⟨go62, (a1 : Int).toNat * 6 + 4, none⟩ = some (.int .i64 ((rd_T36 t354 a1).f4)) := hcc62 4 _ rfl
             have hx62_5 : World.cell? _ ⟨go62, (a1 : Int).toNat * 6 + 5, none⟩ = some (.bool ((rd_T36 t354 a1).f5)) := hcc62 5 _ rfl
             have hf62_0 : World.frozen? _ ⟨go62, (a1 : Int).toNat * 6, none⟩ = false := hfr62 0
             have hf62_1 : World.frozen? _ ⟨go62, (a1 : Int).toNat * 6 + 1, none⟩ = false := hfr62 1
             have hf62_2 : World.frozen? _ ⟨go62, (a1 : Int).toNat * 6 + 2, none⟩ = false := hfr62 2
             have hf62_3 : World.frozen? _ ⟨go62, (a1 : Int).toNat * 6 + 3, none⟩ = false := hfr62 3
             have hf62_4 : World.frozen? _ ⟨go62, (a1 : Int).toNat * 6 + 4, none⟩ = false := hfr62 4
             have hf62_5 : World.frozen? _ ⟨go62, (a1 : Int).toNat * 6 + 5, none⟩ = false := hfr62 5
             (try clear hcl62)
             (try clear hcc62)
             (try clear hfr62)
             (try clear hM62)
             replace p62 := eq_true p62
             replace q62 := eq_true q62
             obtain ⟨ce68, hcl68, hM68, hcc68, hfr68⟩ := Kd.R_elem HO356.out z36 (a1 : Int) (of_decide_eq_true hE) (by have h_ : (a1 : Int) < ((t354.length : Int) : Int) := of_decide_eq_true hE; first | exact h_ | (have e_ := (Kd.R_reads' HO356.out).1; omega) | simpa using h_)
             obtain rfl := k36_openM hM68
             have HP68 := (Kd.R_seg HO356.out (a1 : Int) (of_decide_eq_true hE) (by have h_ : (a1 : Int) < ((t354.length : Int) : Int) := of_decide_eq_true hE; first | exact h_ | (have e_ := (Kd.R_reads' HO356.out).1; omega) | simpa using h_) (seg := [.string ((rd_T36 l0 a1).f0), .int .i64 a2, .int .i64 x337000_17, .int .i64 x337001_17, .int .i64 x337002_17, .bool x337003_17]) (j := 0) hcl68 hcc68 (show 6 ≤ 6 from by decide) (x' := (⟨(rd_T36 l0 a1).f0, a2, x337000_17, x337001_17, x337002_17, x337003_17⟩ : S36)) (k36_mkM _ _ _ (⟨(rd_T36 l0 a1).f0, a2, x337000_17, x337001_17, x337002_17, x337003_17⟩ : S36) ) (fun _ hk => hk)).1
             rw [← Ny358.out] at HP68
             have HQ68 := Aside0.mk HP68
             clear hcl68 hcc68 hfr68 hM68 HP68
             refine start_ (n := 19) (S := fun w' => w'.cell? ⟨gb336, 0, none⟩ = some (.int .i64 x337000_17) ∧ w'.cell? ⟨gb336, 1, none⟩ = some (.int .i64 x337001_17) ∧ w'.cell? ⟨gb336, 2, none⟩ = some (.int .i64 x337002_17) ∧ w'.cell? ⟨gb336, 3, none⟩ = some (.bool x337003_17) ∧ w'.cell? (ad357.add ((a1).toNat * 6)) = some (.string ((rd_T36 l0 a1).f0)) ∧ w'.cell? ⟨(ad357.add ((a1).toNat * 6)).block, (ad357.add ((a1).toNat * 6)).off + 1, none⟩ = some (.int .i64 ((rd_T36 l0 a1).f1)) ∧ w'.cell? ⟨(ad357.add ((a1).toNat * 6)).block, (ad357.add ((a1).toNat * 6)).off + 2, none⟩ = some (.int .i64 ((rd_T36 l0 a1).f2)) ∧ w'.cell? ⟨(ad357.add ((a1).toNat * 6)).block, (ad357.add ((a1).toNat * 6)).off + 3, none⟩ = some (.int .i64 ((rd_T36 l0 a1).f3)) ∧ w'.cell? ⟨(ad357.add ((a1).toNat * 6)).block, (ad357.add ((a1).toNat * 6)).off + 4, none⟩ = some (.int .i64 ((rd_T36 l0 a1).f4)) ∧ w'.cell? ⟨(ad357.add ((a1).toNat * 6)).block, (ad357.add ((a1).toNat * 6)).off + 5, none⟩ = some (.bool ((rd_T36 l0 a1).f5))) (ds := [18]) #[false, false, false, false, false, false, false, false, false, false, false, false, false, false, false, false, false, false, false] (by kernel_rfl) rfl rfl ⟨cz BK336 0 _, cz BK336 1 _, cz BK336 2 _, cz BK336 3 _, ((HB.out.cell (World.block_lt_of_cell? w _ hw357_0)).trans hw357_0), ((HB.out.cell (World.block_lt_of_cell? w _ hw357_1)).trans hw357_1), ((HB.out.cell (World.block_lt_of_cell? w _ hw357_2)).trans hw357_2), ((HB.out.cell (World.block_lt_of_cell? w _ hw357_3)).trans hw357_3), ((HB.out.cell (World.block_lt_of_cell? w _ hw357_4)).trans hw357_4), ((HB.out.cell (World.block_lt_of_cell? w _ hw357_5)).trans hw357_5)⟩ (fun hHeld => ?_); refine with_tabW impl_Hang.tab10 impl_Hang.bits10 (fun HT_ HW_ => ?_)
             generalize w66.drew = w67 at HO356 BK336 HB GG62 HQ68 hf62_0 hf62_1 hf62_2 hf62_3 hf62_4 hf62_5 hx357_0 hx357_1 hx357_2 hx357_3 hx357_4 hx357_5 hx62_0 hx62_1 hx62_2 hx62_3 hx62_4 hx62_5 hHeld ⊢
             refine pureA 0 60 (bz 19 1) rfl rfl (any_of HT_.out (by kernel_rfl)) ?_
             refine pureA 1 61 (bz 19 3) rfl rfl (any_of HT_.out (by kernel_rfl)) ?_
             refine pureA 2 62 (bz 19 7) rfl rfl (any_of HT_.out (by kernel_rfl)) ?_
             refine pureA 3 63 (bz 19 15) rfl rfl (any_of HT_.out (by kernel_rfl)) ?_
             refine pureA 4 64 (bz 19 31) rfl rfl (any_of HT_.out (by kernel_rfl)) ?_
             refine pureA 5 65 (bz 19 63) rfl rfl (any_of HT_.out (by kernel_rfl)) ?_
             refine pureA 7 67 (bz 19 191) rfl rfl (any_of HT_.out (by kernel_rfl)) ?_
             refine pureA 8 68 (bz 19 447) rfl rfl (any_of HT_.out (by kernel_rfl)) ?_
             refine pureA 10 70 (bz 19 1471) rfl rfl (any_of HT_.out (by kernel_rfl)) ?_
             refine pureA 12 72 (bz 19 5567) rfl rfl (any_of HT_.out (by kernel_rfl)) ?_
             refine pureA 14 74 (bz 19 21951) rfl rfl (any_of HT_.out (by kernel_rfl)) ?_
             refine takeA 6 66 (bz 19 22015) rfl rfl (take_ofW HT_.out HW_.out (by kernel_rfl)) hHeld (by rintro w' ⟨s0, s1, s2, s3, s4, s5, s6, s7, s8, s9⟩; go_simp; with_reducible rfl) ?_
             refine takeA 9 69 (bz 19 22527) rfl rfl (take_ofW HT_.out HW_.out (by kernel_rfl)) hHeld (by rintro w' ⟨s0, s1, s2, s3, s4, s5, s6, s7, s8, s9⟩; go_simp; with_reducible rfl) ?_
             refine takeA 11 71 (bz 19 24575) rfl rfl (take_ofW HT_.out HW_.out (by kernel_rfl)) hHeld (by rintro w' ⟨s0, s1, s2, s3, s4, s5, s6, s7, s8, s9⟩; go_simp; with_reducible rfl) ?_
             refine takeA 13 73 (bz 19 32767) rfl rfl (take_ofW HT_.out HW_.out (by kernel_rfl)) hHeld (by rintro w' ⟨s0, s1, s2, s3, s4, s5, s6, s7, s8, s9⟩; go_simp; with_reducible rfl) ?_
             refine takeA 15 75 (bz 19 65535) rfl rfl (take_ofW HT_.out HW_.out (by kernel_rfl)) hHeld (by rintro w' ⟨s0, s1, s2, s3, s4, s5, s6, s7, s8, s9⟩; go_simp; with_reducible rfl) ?_
             refine pureA 16 76 (bz 19 131071) rfl rfl (any_of HT_.out (by kernel_rfl)) ?_
             refine pureA 17 77 (bz 19 262143) rfl rfl (any_of HT_.out (by kernel_rfl)) ?_
             refine last_ (i := 18) (N := none) (bz 19 524287) rfl rfl (one_of HT_.out (by kernel_rfl)) (by decide) (fun K hK => ?_)
             refine skip_ (w1 := ?_) (by rfl) rfl ?_ ?_
             rotate_left
             ·go_simp
              rfl
             refine hK.out _ _ ?_
             clear hK K
             refine done_ (done_of HT_.out (by kernel_rfl)) ?_
             try go_wp2_with (first | (go_at_call 24; refine calls_of_args (args' := #[.slice (some ⟨go62, 0, none⟩) y358.length co62]) (by first | (rw [show y358.length = t354.length from (Kd.R_reads' HQ68.out).1.symm] <;> rfl) | rfl) ?_; (with_reducible refine (impl_GoodScene.calls kj17 _ _ y358 true _ ?side1 ?side2 A64.out).mono ?_); (case side1 => refine (Kd.R_reads' (e := 36) (base := w.heap.size) (ok := fun k_ => True) (n := t354.length) (c := co62) ?_).2.2; exact (rU HQ68.out)); (case side2 => rw [show y358.length = t354.length from (Kd.R_reads' HQ68.out).1.symm]; exact (Kd.R_reads' HO356.out).2.1); rintro e w69 ⟨rfl, hb⟩; replace BK336 := Aside0.mk (blk_below (g := gb336) (o := .cells #[.int .i64 x337000_17, .int .i64 x337001_17, .int .i64 x337002_17, .bool x337003_17] 24 (0, 0)) (by refine bU ?_; refine blk_far ?_ (by have h_ := Kd.R_ne HO356.out BK336.out (by decide); intro e_; exact h_ (by rw [e_]; rfl)) _; refine bU ?_; refine blk_far ?_ (by have h_ := Kd.R_ne HO356.out BK336.out (by decide); intro e_; exact h_ (by rw [e_]; rfl)) _; refine bU ?_; refine blk_far ?_ (by have h_ := Kd.R_ne HO356.out BK336.out (by decide); intro e_; exact h_ (by rw [e_]; rfl)) _; refine bU ?_; refine blk_far ?_ (by have h_ := Kd.R_ne HO356.out BK336.out (by decide); intro e_; exact h_ (by rw [e_]; rfl)) _; refine bU ?_; refine blk_far ?_ (by have h_ := Kd.R_ne HO356.out BK336.out (by decide); intro e_; exact h_ (by rw [e_]; rfl)) _; refine bU ?_; refine blk_far ?_ (by have h_ := Kd.R_ne HO356.out BK336.out (by decide); intro e_; exact h_ (by rw [e_]; rfl)) _; refine bU ?_; exact BK336.out) hb); replace HO356 := Aside0.mk (Kd.R_below (rU HQ68.out) hb); replace HB := bH (lV7 GB62 GB62 GB62 GB62 GB62 GB62 GE336) hb; (try clear hb)))
             go_ret2
             exact ⟨_, eE, by (with_reducible repeat (first | apply Kd.R_alloc | apply Kd.R_drewN | apply Kd.R_drew)); exact HO356.out, lV1 GE336⟩
            ·replace c65 := Bool.eq_false_iff.mpr c65
             subst c65
             have H1 : (some (([] : List (S36)), false)) = some (r1, r2) := by rw [if_neg (show ¬ (false = true) by decide)] at H; exact H
             clear H
             have H := H1
             clear H1
             simp only [Option.some.injEq, Prod.mk.injEq] at H
             obtain ⟨rfl, rfl⟩ := H
             try go_wp2_with (first | ((with_reducible refine gate_callee (f := 23) rfl ?_); refine goesL_ (some 59) rfl rfl Try.func23 (by kernel_rfl) rfl #[.slice A0 l0.length c0] rfl aE ?_; (with_reducible refine (impl_Node_23.calls _ _ l0 t354 _ ?side1 ?side2 A58.out).mono ?_); (case side1 => exact cU (Kd.C_below HR0.out HB.out)); (case side2 => exact HC0.out); rintro e w70 ⟨v355, rfl, ho0, hb⟩; refine ⟨_, rfl, ?_⟩; have HO356 := Aside0.mk (Kd.R_lower ho0 (below_size (lV1 GE336))); replace BK336 := bB (bV BK336) hb; replace HB := bH (lV1 GE336) hb; (try clear hb); (try clear ho0)))
             replace HO356 := Aside0.mk (Kd.R_drew HO356.out)
             replace BK336 := Aside0.mk (blk_drew BK336.out)
             replace HB := Aside0.mk (below_drew1 HB.out)
             have p357 : 0 ≤ (a1 : Int) := of_decide_eq_true hE
             have q357 : a1 < (l0.length : Int) := of_decide_eq_true hE
             obtain ⟨ad357, e357, hx357_0, hx357_1, hx357_2, hx357_3, hx357_4, hx357_5⟩ := at_T36 HR0.out a1 p357 q357
             have hw357_5 := hx357_5
             have hw357_4 := hx357_4
             have hw357_3 := hx357_3
             have hw357_2 := hx357_2
             have hw357_1 := hx357_1
             have hw357_0 := hx357_0
             cases e357
             replace hx357_0 := (HB.out.cell (World.block_lt_of_cell? w _ hx357_0)).trans hx357_0
             replace hx357_1 := (HB.out.cell (World.block_lt_of_cell? w _ hx357_1)).trans hx357_1
             replace hx357_2 := (HB.out.cell (World.block_lt_of_cell? w _ hx357_2)).trans hx357_2
             replace hx357_3 := (HB.out.cell (World.block_lt_of_cell? w _ hx357_3)).trans hx357_3
             replace hx357_4 := (HB.out.cell (World.block_lt_of_cell? w _ hx357_4)).trans hx357_4
             replace hx357_5 := (HB.out.cell (World.block_lt_of_cell? w _ hx357_5)).trans hx357_5
             replace p357 := eq_true p357
             replace q357 := eq_true q357
             have p62 : 0 ≤ (a1 : Int) := of_decide_eq_true hE
             have q62 : (a1 : Int) < ((t354.length : Int) : Int) := of_decide_eq_true hE
             obtain ⟨go62, co62, eo62, gb62, gl62, cl62, HG62⟩ := Kd.R_form HO356.out (by omega)
             (first | cases eo62 | (injection eo62 with ea_ en_ ec_; (first | subst ea_ | (injection ea_ with ea_; subst ea_)); subst ec_; clear en_))
             have GB62 := Aside0.mk gb62
             have GG62 := Aside0.mk HG62
             clear gb62 gl62 HG62
             obtain ⟨ce62, hcl62, hM62, hcc62, hfr62⟩ := Kd.R_elem HO356.out z36 (a1 : Int) p62 q62
             obtain rfl := k36_openM hM62
             have hx62_0 : World.cell? _ ⟨go62, (a1 : Int).toNat * 6, none⟩ = some (.string ((rd_T36 t354 a1).f0)) := hcc62 0 _ rfl
             have hx62_1 : World.cell? _ ⟨go62, (a1 : Int).toNat * 6 + 1, none⟩ = some (.int .i64 ((rd_T36 t354 a1).f1)) := hcc62 1 _ rfl
             have hx62_2 : World.cell? _ ⟨go62, (a1 : Int).toNat * 6 + 2, none⟩ = some (.int .i64 ((rd_T36 t354 a1).f2)) := hcc62 2 _ rfl
             have hx62_3 : World.cell? _ ⟨go62, (a1 : Int).toNat * 6 + 3, none⟩ = some (.int .i64 ((rd_T36 t354 a1).f3)) := hcc62 3 _ rfl
             have hx62_4 : World.cell? _ ⟨go62, (a1 : Int).toNat * 6 + 4, none⟩ = some (.int .i64 ((rd_T36 t354 a1).f4)) := hcc62 4 _ rfl
             have hx62_5 : World.cell? _ ⟨go62, (a1 : Int).toNat * 6 + 5, none⟩ = some (.bool ((rd_T36 t354 a1).f5)) := hcc62 5 _ rfl
             have hf62_0 : World.frozen? _ ⟨go62, (a1 : Int).toNat * 6, none⟩ = false := hfr62 0
             have hf62_1 : World.frozen? _ ⟨go62, (a1 : Int).toNat * 6 + 1, none⟩ = false := hfr62 1
             have hf62_2 : World.frozen? _ ⟨go62, (a1 : Int).toNat * 6 + 2, none⟩ = false := hfr62 2
             have hf62_3 : World.frozen? _ ⟨go62, (a1 : Int).toNat * 6 + 3, none⟩ = false := hfr62 3
             have hf62_4 : World.frozen? _ ⟨go62, (a1 : Int).toNat * 6 + 4, none⟩ = false := hfr62 4
             have hf62_5 : World.frozen? _ ⟨go62, (a1 : Int).toNat * 6 + 5, none⟩ = false := hfr62 5
             (try clear hcl62)
             (try clear hcc62)
             (try clear hfr62)
             (try clear hM62)
             replace p62 := eq_true p62
             replace q62 := eq_true q62
             obtain ⟨ce72, hcl72, hM72, hcc72, hfr72⟩ := Kd.R_elem HO356.out z36 (a1 : Int) (of_decide_eq_true hE) (by have h_ : (a1 : Int) < ((t354.length : Int) : Int) := of_decide_eq_true hE; first | exact h_ | (have e_ := (Kd.R_reads' HO356.out).1; omega) | simpa using h_)
             obtain rfl := k36_openM hM72
             have HP72 := (Kd.R_seg HO356.out (a1 : Int) (of_decide_eq_true hE) (by have h_ : (a1 : Int) < ((t354.length : Int) : Int) := of_decide_eq_true hE; first | exact h_ | (have e_ := (Kd.R_reads' HO356.out).1; omega) | simpa using h_) (seg := [.string ((rd_T36 l0 a1).f0), .int .i64 a2, .int .i64 x337000_17, .int .i64 x337001_17, .int .i64 x337002_17, .bool x337003_17]) (j := 0) hcl72 hcc72 (show 6 ≤ 6 from by decide) (x' := (⟨(rd_T36 l0 a1).f0, a2, x337000_17, x337001_17, x337002_17, x337003_17⟩ : S36)) (k36_mkM _ _ _ (⟨(rd_T36 l0 a1).f0, a2, x337000_17, x337001_17, x337002_17, x337003_17⟩ : S36) ) (fun _ hk => hk)).1
             rw [← Ny358.out] at HP72
             have HQ72 := Aside0.mk HP72
             clear hcl72 hcc72 hfr72 hM72 HP72
             refine start_ (n := 19) (S := fun w' => w'.cell? ⟨gb336, 0, none⟩ = some (.int .i64 x337000_17) ∧ w'.cell? ⟨gb336, 1, none⟩ = some (.int .i64 x337001_17) ∧ w'.cell? ⟨gb336, 2, none⟩ = some (.int .i64 x337002_17) ∧ w'.cell? ⟨gb336, 3, none⟩ = some (.bool x337003_17) ∧ w'.cell? (ad357.add ((a1).toNat * 6)) = some (.string ((rd_T36 l0 a1).f0)) ∧ w'.cell? ⟨(ad357.add ((a1).toNat * 6)).block, (ad357.add ((a1).toNat * 6)).off + 1, none⟩ = some (.int .i64 ((rd_T36 l0 a1).f1)) ∧ w'.cell? ⟨(ad357.add ((a1).toNat * 6)).block, (ad357.add ((a1).toNat * 6)).off + 2, none⟩ = some (.int .i64 ((rd_T36 l0 a1).f2)) ∧ w'.cell? ⟨(ad357.add ((a1).toNat * 6)).block, (ad357.add ((a1).toNat * 6)).off + 3, none⟩ = some (.int .i64 ((rd_T36 l0 a1).f3)) ∧ w'.cell? ⟨(ad357.add ((a1).toNat * 6)).block, (ad357.add ((a1).toNat * 6)).off + 4, none⟩ = some (.int .i64 ((rd_T36 l0 a1).f4)) ∧ w'.cell? ⟨(ad357.add ((a1).toNat * 6)).block, (ad357.add ((a1).toNat * 6)).off + 5, none⟩ = some (.bool ((rd_T36 l0 a1).f5))) (ds := [18]) #[false, false, false, false, false, false, false, false, false, false, false, false, false, false, false, false, false, false, false] (by kernel_rfl) rfl rfl ⟨cz BK336 0 _, cz BK336 1 _, cz BK336 2 _, cz BK336 3 _, ((HB.out.cell (World.block_lt_of_cell? w _ hw357_0)).trans hw357_0), ((HB.out.cell (World.block_lt_of_cell? w _ hw357_1)).trans hw357_1), ((HB.out.cell (World.block_lt_of_cell? w _ hw357_2)).trans hw357_2), ((HB.out.cell (World.block_lt_of_cell? w _ hw357_3)).trans hw357_3), ((HB.out.cell (World.block_lt_of_cell? w _ hw357_4)).trans hw357_4), ((HB.out.cell (World.block_lt_of_cell? w _ hw357_5)).trans hw357_5)⟩ (fun hHeld => ?_); refine with_tabW impl_Hang.tab10 impl_Hang.bits10 (fun HT_ HW_ => ?_)
             generalize w70.drew = w71 at HO356 BK336 HB GG62 HQ72 hf62_0 hf62_1 hf62_2 hf62_3 hf62_4 hf62_5 hx357_0 hx357_1 hx357_2 hx357_3 hx357_4 hx357_5 hx62_0 hx62_1 hx62_2 hx62_3 hx62_4 hx62_5 hHeld ⊢
             refine pureA 0 60 (bz 19 1) rfl rfl (any_of HT_.out (by kernel_rfl)) ?_
             refine pureA 1 61 (bz 19 3) rfl rfl (any_of HT_.out (by kernel_rfl)) ?_
             refine pureA 2 62 (bz 19 7) rfl rfl (any_of HT_.out (by kernel_rfl)) ?_
             refine pureA 3 63 (bz 19 15) rfl rfl (any_of HT_.out (by kernel_rfl)) ?_
             refine pureA 4 64 (bz 19 31) rfl rfl (any_of HT_.out (by kernel_rfl)) ?_
             refine pureA 5 65 (bz 19 63) rfl rfl (any_of HT_.out (by kernel_rfl)) ?_
             refine pureA 7 67 (bz 19 191) rfl rfl (any_of HT_.out (by kernel_rfl)) ?_
             refine pureA 8 68 (bz 19 447) rfl rfl (any_of HT_.out (by kernel_rfl)) ?_
             refine pureA 10 70 (bz 19 1471) rfl rfl (any_of HT_.out (by kernel_rfl)) ?_
             refine pureA 12 72 (bz 19 5567) rfl rfl (any_of HT_.out (by kernel_rfl)) ?_
             refine pureA 14 74 (bz 19 21951) rfl rfl (any_of HT_.out (by kernel_rfl)) ?_
             refine takeA 6 66 (bz 19 22015) rfl rfl (take_ofW HT_.out HW_.out (by kernel_rfl)) hHeld (by rintro w' ⟨s0, s1, s2, s3, s4, s5, s6, s7, s8, s9⟩; go_simp; with_reducible rfl) ?_
             refine takeA 9 69 (bz 19 22527) rfl rfl (take_ofW HT_.out HW_.out (by kernel_rfl)) hHeld (by rintro w' ⟨s0, s1, s2, s3, s4, s5, s6, s7, s8, s9⟩; go_simp; with_reducible rfl) ?_
             refine takeA 11 71 (bz 19 24575) rfl rfl (take_ofW HT_.out HW_.out (by kernel_rfl)) hHeld (by rintro w' ⟨s0, s1, s2, s3, s4, s5, s6, s7, s8, s9⟩; go_simp; with_reducible rfl) ?_
             refine takeA 13 73 (bz 19 32767) rfl rfl (take_ofW HT_.out HW_.out (by kernel_rfl)) hHeld (by rintro w' ⟨s0, s1, s2, s3, s4, s5, s6, s7, s8, s9⟩; go_simp; with_reducible rfl) ?_
             refine takeA 15 75 (bz 19 65535) rfl rfl (take_ofW HT_.out HW_.out (by kernel_rfl)) hHeld (by rintro w' ⟨s0, s1, s2, s3, s4, s5, s6, s7, s8, s9⟩; go_simp; with_reducible rfl) ?_
             refine pureA 16 76 (bz 19 131071) rfl rfl (any_of HT_.out (by kernel_rfl)) ?_
             refine pureA 17 77 (bz 19 262143) rfl rfl (any_of HT_.out (by kernel_rfl)) ?_
             refine last_ (i := 18) (N := none) (bz 19 524287) rfl rfl (one_of HT_.out (by kernel_rfl)) (by decide) (fun K hK => ?_)
             refine skip_ (w1 := ?_) (by rfl) rfl ?_ ?_
             rotate_left
             ·go_simp
              rfl
             refine hK.out _ _ ?_
             clear hK K
             refine done_ (done_of HT_.out (by kernel_rfl)) ?_
             try go_wp2_with (first | (go_at_call 24; refine calls_of_args (args' := #[.slice (some ⟨go62, 0, none⟩) y358.length co62]) (by first | (rw [show y358.length = t354.length from (Kd.R_reads' HQ72.out).1.symm] <;> rfl) | rfl) ?_; (with_reducible refine (impl_GoodScene.calls kj17 _ _ y358 false _ ?side1 ?side2 A64.out).mono ?_); (case side1 => refine (Kd.R_reads' (e := 36) (base := w.heap.size) (ok := fun k_ => True) (n := t354.length) (c := co62) ?_).2.2; exact (rU HQ72.out)); (case side2 => rw [show y358.length = t354.length from (Kd.R_reads' HQ72.out).1.symm]; exact (Kd.R_reads' HO356.out).2.1); rintro e w73 ⟨rfl, hb⟩; replace BK336 := Aside0.mk (blk_below (g := gb336) (o := .cells #[.int .i64 x337000_17, .int .i64 x337001_17, .int .i64 x337002_17, .bool x337003_17] 24 (0, 0)) (by refine bU ?_; refine blk_far ?_ (by have h_ := Kd.R_ne HO356.out BK336.out (by decide); intro e_; exact h_ (by rw [e_]; rfl)) _; refine bU ?_; refine blk_far ?_ (by have h_ := Kd.R_ne HO356.out BK336.out (by decide); intro e_; exact h_ (by rw [e_]; rfl)) _; refine bU ?_; refine blk_far ?_ (by have h_ := Kd.R_ne HO356.out BK336.out (by decide); intro e_; exact h_ (by rw [e_]; rfl)) _; refine bU ?_; refine blk_far ?_ (by have h_ := Kd.R_ne HO356.out BK336.out (by decide); intro e_; exact h_ (by rw [e_]; rfl)) _; refine bU ?_; refine blk_far ?_ (by have h_ := Kd.R_ne HO356.out BK336.out (by decide); intro e_; exact h_ (by rw [e_]; rfl)) _; refine bU ?_; refine blk_far ?_ (by have h_ := Kd.R_ne HO356.out BK336.out (by decide); intro e_; exact h_ (by rw [e_]; rfl)) _; refine bU ?_; exact BK336.out) hb); replace HO356 := Aside0.mk (Kd.R_below (rU HQ72.out) hb); replace HB := bH (lV7 GB62 GB62 GB62 GB62 GB62 GB62 GE336) hb; (try clear hb)))
             go_ret2
             exact ⟨_, eE, by first | exact Kd.R_nil _ _ _ _ _ | exact Kd.N_nil _ _ _ _ _ | exact Kd.V_nil _ _ _ _ _ | exact Kd.Q_nil _ _ _ _ _ | exact Kd.S_nil _ _ _ _ _, lV1 GE336⟩
           ·replace c63 := Bool.eq_false_iff.mpr c63
            subst c63
            have H1 : (some (([] : List (S36)), false)) = some (r1, r2) := by rw [if_neg (show ¬ (false = true) by decide)] at H; exact H
            clear H
            have H := H1
            clear H1
            simp only [Option.some.injEq, Prod.mk.injEq] at H
            obtain ⟨rfl, rfl⟩ := H
            try go_wp2_with (first | ((with_reducible refine gate_callee (f := 23) rfl ?_); refine goesL_ (some 59) rfl rfl Try.func23 (by kernel_rfl) rfl #[.slice A0 l0.length c0] rfl aE ?_; (with_reducible refine (impl_Node_23.calls _ _ l0 t354 _ ?side1 ?side2 A58.out).mono ?_); (case side1 => exact cU (Kd.C_below HR0.out HB.out)); (case side2 => exact HC0.out); rintro e w74 ⟨v355, rfl, ho0, hb⟩; refine ⟨_, rfl, ?_⟩; have HO356 := Aside0.mk (Kd.R_lower ho0 (below_size (lV1 GE336))); replace BK336 := bB (bV BK336) hb; replace HB := bH (lV1 GE336) hb; (try clear hb); (try clear ho0)))
            replace HO356 := Aside0.mk (Kd.R_drew HO356.out)
            replace BK336 := Aside0.mk (blk_drew BK336.out)
            replace HB := Aside0.mk (below_drew1 HB.out)
            have p357 : 0 ≤ (a1 : Int) := of_decide_eq_true hE
            have q357 : a1 < (l0.length : Int) := of_decide_eq_true hE
            obtain ⟨ad357, e357, hx357_0, hx357_1, hx357_2, hx357_3, hx357_4, hx357_5⟩ := at_T36 HR0.out a1 p357 q357
            have hw357_5 := hx357_5
            have hw357_4 := hx357_4
            have hw357_3 := hx357_3
            have hw357_2 := hx357_2
            have hw357_1 := hx357_1
            have hw357_0 := hx357_0
            cases e357
            replace hx357_0 := (HB.out.cell (World.block_lt_of_cell? w _ hx357_0)).trans hx357_0
            replace hx357_1 := (HB.out.cell (World.block_lt_of_cell? w _ hx357_1)).trans hx357_1
            replace hx357_2 := (HB.out.cell (World.block_lt_of_cell? w _ hx357_2)).trans hx357_2
            replace hx357_3 := (HB.out.cell (World.block_lt_of_cell? w _ hx357_3)).trans hx357_3
            replace hx357_4 := (HB.out.cell (World.block_lt_of_cell? w _ hx357_4)).trans hx357_4
            replace hx357_5 := (HB.out.cell (World.block_lt_of_cell? w _ hx357_5)).trans hx357_5
            replace p357 := eq_true p357
            replace q357 := eq_true q357
            have p62 : 0 ≤ (a1 : Int) := of_decide_eq_true hE
            have q62 : (a1 : Int) < ((t354.length : Int) : Int) := of_decide_eq_true hE
            obtain ⟨go62, co62, eo62, gb62, gl62, cl62, HG62⟩ := Kd.R_form HO356.out (by omega)
            (first | cases eo62 | (injection eo62 with ea_ en_ ec_; (first | subst ea_ | (injection ea_ with ea_; subst ea_)); subst ec_; clear en_))
            have GB62 := Aside0.mk gb62
            have GG62 := Aside0.mk HG62
            clear gb62 gl62 HG62
            obtain ⟨ce62, hcl62, hM62, hcc62, hfr62⟩ := Kd.R_elem HO356.out z36 (a1 : Int) p62 q62
            obtain rfl := k36_openM hM62
            have hx62_0 : World.cell? _ ⟨go62, (a1 : Int).toNat * 6, none⟩ = some (.string ((rd_T36 t354 a1).f0)) := hcc62 0 _ rfl
            have hx62_1 : World.cell? _ ⟨go62, (a1 : Int).toNat * 6 + 1, none⟩ = some (.int .i64 ((rd_T36 t354 a1).f1)) := hcc62 1 _ rfl
            have hx62_2 : World.cell? _ ⟨go62, (a1 : Int).toNat * 6 + 2, none⟩ = some (.int .i64 ((rd_T36 t354 a1).f2)) := hcc62 2 _ rfl
            have hx62_3 : World.cell? _ ⟨go62, (a1 : Int).toNat * 6 + 3, none⟩ = some (.int .i64 ((rd_T36 t354 a1).f3)) := hcc62 3 _ rfl
            have hx62_4 : World.cell? _ ⟨go62, (a1 : Int).toNat * 6 + 4, none⟩ = some (.int .i64 ((rd_T36 t354 a1).f4)) := hcc62 4 _ rfl
            have hx62_5 : World.cell? _ ⟨go62, (a1 : Int).toNat * 6 + 5, none⟩ = some (.bool ((rd_T36 t354 a1).f5)) := hcc62 5 _ rfl
            have hf62_0 : World.frozen? _ ⟨go62, (a1 : Int).toNat * 6, none⟩ = false := hfr62 0
            have hf62_1 : World.frozen? _ ⟨go62, (a1 : Int).toNat * 6 + 1, none⟩ = false := hfr62 1
            have hf62_2 : World.frozen? _ ⟨go62, (a1 : Int).toNat * 6 + 2, none⟩ = false := hfr62 2
            have hf62_3 : World.frozen? _ ⟨go62, (a1 : Int).toNat * 6 + 3, none⟩ = false := hfr62 3
            have hf62_4 : World.frozen? _ ⟨go62, (a1 : Int).toNat * 6 + 4, none⟩ = false := hfr62 4
            have hf62_5 : World.frozen? _ ⟨go62, (a1 : Int).toNat * 6 + 5, none⟩ = false := hfr62 5
            (try clear hcl62)
            (try clear hcc62)
            (try clear hfr62)
            (try clear hM62)
            replace p62 := eq_true p62
            replace q62 := eq_true q62
            obtain ⟨ce76, hcl76, hM76, hcc76, hfr76⟩ := Kd.R_elem HO356.out z36 (a1 : Int) (of_decide_eq_true hE) (by have h_ : (a1 : Int) < ((t354.length : Int) : Int) := of_decide_eq_true hE; first | exact h_ | (have e_ := (Kd.R_reads' HO356.out).1; omega) | simpa using h_)
            obtain rfl := k36_openM hM76
            have HP76 := (Kd.R_seg HO356.out (a1 : Int) (of_decide_eq_true hE) (by have h_ : (a1 : Int) < ((t354.length : Int) : Int) := of_decide_eq_true hE; first | exact h_ | (have e_ := (Kd.R_reads' HO356.out).1; omega) | simpa using h_) (seg := [.string ((rd_T36 l0 a1).f0), .int .i64 a2, .int .i64 x337000_17, .int .i64 x337001_17, .int .i64 x337002_17, .bool x337003_17]) (j := 0) hcl76 hcc76 (show 6 ≤ 6 from by decide) (x' := (⟨(rd_T36 l0 a1).f0, a2, x337000_17, x337001_17, x337002_17, x337003_17⟩ : S36)) (k36_mkM _ _ _ (⟨(rd_T36 l0 a1).f0, a2, x337000_17, x337001_17, x337002_17, x337003_17⟩ : S36) ) (fun _ hk => hk)).1
            rw [← Ny358.out] at HP76
            have HQ76 := Aside0.mk HP76
            clear hcl76 hcc76 hfr76 hM76 HP76
            refine start_ (n := 19) (S := fun w' => w'.cell? ⟨gb336, 0, none⟩ = some (.int .i64 x337000_17) ∧ w'.cell? ⟨gb336, 1, none⟩ = some (.int .i64 x337001_17) ∧ w'.cell? ⟨gb336, 2, none⟩ = some (.int .i64 x337002_17) ∧ w'.cell? ⟨gb336, 3, none⟩ = some (.bool x337003_17) ∧ w'.cell? (ad357.add ((a1).toNat * 6)) = some (.string ((rd_T36 l0 a1).f0)) ∧ w'.cell? ⟨(ad357.add ((a1).toNat * 6)).block, (ad357.add ((a1).toNat * 6)).off + 1, none⟩ = some (.int .i64 ((rd_T36 l0 a1).f1)) ∧ w'.cell? ⟨(ad357.add ((a1).toNat * 6)).block, (ad357.add ((a1).toNat * 6)).off + 2, none⟩ = some (.int .i64 ((rd_T36 l0 a1).f2)) ∧ w'.cell? ⟨(ad357.add ((a1).toNat * 6)).block, (ad357.add ((a1).toNat * 6)).off + 3, none⟩ = some (.int .i64 ((rd_T36 l0 a1).f3)) ∧ w'.cell? ⟨(ad357.add ((a1).toNat * 6)).block, (ad357.add ((a1).toNat * 6)).off + 4, none⟩ = some (.int .i64 ((rd_T36 l0 a1).f4)) ∧ w'.cell? ⟨(ad357.add ((a1).toNat * 6)).block, (ad357.add ((a1).toNat * 6)).off + 5, none⟩ = some (.bool ((rd_T36 l0 a1).f5))) (ds := [18]) #[false, false, false, false, false, false, false, false, false, false, false, false, false, false, false, false, false, false, false] (by kernel_rfl) rfl rfl ⟨cz BK336 0 _, cz BK336 1 _, cz BK336 2 _, cz BK336 3 _, ((HB.out.cell (World.block_lt_of_cell? w _ hw357_0)).trans hw357_0), ((HB.out.cell (World.block_lt_of_cell? w _ hw357_1)).trans hw357_1), ((HB.out.cell (World.block_lt_of_cell? w _ hw357_2)).trans hw357_2), ((HB.out.cell (World.block_lt_of_cell? w _ hw357_3)).trans hw357_3), ((HB.out.cell (World.block_lt_of_cell? w _ hw357_4)).trans hw357_4), ((HB.out.cell (World.block_lt_of_cell? w _ hw357_5)).trans hw357_5)⟩ (fun hHeld => ?_); refine with_tabW impl_Hang.tab10 impl_Hang.bits10 (fun HT_ HW_ => ?_)
            generalize w74.drew = w75 at HO356 BK336 HB GG62 HQ76 hf62_0 hf62_1 hf62_2 hf62_3 hf62_4 hf62_5 hx357_0 hx357_1 hx357_2 hx357_3 hx357_4 hx357_5 hx62_0 hx62_1 hx62_2 hx62_3 hx62_4 hx62_5 hHeld ⊢
            refine pureA 0 60 (bz 19 1) rfl rfl (any_of HT_.out (by kernel_rfl)) ?_
            refine pureA 1 61 (bz 19 3) rfl rfl (any_of HT_.out (by kernel_rfl)) ?_
            refine pureA 2 62 (bz 19 7) rfl rfl (any_of HT_.out (by kernel_rfl)) ?_
            refine pureA 3 63 (bz 19 15) rfl rfl (any_of HT_.out (by kernel_rfl)) ?_
            refine pureA 4 64 (bz 19 31) rfl rfl (any_of HT_.out (by kernel_rfl)) ?_
            refine pureA 5 65 (bz 19 63) rfl rfl (any_of HT_.out (by kernel_rfl)) ?_
            refine pureA 7 67 (bz 19 191) rfl rfl (any_of HT_.out (by kernel_rfl)) ?_
            refine pureA 8 68 (bz 19 447) rfl rfl (any_of HT_.out (by kernel_rfl)) ?_
            refine pureA 10 70 (bz 19 1471) rfl rfl (any_of HT_.out (by kernel_rfl)) ?_
            refine pureA 12 72 (bz 19 5567) rfl rfl (any_of HT_.out (by kernel_rfl)) ?_
            refine pureA 14 74 (bz 19 21951) rfl rfl (any_of HT_.out (by kernel_rfl)) ?_
            refine takeA 6 66 (bz 19 22015) rfl rfl (take_ofW HT_.out HW_.out (by kernel_rfl)) hHeld (by rintro w' ⟨s0, s1, s2, s3, s4, s5, s6, s7, s8, s9⟩; go_simp; with_reducible rfl) ?_
            refine takeA 9 69 (bz 19 22527) rfl rfl (take_ofW HT_.out HW_.out (by kernel_rfl)) hHeld (by rintro w' ⟨s0, s1, s2, s3, s4, s5, s6, s7, s8, s9⟩; go_simp; with_reducible rfl) ?_
            refine takeA 11 71 (bz 19 24575) rfl rfl (take_ofW HT_.out HW_.out (by kernel_rfl)) hHeld (by rintro w' ⟨s0, s1, s2, s3, s4, s5, s6, s7, s8, s9⟩; go_simp; with_reducible rfl) ?_
            refine takeA 13 73 (bz 19 32767) rfl rfl (take_ofW HT_.out HW_.out (by kernel_rfl)) hHeld (by rintro w' ⟨s0, s1, s2, s3, s4, s5, s6, s7, s8, s9⟩; go_simp; with_reducible rfl) ?_
            refine takeA 15 75 (bz 19 65535) rfl rfl (take_ofW HT_.out HW_.out (by kernel_rfl)) hHeld (by rintro w' ⟨s0, s1, s2, s3, s4, s5, s6, s7, s8, s9⟩; go_simp; with_reducible rfl) ?_
            refine pureA 16 76 (bz 19 131071) rfl rfl (any_of HT_.out (by kernel_rfl)) ?_
            refine pureA 17 77 (bz 19 262143) rfl rfl (any_of HT_.out (by kernel_rfl)) ?_
            refine last_ (i := 18) (N := none) (bz 19 524287) rfl rfl (one_of HT_.out (by kernel_rfl)) (by decide) (fun K hK => ?_)
            refine skip_ (w1 := ?_) (by rfl) rfl ?_ ?_
            rotate_left
            ·go_simp
             rfl
            refine hK.out _ _ ?_
            clear hK K
            refine done_ (done_of HT_.out (by kernel_rfl)) ?_
            try go_wp2
            go_ret2
            exact ⟨_, eE, by first | exact Kd.R_nil _ _ _ _ _ | exact Kd.N_nil _ _ _ _ _ | exact Kd.V_nil _ _ _ _ _ | exact Kd.Q_nil _ _ _ _ _ | exact Kd.S_nil _ _ _ _ _, lV7 GB62 GB62 GB62 GB62 GB62 GB62 GE336⟩
          ·rw [if_neg c61] at H
           exact absurd H (by simp)
         ·rw [if_neg c60] at H
          exact absurd H (by simp)
        ·rw [if_neg c59] at H
         exact absurd H (by simp)
end Go.Proofs.Ytmmgmbmjlbdpnaa.PFnPlaced
namespace Go.Proofs.Ytmmgmbmjlbdpnaa.PFnPlaced
open Go.RowKit Go.Proofs.YtmmgmbmjlbdpnaaW.PrintWords Go.Proofs.YtmmgmbmjlbdpnaaW.PrintLast Go.Proofs.YtmmgmbmjlbdpnaaW.PrintMore
attribute [local go_sem] max2_int min2_int max_two min_two max_three min_three max_four min_four   -- for this text's walks alone
set_option linter.unusedVariables false
set_option linter.unusedSimpArgs false
def spec_l4Join.f (k : Nat) (a0_0 : Int) (a0_1 : Int) (a0_2 : Int) (a0_3 : Bool) (a1_0 : Int) (a1_1 : Int) (a1_2 : Int) (a1_3 : Bool) : Option (Int × Int × Int × Bool) := (spec_l4Apply.f k a0_0 a0_1 a0_2 a0_3 a1_0 a1_1).bind fun bt363 => (if a0_3 = true then (some (wrap64 (bt363.1 + a0_0), wrap64 (bt363.2 + a0_1), Int.tmod (wrap64 ((wrap64 (4 - a1_2)) + a0_2)) 4, (true != a1_3))) else (some (wrap64 (bt363.1 + a0_0), wrap64 (bt363.2 + a0_1), Int.tmod (wrap64 (a1_2 + a0_2)) 4, (false != a1_3))))
theorem spec_l4Join.mono : ∀ a0 a1 a2 a3 a4 a5 a6 a7 k, LeO (spec_l4Join.f k a0 a1 a2 a3 a4 a5 a6 a7) (spec_l4Join.f (k + 1) a0 a1 a2 a3 a4 a5 a6 a7) := by
 intro a0 a1 a2 a3 a4 a5 a6 a7 k
 unfold spec_l4Join.f
 repeat' first
   | (with_reducible exact spec_l4Apply.mono _ _ _ _ _ _ _)
   | (with_reducible first | exact LeO.refl _ | exact LeO.none _ | refine LeO.ite ?_ ?_ | refine LeO.bind ?_ (fun _ => ?_))
   | exact spec_l4Apply.mono _ _ _ _ _ _ _ | exact LeO.none _ | refine LeO.ite ?_ ?_ | refine LeO.bind ?_ (fun _ => ?_)
set_option maxHeartbeats 8000000 in
set_option maxRecDepth 100000 in
theorem spec_l4Join.calls (k : Nat) (a0_0 : Int) (a0_1 : Int) (a0_2 : Int) (a0_3 : Bool) (a1_0 : Int) (a1_1 : Int) (a1_2 : Int) (a1_3 : Bool) (r1 : Int) (r2 : Int) (r3 : Int) (r4 : Bool) (w : World) (h : spec_l4Join.f k a0_0 a0_1 a0_2 a0_3 a1_0 a1_1 a1_2 a1_3 = some (r1, r2, r3, r4)) :
  Calls Try.prog 28 #[.agg #[.int .i64 a0_0, .int .i64 a0_1, .int .i64 a0_2, .bool a0_3], .agg #[.int .i64 a1_0, .int .i64 a1_1, .int .i64 a1_2, .bool a1_3]] w fun e w' => e = .returned (.agg #[.int .i64 r1, .int .i64 r2, .int .i64 r3, .bool r4]) ∧ Below w.heap.size w w' := by
 have hu24 := Try.underlying24
 have HB := Aside0.mk (Below.refl w.heap.size w)
 have H : ((spec_l4Apply.f k a0_0 a0_1 a0_2 a0_3 a1_0 a1_1).bind fun bt363 => (if a0_3 = true then (some (wrap64 (bt363.1 + a0_0), wrap64 (bt363.2 + a0_1), Int.tmod (wrap64 ((wrap64 (4 - a1_2)) + a0_2)) 4, (true != a1_3))) else (some (wrap64 (bt363.1 + a0_0), wrap64 (bt363.2 + a0_1), Int.tmod (wrap64 (a1_2 + a0_2)) 4, (false != a1_3))))) = some (r1, r2, r3, r4) := h
 clear h
 replace H := Option.bind_eq_some_iff.mp H
 obtain ⟨⟨t363, t364⟩, A30, H⟩ := H
 replace H : (if a0_3 = true then (some (wrap64 (t363 + a0_0), wrap64 (t364 + a0_1), Int.tmod (wrap64 ((wrap64 (4 - a1_2)) + a0_2)) 4, (true != a1_3))) else (some (wrap64 (t363 + a0_0), wrap64 (t364 + a0_1), Int.tmod (wrap64 (a1_2 + a0_2)) 4, (false != a1_3)))) = some (r1, r2, r3, r4) := H
 have A3 := Aside0.mk A30
 clear A30
 by_cases c4 : a0_3 = true
 ·subst c4
  have H1 : (some (wrap64 (t363 + a0_0), wrap64 (t364 + a0_1), Int.tmod (wrap64 ((wrap64 (4 - a1_2)) + a0_2)) 4, (true != a1_3))) = some (r1, r2, r3, r4) := by rw [if_pos rfl] at H; exact H
  clear H
  have H := H1
  clear H1
  simp only [Option.some.injEq, Prod.mk.injEq] at H
  obtain ⟨rfl, rfl, rfl, rfl⟩ := H
  go_enter Try.func28, Try.ntmps28
  go_wp2_with (first | ((with_reducible refine gate_dst (N := 2) rfl ?_); refine box_event rfl (N := 2) rfl (cs := #[.int .i64 a0_0, .int .i64 a0_1, .int .i64 a0_2, .bool true]) (t := 24) sE ?_; intro gb360 hg w5 hbox hb; have BK360 := Aside0.mk hbox; have GW360 := gS w hg (lU); have GE360 := gS w hg (lU); replace HB := bH (lU) hb; clear hb hbox hg) | ((with_reducible refine gate_dst (N := 3) rfl ?_); refine box_event rfl (N := 3) rfl (cs := #[.int .i64 a1_0, .int .i64 a1_1, .int .i64 a1_2, .bool a1_3]) (t := 24) sE ?_; intro gb361 hg w6 hbox hb; have BK361 := Aside0.mk hbox; have GW361 := gS w hg (lV1 GE360); have GE361 := gS w hg (lV1 GE360); replace HB := bH (lV1 GE360) hb; have NB360_361 := nL hg (bV BK360); have NB361_360 := nG hg (bV BK360); replace BK360 := bB (bV BK360) hb; clear hb hbox hg) | ((with_reducible refine gate_dst (N := 4) rfl ?_); refine box_event rfl (N := 4) rfl (cs := #[.int .i64 0, .int .i64 0, .int .i64 0, .bool false]) (t := 24) sE ?_; intro gb362 hg w7 hbox hb; have BK362 := Aside0.mk hbox; have GW362 := gS w hg (lV2 GE360 GE361); have GE362 := gS w hg (lV2 GE360 GE361); replace HB := bH (lV2 GE360 GE361) hb; have NB360_362 := nL hg (bV BK360); have NB362_360 := nG hg (bV BK360); replace BK360 := bB (bV BK360) hb; have NB361_362 := nL hg (bV BK361); have NB362_361 := nG hg (bV BK361); replace BK361 := bB (bV BK361) hb; clear hb hbox hg; have hnb8 := NB360_361.out; have hnc8 := NB361_360.out; have hnb9 := NB360_362.out; have hnc9 := NB362_360.out; have hcz10_0 := cz BK360 0 (.int .i64 a0_0); have hcz10_1 := cz BK360 1 (.int .i64 a0_1); have hcz10_2 := cz BK360 2 (.int .i64 a0_2); have hcz10_3 := cz BK360 3 (.bool true); have hfz10_0 := fz BK360 0; have hfz10_1 := fz BK360 1; have hfz10_2 := fz BK360 2; have hfz10_3 := fz BK360 3; have hnb11 := NB361_362.out; have hnc11 := NB362_361.out; have hcz12_0 := cz BK361 0 (.int .i64 a1_0); have hcz12_1 := cz BK361 1 (.int .i64 a1_1); have hcz12_2 := cz BK361 2 (.int .i64 a1_2); have hcz12_3 := cz BK361 3 (.bool a1_3); have hfz12_0 := fz BK361 0; have hfz12_1 := fz BK361 1; have hfz12_2 := fz BK361 2; have hfz12_3 := fz BK361 3) | ((with_reducible refine gate_callee (f := 32) rfl ?_); refine goesL_ (some 14) rfl rfl Try.func32 (by kernel_rfl) rfl #[.agg #[.int .i64 a0_0, .int .i64 a0_1, .int .i64 a0_2, .bool true], .int .i64 a1_0, .int .i64 a1_1] rfl aE ?_; (with_reducible refine (spec_l4Apply.calls k a0_0 a0_1 a0_2 true a1_0 a1_1 t363 t364 _ A3.out).mono ?_); rintro e w13 ⟨rfl, hb⟩; refine ⟨_, rfl, ?_⟩; replace BK360 := bB (bV BK360) hb; replace BK361 := bB (bV BK361) hb; replace BK362 := bB (bV BK362) hb; replace HB := bH (lV3 GE360 GE361 GE362) hb; (try clear hb); have hcz14_0 := cz BK361 0 (.int .i64 a1_0); have hcz14_1 := cz BK361 1 (.int .i64 a1_1); have hcz14_2 := cz BK361 2 (.int .i64 a1_2); have hcz14_3 := cz BK361 3 (.bool a1_3); have hfz14_0 := fz BK361 0; have hfz14_1 := fz BK361 1; have hfz14_2 := fz BK361 2; have hfz14_3 := fz BK361 3; have hcz15_0 := cz BK360 0 (.int .i64 a0_0); have hcz15_1 := cz BK360 1 (.int .i64 a0_1); have hcz15_2 := cz BK360 2 (.int .i64 a0_2); have hcz15_3 := cz BK360 3 (.bool true); have hfz15_0 := fz BK360 0; have hfz15_1 := fz BK360 1; have hfz15_2 := fz BK360 2; have hfz15_3 := fz BK360 3; have hcz16_0 := cz BK362 0 (.int .i64 0); have hcz16_1 := cz BK362 1 (.int .i64 0); have hcz16_2 := cz BK362 2 (.int .i64 0); have hcz16_3 := cz BK362 3 (.bool false); have hfz16_0 := fz BK362 0; have hfz16_1 := fz BK362 1; have hfz16_2 := fz BK362 2; have hfz16_3 := fz BK362 3) | ((with_reducible refine gate_store (t := 24) (p := 4) rfl ?_); refine store_event (t := 24) (p := 4) (v := ?vo_w17) (w1 := ((((w13.setCell ⟨gb362, 0, none⟩ (.int .i64 (wrap64 (t363 + a0_0)))).setCell ⟨gb362, 1, none⟩ (.int .i64 (wrap64 (t364 + a0_1)))).setCell ⟨gb362, 2, none⟩ (.int .i64 (Int.tmod (wrap64 ((wrap64 (4 - a1_2)) + a0_2)) 4))).setCell ⟨gb362, 3, none⟩ (.bool (true != a1_3)))) ?hg ?ho ?hn ?hr ?_; (case ho => rfl); (case hg => rfl); (case hn => rfl); (case hr => first | (go_simp; done) | (go_simp; rfl) | (have hq0_ := (blk_cell BK362.out 0).trans (show _ = some _ from rfl); have hf0_ := blk_frozen BK362.out 0; have hq1_ := (blk_cell BK362.out 1).trans (show _ = some _ from rfl); have hf1_ := blk_frozen BK362.out 1; have hq2_ := (blk_cell BK362.out 2).trans (show _ = some _ from rfl); have hf2_ := blk_frozen BK362.out 2; have hq3_ := (blk_cell BK362.out 3).trans (show _ = some _ from rfl); have hf3_ := blk_frozen BK362.out 3; first | (go_simp; done) | (go_simp; rfl))); intro w17 hw; replace BK360 : Aside0 (w17.heap[gb360]? = some (.cells #[.int .i64 a0_0, .int .i64 a0_1, .int .i64 a0_2, .bool true] 24 (0, 0))) := ⟨(by rw [hw]; exact (bG NB360_362 BK360))⟩; replace BK361 : Aside0 (w17.heap[gb361]? = some (.cells #[.int .i64 a1_0, .int .i64 a1_1, .int .i64 a1_2, .bool a1_3] 24 (0, 0))) := ⟨(by rw [hw]; exact (bG NB361_362 BK361))⟩; replace BK362 : Aside0 (w17.heap[gb362]? = some (.cells #[.int .i64 (wrap64 (t363 + a0_0)), .int .i64 (wrap64 (t364 + a0_1)), .int .i64 (Int.tmod (wrap64 ((wrap64 (4 - a1_2)) + a0_2)) 4), .bool (true != a1_3)] 24 (0, 0))) := ⟨(by rw [hw]; exact (by refine bU ?_; refine blk_put (cs := #[.int .i64 (wrap64 (t363 + a0_0)), .int .i64 (wrap64 (t364 + a0_1)), .int .i64 (Int.tmod (wrap64 ((wrap64 (4 - a1_2)) + a0_2)) 4), .bool false]) ?_ 3 _ rfl; refine bU ?_; refine blk_put (cs := #[.int .i64 (wrap64 (t363 + a0_0)), .int .i64 (wrap64 (t364 + a0_1)), .int .i64 0, .bool false]) ?_ 2 _ rfl; refine bU ?_; refine blk_put (cs := #[.int .i64 (wrap64 (t363 + a0_0)), .int .i64 0, .int .i64 0, .bool false]) ?_ 1 _ rfl; refine bU ?_; refine blk_put (cs := #[.int .i64 0, .int .i64 0, .int .i64 0, .bool false]) ?_ 0 _ rfl; refine bU ?_; exact BK362.out))⟩; replace HB : Aside0 (Below w.heap.size w w17) := ⟨(by rw [hw]; exact (lV3 GE360 GE361 GE362))⟩; clear hw))
  refine bodyPost_ret (results_cell_row rfl _ _ gb362 24 #[.int .i64 (wrap64 (t363 + a0_0)), .int .i64 (wrap64 (t364 + a0_1)), .int .i64 (Int.tmod (wrap64 ((wrap64 (4 - a1_2)) + a0_2)) 4), .bool (true != a1_3)] (0, 0) _ rfl (bV BK362) Try.underlying24 rfl (by kernel_rfl)) rfl ?_
  exact ⟨eE, lV3 GE360 GE361 GE362⟩
 ·replace c4 := Bool.eq_false_iff.mpr c4
  subst c4
  have H1 : (some (wrap64 (t363 + a0_0), wrap64 (t364 + a0_1), Int.tmod (wrap64 (a1_2 + a0_2)) 4, (false != a1_3))) = some (r1, r2, r3, r4) := by rw [if_neg (show ¬ (false = true) by decide)] at H; exact H
  clear H
  have H := H1
  clear H1
  simp only [Option.some.injEq, Prod.mk.injEq] at H
  obtain ⟨rfl, rfl, rfl, rfl⟩ := H
  go_enter Try.func28, Try.ntmps28
  go_wp2_with (first | ((with_reducible refine gate_dst (N := 2) rfl ?_); refine box_event rfl (N := 2) rfl (cs := #[.int .i64 a0_0, .int .i64 a0_1, .int .i64 a0_2, .bool false]) (t := 24) sE ?_; intro gb360 hg w18 hbox hb; have BK360 := Aside0.mk hbox; have GW360 := gS w hg (lU); have GE360 := gS w hg (lU); replace HB := bH (lU) hb; clear hb hbox hg) | ((with_reducible refine gate_dst (N := 3) rfl ?_); refine box_event rfl (N := 3) rfl (cs := #[.int .i64 a1_0, .int .i64 a1_1, .int .i64 a1_2, .bool a1_3]) (t := 24) sE ?_; intro gb361 hg w19 hbox hb; have BK361 := Aside0.mk hbox; have GW361 := gS w hg (lV1 GE360); have GE361 := gS w hg (lV1 GE360); replace HB := bH (lV1 GE360) hb; have NB360_361 := nL hg (bV BK360); have NB361_360 := nG hg (bV BK360); replace BK360 := bB (bV BK360) hb; clear hb hbox hg) | ((with_reducible refine gate_dst (N := 4) rfl ?_); refine box_event rfl (N := 4) rfl (cs := #[.int .i64 0, .int .i64 0, .int .i64 0, .bool false]) (t := 24) sE ?_; intro gb362 hg w20 hbox hb; have BK362 := Aside0.mk hbox; have GW362 := gS w hg (lV2 GE360 GE361); have GE362 := gS w hg (lV2 GE360 GE361); replace HB := bH (lV2 GE360 GE361) hb; have NB360_362 := nL hg (bV BK360); have NB362_360 := nG hg (bV BK360); replace BK360 := bB (bV BK360) hb; have NB361_362 := nL hg (bV BK361); have NB362_361 := nG hg (bV BK361); replace BK361 := bB (bV BK361) hb; clear hb hbox hg; have hnb21 := NB360_361.out; have hnc21 := NB361_360.out; have hnb22 := NB360_362.out; have hnc22 := NB362_360.out; have hcz23_0 := cz BK360 0 (.int .i64 a0_0); have hcz23_1 := cz BK360 1 (.int .i64 a0_1); have hcz23_2 := cz BK360 2 (.int .i64 a0_2); have hcz23_3 := cz BK360 3 (.bool false); have hfz23_0 := fz BK360 0; have hfz23_1 := fz BK360 1; have hfz23_2 := fz BK360 2; have hfz23_3 := fz BK360 3; have hnb24 := NB361_362.out; have hnc24 := NB362_361.out; have hcz25_0 := cz BK361 0 (.int .i64 a1_0); have hcz25_1 := cz BK361 1 (.int .i64 a1_1); have hcz25_2 := cz BK361 2 (.int .i64 a1_2); have hcz25_3 := cz BK361 3 (.bool a1_3); have hfz25_0 := fz BK361 0; have hfz25_1 := fz BK361 1; have hfz25_2 := fz BK361 2; have hfz25_3 := fz BK361 3) | ((with_reducible refine gate_callee (f := 32) rfl ?_); refine goesL_ (some 14) rfl rfl Try.func32 (by kernel_rfl) rfl #[.agg #[.int .i64 a0_0, .int .i64 a0_1, .int .i64 a0_2, .bool false], .int .i64 a1_0, .int .i64 a1_1] rfl aE ?_; (with_reducible refine (spec_l4Apply.calls k a0_0 a0_1 a0_2 false a1_0 a1_1 t363 t364 _ A3.out).mono ?_); rintro e w26 ⟨rfl, hb⟩; refine ⟨_, rfl, ?_⟩; replace BK360 := bB (bV BK360) hb; replace BK361 := bB (bV BK361) hb; replace BK362 := bB (bV BK362) hb; replace HB := bH (lV3 GE360 GE361 GE362) hb; (try clear hb); have hcz27_0 := cz BK361 0 (.int .i64 a1_0); have hcz27_1 := cz BK361 1 (.int .i64 a1_1); have hcz27_2 := cz BK361 2 (.int .i64 a1_2); have hcz27_3 := cz BK361 3 (.bool a1_3); have hfz27_0 := fz BK361 0; have hfz27_1 := fz BK361 1; have hfz27_2 := fz BK361 2; have hfz27_3 := fz BK361 3; have hcz28_0 := cz BK360 0 (.int .i64 a0_0); have hcz28_1 := cz BK360 1 (.int .i64 a0_1); have hcz28_2 := cz BK360 2 (.int .i64 a0_2); have hcz28_3 := cz BK360 3 (.bool false); have hfz28_0 := fz BK360 0; have hfz28_1 := fz BK360 1; have hfz28_2 := fz BK360 2; have hfz28_3 := fz BK360 3; have hcz29_0 := cz BK362 0 (.int .i64 0); have hcz29_1 := cz BK362 1 (.int .i64 0); have hcz29_2 := cz BK362 2 (.int .i64 0); have hcz29_3 := cz BK362 3 (.bool false); have hfz29_0 := fz BK362 0; have hfz29_1 := fz BK362 1; have hfz29_2 := fz BK362 2; have hfz29_3 := fz BK362 3) | ((with_reducible refine gate_store (t := 24) (p := 4) rfl ?_); refine store_event (t := 24) (p := 4) (v := ?vo_w30) (w1 := ((((w26.setCell ⟨gb362, 0, none⟩ (.int .i64 (wrap64 (t363 + a0_0)))).setCell ⟨gb362, 1, none⟩ (.int .i64 (wrap64 (t364 + a0_1)))).setCell ⟨gb362, 2, none⟩ (.int .i64 (Int.tmod (wrap64 (a1_2 + a0_2)) 4))).setCell ⟨gb362, 3, none⟩ (.bool (false != a1_3)))) ?hg ?ho ?hn ?hr ?_; (case ho => rfl); (case hg => rfl); (case hn => rfl); (case hr => first | (go_simp; done) | (go_simp; rfl) | (have hq0_ := (blk_cell BK362.out 0).trans (show _ = some _ from rfl); have hf0_ := blk_frozen BK362.out 0; have hq1_ := (blk_cell BK362.out 1).trans (show _ = some _ from rfl); have hf1_ := blk_frozen BK362.out 1; have hq2_ := (blk_cell BK362.out 2).trans (show _ = some _ from rfl); have hf2_ := blk_frozen BK362.out 2; have hq3_ := (blk_cell BK362.out 3).trans (show _ = some _ from rfl); have hf3_ := blk_frozen BK362.out 3; first | (go_simp; done) | (go_simp; rfl))); intro w30 hw; replace BK360 : Aside0 (w30.heap[gb360]? = some (.cells #[.int .i64 a0_0, .int .i64 a0_1, .int .i64 a0_2, .bool false] 24 (0, 0))) := ⟨(by rw [hw]; exact (bG NB360_362 BK360))⟩; replace BK361 : Aside0 (w30.heap[gb361]? = some (.cells #[.int .i64 a1_0, .int .i64 a1_1, .int .i64 a1_2, .bool a1_3] 24 (0, 0))) := ⟨(by rw [hw]; exact (bG NB361_362 BK361))⟩; replace BK362 : Aside0 (w30.heap[gb362]? = some (.cells #[.int .i64 (wrap64 (t363 + a0_0)), .int .i64 (wrap64 (t364 + a0_1)), .int .i64 (Int.tmod (wrap64 (a1_2 + a0_2)) 4), .bool (false != a1_3)] 24 (0, 0))) := ⟨(by rw [hw]; exact (by refine bU ?_; refine blk_put (cs := #[.int .i64 (wrap64 (t363 + a0_0)), .int .i64 (wrap64 (t364 + a0_1)), .int .i64 (Int.tmod (wrap64 (a1_2 + a0_2)) 4), .bool false]) ?_ 3 _ rfl; refine bU ?_; refine blk_put (cs := #[.int .i64 (wrap64 (t363 + a0_0)), .int .i64 (wrap64 (t364 + a0_1)), .int .i64 0, .bool false]) ?_ 2 _ rfl; refine bU ?_; refine blk_put (cs := #[.int .i64 (wrap64 (t363 + a0_0)), .int .i64 0, .int .i64 0, .bool false]) ?_ 1 _ rfl; refine bU ?_; refine blk_put (cs := #[.int .i64 0, .int .i64 0, .int .i64 0, .bool false]) ?_ 0 _ rfl; refine bU ?_; exact BK362.out))⟩; replace HB : Aside0 (Below w.heap.size w w30) := ⟨(by rw [hw]; exact (lV3 GE360 GE361 GE362))⟩; clear hw))
  refine bodyPost_ret (results_cell_row rfl _ _ gb362 24 #[.int .i64 (wrap64 (t363 + a0_0)), .int .i64 (wrap64 (t364 + a0_1)), .int .i64 (Int.tmod (wrap64 (a1_2 + a0_2)) 4), .bool (false != a1_3)] (0, 0) _ rfl (bV BK362) Try.underlying24 rfl (by kernel_rfl)) rfl ?_
  exact ⟨eE, lV3 GE360 GE361 GE362⟩
def spec_l4Spot.f (a0_0 : ByteArray) (a0_1 : Int) (a0_2 : Int) (a0_3 : Int) (a0_4 : Int) (a0_5 : Bool) : Option (Int × Int × Int × Bool) := some (a0_2, a0_3, a0_4, a0_5)
set_option maxHeartbeats 8000000 in
set_option maxRecDepth 100000 in
theorem spec_l4Spot.calls (a0_0 : ByteArray) (a0_1 : Int) (a0_2 : Int) (a0_3 : Int) (a0_4 : Int) (a0_5 : Bool) (r1 : Int) (r2 : Int) (r3 : Int) (r4 : Bool) (w : World) (h : spec_l4Spot.f a0_0 a0_1 a0_2 a0_3 a0_4 a0_5 = some (r1, r2, r3, r4)) :
  Calls Try.prog 39 #[.agg #[.string a0_0, .int .i64 a0_1, .int .i64 a0_2, .int .i64 a0_3, .int .i64 a0_4, .bool a0_5]] w fun e w' => e = .returned (.agg #[.int .i64 r1, .int .i64 r2, .int .i64 r3, .bool r4]) ∧ Below w.heap.size w w' := by
 have hu36 := Try.underlying36
 have hu24 := Try.underlying24
 have HB := Aside0.mk (Below.refl w.heap.size w)
 have H : (some (a0_2, a0_3, a0_4, a0_5)) = some (r1, r2, r3, r4) := h
 clear h
 simp only [Option.some.injEq, Prod.mk.injEq] at H
 obtain ⟨rfl, rfl, rfl, rfl⟩ := H
 go_enter Try.func39, Try.ntmps39
 go_wp2_with (first | ((with_reducible refine gate_dst (N := 1) rfl ?_); refine box_event rfl (N := 1) rfl (cs := #[.string a0_0, .int .i64 a0_1, .int .i64 a0_2, .int .i64 a0_3, .int .i64 a0_4, .bool a0_5]) (t := 36) sE ?_; intro gb365 hg w2 hbox hb; have BK365 := Aside0.mk hbox; have GW365 := gS w hg (lU); have GE365 := gS w hg (lU); replace HB := bH (lU) hb; clear hb hbox hg) | ((with_reducible refine gate_dst (N := 2) rfl ?_); refine box_event rfl (N := 2) rfl (cs := #[.int .i64 0, .int .i64 0, .int .i64 0, .bool false]) (t := 24) sE ?_; intro gb366 hg w3 hbox hb; have BK366 := Aside0.mk hbox; have GW366 := gS w hg (lV1 GE365); have GE366 := gS w hg (lV1 GE365); replace HB := bH (lV1 GE365) hb; have NB365_366 := nL hg (bV BK365); have NB366_365 := nG hg (bV BK365); replace BK365 := bB (bV BK365) hb; clear hb hbox hg; have hnb4 := NB365_366.out; have hnc4 := NB366_365.out; have hcz5_0 := cz BK365 0 (.string a0_0); have hcz5_1 := cz BK365 1 (.int .i64 a0_1); have hcz5_2 := cz BK365 2 (.int .i64 a0_2); have hcz5_3 := cz BK365 3 (.int .i64 a0_3); have hcz5_4 := cz BK365 4 (.int .i64 a0_4); have hcz5_5 := cz BK365 5 (.bool a0_5); have hfz5_0 := fz BK365 0; have hfz5_1 := fz BK365 1; have hfz5_2 := fz BK365 2; have hfz5_3 := fz BK365 3; have hfz5_4 := fz BK365 4; have hfz5_5 := fz BK365 5; have hcz6_0 := cz BK366 0 (.int .i64 0); have hcz6_1 := cz BK366 1 (.int .i64 0); have hcz6_2 := cz BK366 2 (.int .i64 0); have hcz6_3 := cz BK366 3 (.bool false); have hfz6_0 := fz BK366 0; have hfz6_1 := fz BK366 1; have hfz6_2 := fz BK366 2; have hfz6_3 := fz BK366 3) | ((with_reducible refine gate_store (t := 24) (p := 2) rfl ?_); refine store_event (t := 24) (p := 2) (v := ?vo_w7) (w1 := ((((w3.setCell ⟨gb366, 0, none⟩ (.int .i64 a0_2)).setCell ⟨gb366, 1, none⟩ (.int .i64 a0_3)).setCell ⟨gb366, 2, none⟩ (.int .i64 a0_4)).setCell ⟨gb366, 3, none⟩ (.bool a0_5))) ?hg ?ho ?hn ?hr ?_; (case ho => rfl); (case hg => rfl); (case hn => rfl); (case hr => first | (go_simp; done) | (go_simp; rfl) | (have hq0_ := (blk_cell BK366.out 0).trans (show _ = some _ from rfl); have hf0_ := blk_frozen BK366.out 0; have hq1_ := (blk_cell BK366.out 1).trans (show _ = some _ from rfl); have hf1_ := blk_frozen BK366.out 1; have hq2_ := (blk_cell BK366.out 2).trans (show _ = some _ from rfl); have hf2_ := blk_frozen BK366.out 2; have hq3_ := (blk_cell BK366.out 3).trans (show _ = some _ from rfl); have hf3_ := blk_frozen BK366.out 3; first | (go_simp; done) | (go_simp; rfl))); intro w7 hw; replace BK365 : Aside0 (w7.heap[gb365]? = some (.cells #[.string a0_0, .int .i64 a0_1, .int .i64 a0_2, .int .i64 a0_3, .int .i64 a0_4, .bool a0_5] 36 (0, 0))) := ⟨(by rw [hw]; exact (bG NB365_366 BK365))⟩; replace BK366 : Aside0 (w7.heap[gb366]? = some (.cells #[.int .i64 a0_2, .int .i64 a0_3, .int .i64 a0_4, .bool a0_5] 24 (0, 0))) := ⟨(by rw [hw]; exact (by refine bU ?_; refine blk_put (cs := #[.int .i64 a0_2, .int .i64 a0_3, .int .i64 a0_4, .bool false]) ?_ 3 _ rfl; refine bU ?_; refine blk_put (cs := #[.int .i64 a0_2, .int .i64 a0_3, .int .i64 0, .bool false]) ?_ 2 _ rfl; refine bU ?_; refine blk_put (cs := #[.int .i64 a0_2, .int .i64 0, .int .i64 0, .bool false]) ?_ 1 _ rfl; refine bU ?_; refine blk_put (cs := #[.int .i64 0, .int .i64 0, .int .i64 0, .bool false]) ?_ 0 _ rfl; refine bU ?_; exact BK366.out))⟩; replace HB : Aside0 (Below w.heap.size w w7) := ⟨(by rw [hw]; exact (lV2 GE365 GE366))⟩; clear hw))
 refine bodyPost_ret (results_cell_row rfl _ _ gb366 24 #[.int .i64 a0_2, .int .i64 a0_3, .int .i64 a0_4, .bool a0_5] (0, 0) _ rfl (bV BK366) Try.underlying24 rfl (by kernel_rfl)) rfl ?_
 exact ⟨eE, lV2 GE365 GE366⟩
def spec_l4Where.f : Nat → List (S36) → Int → Option (Int × Int × Int × Bool × Bool)
 | 0, _, _ => none
 | k + 1, l0, a1 => if a1 < 0 then (some (0, 0, 0, false, true)) else (if 0 ≤ a1 then (if a1 < (l0.length : Int) then ((spec_l4Where.f k l0 ((rd_T36 l0 a1).f1)).bind fun bt369 => (if bt369.2.2.2.2 = true then ((spec_l4Spot.f ((rd_T36 l0 a1).f0) ((rd_T36 l0 a1).f1) ((rd_T36 l0 a1).f2) ((rd_T36 l0 a1).f3) ((rd_T36 l0 a1).f4) ((rd_T36 l0 a1).f5)).bind fun bt376 => ((spec_l4Join.f k bt369.1 bt369.2.1 bt369.2.2.1 bt369.2.2.2.1 bt376.1 bt376.2.1 bt376.2.2.1 bt376.2.2.2).bind fun bt380 => ((spec_l4Good.f bt380.1 bt380.2.1 bt380.2.2.1 bt380.2.2.2).bind fun t385 => (some (bt380.1, bt380.2.1, bt380.2.2.1, bt380.2.2.2, t385))))) else (some (0, 0, 0, false, false)))) else (none)) else (none))
theorem spec_l4Where.mono_l : ∀ k, (∀ y0 y1, LeO (spec_l4Where.f k y0 y1) (spec_l4Where.f (k + 1) y0 y1))
 | 0 => fun _ _ r h => by simp [spec_l4Where.f] at h
 | k + 1 => by
  have ih0 := spec_l4Where.mono_l k
  ·intro y0 y1
   unfold spec_l4Where.f
   repeat' first
   | (with_reducible exact ih0 _ _)
   | (with_reducible exact spec_l4Join.mono _ _ _ _ _ _ _ _ _)
   | (with_reducible first | exact LeO.refl _ | exact LeO.none _ | refine LeO.ite ?_ ?_ | refine LeO.bind ?_ (fun _ => ?_))
   | exact ih0 _ _
   | exact spec_l4Join.mono _ _ _ _ _ _ _ _ _ | exact LeO.none _ | refine LeO.ite ?_ ?_ | refine LeO.bind ?_ (fun _ => ?_)
theorem spec_l4Where.mono : ∀ a0 a1 k, LeO (spec_l4Where.f k a0 a1) (spec_l4Where.f (k + 1) a0 a1) := by
 intro a0 a1 k
 have ih0 := spec_l4Where.mono_l k
 exact ih0 a0 a1
def spec_l4Where.T6 : Bool × List (List Nat × List Nat) := (true, [([], []), ([], []), ([], []), ([1, 2], [1, 2]), ([3], [3]), ([4], [4]), ([0, 5, 5], [0, 5]), ([], []), ([7, 6, 6, 0, 1, 2, 3, 4, 5, 6, 7], [6, 7])])
def spec_l4Where.B6 : List Nat := [0, 0, 0, 6, 14, 30, 63, 0, 255]
theorem spec_l4Where.tab6 : rtab .any (opsOf Try.f27 6) = spec_l4Where.T6 := by kernel_rfl
theorem spec_l4Where.bits6 : waitsOk spec_l4Where.T6.2 spec_l4Where.B6 = true := by kernel_rfl
set_option maxHeartbeats 8000000 in
set_option maxRecDepth 100000 in
theorem spec_l4Where.calls (k : Nat) : ∀ (A0 : Option Addr) (c0 : Nat) (l0 : List (S36)) (a1 : Int) (r1 : Int) (r2 : Int) (r3 : Int) (r4 : Bool) (r5 : Bool) (w : World) (hr0 : Kd.C k36 w A0 l0.length l0) (hc0 : l0.length ≤ c0) (h : spec_l4Where.f k l0 a1 = some (r1, r2, r3, r4, r5)),
  Calls Try.prog 27 #[.slice A0 l0.length c0, .int .i64 a1] w fun e w' => e = .returned (.tuple #[.agg #[.int .i64 r1, .int .i64 r2, .int .i64 r3, .bool r4], .bool r5]) ∧ Below w.heap.size w w' := by
 induction k using Nat.strongRecOn with
 | _ k ih =>
 intro A0 c0 l0 a1 r1 r2 r3 r4 r5 w hr0 hc0 h
 cases k with
 | zero => exact absurd h (by simp [spec_l4Where.f])
 | succ k =>
 simp only [spec_l4Where.f] at h
 have hu24 := Try.underlying24
 have hu36 := Try.underlying36
 have HR0 := Aside0.mk hr0
 have HC0 := Aside0.mk hc0
 clear hr0 hc0
 have HB := Aside0.mk (Below.refl w.heap.size w)
 have H : (if a1 < 0 then (some (0, 0, 0, false, true)) else (if 0 ≤ a1 then (if a1 < (l0.length : Int) then ((spec_l4Where.f k l0 ((rd_T36 l0 a1).f1)).bind fun bt369 => (if bt369.2.2.2.2 = true then ((spec_l4Spot.f ((rd_T36 l0 a1).f0) ((rd_T36 l0 a1).f1) ((rd_T36 l0 a1).f2) ((rd_T36 l0 a1).f3) ((rd_T36 l0 a1).f4) ((rd_T36 l0 a1).f5)).bind fun bt376 => ((spec_l4Join.f k bt369.1 bt369.2.1 bt369.2.2.1 bt369.2.2.2.1 bt376.1 bt376.2.1 bt376.2.2.1 bt376.2.2.2).bind fun bt380 => ((spec_l4Good.f bt380.1 bt380.2.1 bt380.2.2.1 bt380.2.2.2).bind fun t385 => (some (bt380.1, bt380.2.1, bt380.2.2.1, bt380.2.2.2, t385))))) else (some (0, 0, 0, false, false)))) else (none)) else (none))) = some (r1, r2, r3, r4, r5) := h
 clear h
 by_cases c3 : a1 < 0
 ·rw [if_pos c3] at H
  have c3b0 : decide (a1 < 0) = true := decide_eq_true c3
  clear c3
  simp only [Option.some.injEq, Prod.mk.injEq] at H
  obtain ⟨rfl, rfl, rfl, rfl, rfl⟩ := H
  go_enter Try.func27, Try.ntmps27
  go_wp2_with (first | ((with_reducible refine gate_dst (N := 4) rfl ?_); refine box_event rfl (N := 4) rfl (cs := #[.int .i64 0, .int .i64 0, .int .i64 0, .bool false]) (t := 24) sE ?_; intro gb367 hg w4 hbox hb; have BK367 := Aside0.mk hbox; have GW367 := gS w hg (lU); have GE367 := gS w hg (lU); replace HB := bH (lU) hb; clear hb hbox hg; have hcz5_0 := cz BK367 0 (.int .i64 0); have hcz5_1 := cz BK367 1 (.int .i64 0); have hcz5_2 := cz BK367 2 (.int .i64 0); have hcz5_3 := cz BK367 3 (.bool false); have hfz5_0 := fz BK367 0; have hfz5_1 := fz BK367 1; have hfz5_2 := fz BK367 2; have hfz5_3 := fz BK367 3) | ((with_reducible refine gate_store (t := 24) (p := 4) rfl ?_); refine store_event (t := 24) (p := 4) (v := ?vo_w6) (w1 := ((((w4.setCell ⟨gb367, 0, none⟩ (.int .i64 0)).setCell ⟨gb367, 1, none⟩ (.int .i64 0)).setCell ⟨gb367, 2, none⟩ (.int .i64 0)).setCell ⟨gb367, 3, none⟩ (.bool false))) ?hg ?ho ?hn ?hr ?_; (case ho => rfl); (case hg => rfl); (case hn => rfl); (case hr => first | (go_simp; done) | (go_simp; rfl) | (have hq0_ := (blk_cell BK367.out 0).trans (show _ = some _ from rfl); have hf0_ := blk_frozen BK367.out 0; have hq1_ := (blk_cell BK367.out 1).trans (show _ = some _ from rfl); have hf1_ := blk_frozen BK367.out 1; have hq2_ := (blk_cell BK367.out 2).trans (show _ = some _ from rfl); have hf2_ := blk_frozen BK367.out 2; have hq3_ := (blk_cell BK367.out 3).trans (show _ = some _ from rfl); have hf3_ := blk_frozen BK367.out 3; first | (go_simp; done) | (go_simp; rfl))); intro w6 hw; replace BK367 : Aside0 (w6.heap[gb367]? = some (.cells #[.int .i64 0, .int .i64 0, .int .i64 0, .bool false] 24 (0, 0))) := ⟨(by rw [hw]; exact (by refine bU ?_; refine blk_put (cs := #[.int .i64 0, .int .i64 0, .int .i64 0, .bool false]) ?_ 3 _ rfl; refine bU ?_; refine blk_put (cs := #[.int .i64 0, .int .i64 0, .int .i64 0, .bool false]) ?_ 2 _ rfl; refine bU ?_; refine blk_put (cs := #[.int .i64 0, .int .i64 0, .int .i64 0, .bool false]) ?_ 1 _ rfl; refine bU ?_; refine blk_put (cs := #[.int .i64 0, .int .i64 0, .int .i64 0, .bool false]) ?_ 0 _ rfl; refine bU ?_; exact BK367.out))⟩; replace HB : Aside0 (Below w.heap.size w w6) := ⟨(by rw [hw]; exact (lV1 GE367))⟩; clear hw))
  refine bodyPost_ret (results_ct rfl _ _ gb367 24 #[.int .i64 0, .int .i64 0, .int .i64 0, .bool false] (0, 0) _ rfl (bV BK367) Try.underlying24 rfl (by kernel_rfl)) rfl ?_
  exact ⟨eE, lV1 GE367⟩
 ·rw [if_neg c3] at H
  have c3b0 : decide (a1 < 0) = false := decide_eq_false c3
  clear c3
  by_cases c7 : 0 ≤ a1
  ·rw [if_pos c7] at H
   have c7b0 : decide (0 ≤ a1) = true := decide_eq_true c7
   clear c7
   by_cases c8 : a1 < (l0.length : Int)
   ·rw [if_pos c8] at H
    have c8b0 : decide (a1 < (l0.length : Int)) = true := decide_eq_true c8
    clear c8
    replace H := Option.bind_eq_some_iff.mp H
    obtain ⟨⟨t369, t370, t371, t372, t373⟩, A90, H⟩ := H
    replace H : (if t373 = true then ((spec_l4Spot.f ((rd_T36 l0 a1).f0) ((rd_T36 l0 a1).f1) ((rd_T36 l0 a1).f2) ((rd_T36 l0 a1).f3) ((rd_T36 l0 a1).f4) ((rd_T36 l0 a1).f5)).bind fun bt376 => ((spec_l4Join.f k t369 t370 t371 t372 bt376.1 bt376.2.1 bt376.2.2.1 bt376.2.2.2).bind fun bt380 => ((spec_l4Good.f bt380.1 bt380.2.1 bt380.2.2.1 bt380.2.2.2).bind fun t385 => (some (bt380.1, bt380.2.1, bt380.2.2.1, bt380.2.2.2, t385))))) else (some (0, 0, 0, false, false))) = some (r1, r2, r3, r4, r5) := H
    have A9 := Aside0.mk A90
    clear A90
    by_cases c10 : t373 = true
    ·subst c10
     have H1 : ((spec_l4Spot.f ((rd_T36 l0 a1).f0) ((rd_T36 l0 a1).f1) ((rd_T36 l0 a1).f2) ((rd_T36 l0 a1).f3) ((rd_T36 l0 a1).f4) ((rd_T36 l0 a1).f5)).bind fun bt376 => ((spec_l4Join.f k t369 t370 t371 t372 bt376.1 bt376.2.1 bt376.2.2.1 bt376.2.2.2).bind fun bt380 => ((spec_l4Good.f bt380.1 bt380.2.1 bt380.2.2.1 bt380.2.2.2).bind fun t385 => (some (bt380.1, bt380.2.1, bt380.2.2.1, bt380.2.2.2, t385))))) = some (r1, r2, r3, r4, r5) := by rw [if_pos rfl] at H; exact H
     clear H
     have H := H1
     clear H1
     replace H := Option.bind_eq_some_iff.mp H
     obtain ⟨⟨t376, t377, t378, t379⟩, A110, H⟩ := H
     replace H : ((spec_l4Join.f k t369 t370 t371 t372 t376 t377 t378 t379).bind fun bt380 => ((spec_l4Good.f bt380.1 bt380.2.1 bt380.2.2.1 bt380.2.2.2).bind fun t385 => (some (bt380.1, bt380.2.1, bt380.2.2.1, bt380.2.2.2, t385)))) = some (r1, r2, r3, r4, r5) := H
     have A11 := Aside0.mk A110
     clear A110
     replace H := Option.bind_eq_some_iff.mp H
     obtain ⟨⟨t380, t381, t382, t383⟩, A120, H⟩ := H
     replace H : ((spec_l4Good.f t380 t381 t382 t383).bind fun t385 => (some (t380, t381, t382, t383, t385))) = some (r1, r2, r3, r4, r5) := H
     have A12 := Aside0.mk A120
     clear A120
     replace H := Option.bind_eq_some_iff.mp H
     obtain ⟨t385, A130, H⟩ := H
     replace H : (some (t380, t381, t382, t383, t385)) = some (r1, r2, r3, r4, r5) := H
     have A13 := Aside0.mk A130
     clear A130
     simp only [Option.some.injEq, Prod.mk.injEq] at H
     obtain ⟨rfl, rfl, rfl, rfl, rfl⟩ := H
     go_enter Try.func27, Try.ntmps27
     try go_wp2_with (first | ((with_reducible refine gate_dst (N := 4) rfl ?_); refine box_event rfl (N := 4) rfl (cs := #[.int .i64 0, .int .i64 0, .int .i64 0, .bool false]) (t := 24) sE ?_; intro gb367 hg w14 hbox hb; have BK367 := Aside0.mk hbox; have GW367 := gS w hg (lU); have GE367 := gS w hg (lU); replace HB := bH (lU) hb; clear hb hbox hg; have p368 : 0 ≤ (a1 : Int) := of_decide_eq_true hE; have q368 : a1 < (l0.length : Int) := of_decide_eq_true hE; obtain ⟨ad368, e368, hx368_0, hx368_1, hx368_2, hx368_3, hx368_4, hx368_5⟩ := at_T36 HR0.out a1 p368 q368; cases e368; replace hx368_0 := (HB.out.cell (World.block_lt_of_cell? w _ hx368_0)).trans hx368_0; replace hx368_1 := (HB.out.cell (World.block_lt_of_cell? w _ hx368_1)).trans hx368_1; replace hx368_2 := (HB.out.cell (World.block_lt_of_cell? w _ hx368_2)).trans hx368_2; replace hx368_3 := (HB.out.cell (World.block_lt_of_cell? w _ hx368_3)).trans hx368_3; replace hx368_4 := (HB.out.cell (World.block_lt_of_cell? w _ hx368_4)).trans hx368_4; replace hx368_5 := (HB.out.cell (World.block_lt_of_cell? w _ hx368_5)).trans hx368_5; replace p368 := eq_true p368; replace q368 := eq_true q368) | ((with_reducible refine gate_callee (f := 27) rfl ?_); refine goesL_ (some 19) rfl rfl Try.func27 (by kernel_rfl) rfl #[.slice (some ad368) l0.length c0, .int .i64 ((rd_T36 l0 a1).f1)] rfl aE ?_; (with_reducible refine (ih k (by omega) _ _ l0 ((rd_T36 l0 a1).f1) t369 t370 t371 t372 true _ ?side1 ?side2 A9.out).mono ?_); (case side1 => exact cU (Kd.C_below HR0.out HB.out)); (case side2 => exact HC0.out); rintro e w15 ⟨rfl, hb⟩; refine ⟨_, rfl, ?_⟩; replace BK367 := bB (bV BK367) hb; replace HB := bH (lV1 GE367) hb; (try clear hb)) | ((with_reducible refine gate_dst (N := 6) rfl ?_); refine box_event rfl (N := 6) rfl (cs := #[.int .i64 0, .int .i64 0, .int .i64 0, .bool false]) (t := 24) sE ?_; intro gb374 hg w16 hbox hb; have BK374 := Aside0.mk hbox; have GW374 := gS w hg (lV1 GE367); have GE374 := gS w hg (lV1 GE367); replace HB := bH (lV1 GE367) hb; have NB367_374 := nL hg (bV BK367); have NB374_367 := nG hg (bV BK367); replace BK367 := bB (bV BK367) hb; clear hb hbox hg; have hnb17 := NB374_367.out; have hnc17 := NB367_374.out; have hcz18_0 := cz BK374 0 (.int .i64 0); have hcz18_1 := cz BK374 1 (.int .i64 0); have hcz18_2 := cz BK374 2 (.int .i64 0); have hcz18_3 := cz BK374 3 (.bool false); have hfz18_0 := fz BK374 0; have hfz18_1 := fz BK374 1; have hfz18_2 := fz BK374 2; have hfz18_3 := fz BK374 3) | ((with_reducible refine gate_store (t := 24) (p := 6) rfl ?_); refine store_event (t := 24) (p := 6) (v := ?vo_w19) (w1 := ((((w16.setCell ⟨gb374, 0, none⟩ (.int .i64 t369)).setCell ⟨gb374, 1, none⟩ (.int .i64 t370)).setCell ⟨gb374, 2, none⟩ (.int .i64 t371)).setCell ⟨gb374, 3, none⟩ (.bool t372))) ?hg ?ho ?hn ?hr ?_; (case ho => rfl); (case hg => rfl); (case hn => rfl); (case hr => first | (go_simp; done) | (go_simp; rfl) | (have hq0_ := (blk_cell BK374.out 0).trans (show _ = some _ from rfl); have hf0_ := blk_frozen BK374.out 0; have hq1_ := (blk_cell BK374.out 1).trans (show _ = some _ from rfl); have hf1_ := blk_frozen BK374.out 1; have hq2_ := (blk_cell BK374.out 2).trans (show _ = some _ from rfl); have hf2_ := blk_frozen BK374.out 2; have hq3_ := (blk_cell BK374.out 3).trans (show _ = some _ from rfl); have hf3_ := blk_frozen BK374.out 3; first | (go_simp; done) | (go_simp; rfl))); intro w19 hw; replace BK367 : Aside0 (w19.heap[gb367]? = some (.cells #[.int .i64 0, .int .i64 0, .int .i64 0, .bool false] 24 (0, 0))) := ⟨(by rw [hw]; exact (bG NB367_374 BK367))⟩; replace BK374 : Aside0 (w19.heap[gb374]? = some (.cells #[.int .i64 t369, .int .i64 t370, .int .i64 t371, .bool t372] 24 (0, 0))) := ⟨(by rw [hw]; exact (by refine bU ?_; refine blk_put (cs := #[.int .i64 t369, .int .i64 t370, .int .i64 t371, .bool false]) ?_ 3 _ rfl; refine bU ?_; refine blk_put (cs := #[.int .i64 t369, .int .i64 t370, .int .i64 0, .bool false]) ?_ 2 _ rfl; refine bU ?_; refine blk_put (cs := #[.int .i64 t369, .int .i64 0, .int .i64 0, .bool false]) ?_ 1 _ rfl; refine bU ?_; refine blk_put (cs := #[.int .i64 0, .int .i64 0, .int .i64 0, .bool false]) ?_ 0 _ rfl; refine bU ?_; exact BK374.out))⟩; replace HB : Aside0 (Below w.heap.size w w19) := ⟨(by rw [hw]; exact (lV2 GE367 GE374))⟩; clear hw))
     replace BK367 := Aside0.mk (blk_drew BK367.out)
     replace BK374 := Aside0.mk (blk_drew BK374.out)
     replace HB := Aside0.mk (below_drew1 HB.out)
     have p375 : 0 ≤ (a1 : Int) := of_decide_eq_true hE
     have q375 : a1 < (l0.length : Int) := of_decide_eq_true hE
     obtain ⟨ad375, e375, hx375_0, hx375_1, hx375_2, hx375_3, hx375_4, hx375_5⟩ := at_T36 HR0.out a1 p375 q375
     have hw375_5 := hx375_5
     have hw375_4 := hx375_4
     have hw375_3 := hx375_3
     have hw375_2 := hx375_2
     have hw375_1 := hx375_1
     have hw375_0 := hx375_0
     obtain rfl : ad368 = ad375 := (by injection e375)
     replace hx375_0 := (HB.out.cell (World.block_lt_of_cell? w _ hx375_0)).trans hx375_0
     replace hx375_1 := (HB.out.cell (World.block_lt_of_cell? w _ hx375_1)).trans hx375_1
     replace hx375_2 := (HB.out.cell (World.block_lt_of_cell? w _ hx375_2)).trans hx375_2
     replace hx375_3 := (HB.out.cell (World.block_lt_of_cell? w _ hx375_3)).trans hx375_3
     replace hx375_4 := (HB.out.cell (World.block_lt_of_cell? w _ hx375_4)).trans hx375_4
     replace hx375_5 := (HB.out.cell (World.block_lt_of_cell? w _ hx375_5)).trans hx375_5
     replace p375 := eq_true p375
     replace q375 := eq_true q375
     refine start_ (n := 9) (S := fun w' => w'.cell? ⟨gb374, 0, none⟩ = some (.int .i64 t369) ∧ w'.cell? ⟨gb374, 1, none⟩ = some (.int .i64 t370) ∧ w'.cell? ⟨gb374, 2, none⟩ = some (.int .i64 t371) ∧ w'.cell? ⟨gb374, 3, none⟩ = some (.bool t372) ∧ w'.cell? (ad368.add ((a1).toNat * 6)) = some (.string ((rd_T36 l0 a1).f0)) ∧ w'.cell? ⟨(ad368.add ((a1).toNat * 6)).block, (ad368.add ((a1).toNat * 6)).off + 1, none⟩ = some (.int .i64 ((rd_T36 l0 a1).f1)) ∧ w'.cell? ⟨(ad368.add ((a1).toNat * 6)).block, (ad368.add ((a1).toNat * 6)).off + 2, none⟩ = some (.int .i64 ((rd_T36 l0 a1).f2)) ∧ w'.cell? ⟨(ad368.add ((a1).toNat * 6)).block, (ad368.add ((a1).toNat * 6)).off + 3, none⟩ = some (.int .i64 ((rd_T36 l0 a1).f3)) ∧ w'.cell? ⟨(ad368.add ((a1).toNat * 6)).block, (ad368.add ((a1).toNat * 6)).off + 4, none⟩ = some (.int .i64 ((rd_T36 l0 a1).f4)) ∧ w'.cell? ⟨(ad368.add ((a1).toNat * 6)).block, (ad368.add ((a1).toNat * 6)).off + 5, none⟩ = some (.bool ((rd_T36 l0 a1).f5))) (ds := []) #[false, false, false, false, false, false, false, false, false] (by kernel_rfl) rfl rfl ⟨cz BK374 0 _, cz BK374 1 _, cz BK374 2 _, cz BK374 3 _, ((HB.out.cell (World.block_lt_of_cell? w _ hw375_0)).trans hw375_0), ((HB.out.cell (World.block_lt_of_cell? w _ hw375_1)).trans hw375_1), ((HB.out.cell (World.block_lt_of_cell? w _ hw375_2)).trans hw375_2), ((HB.out.cell (World.block_lt_of_cell? w _ hw375_3)).trans hw375_3), ((HB.out.cell (World.block_lt_of_cell? w _ hw375_4)).trans hw375_4), ((HB.out.cell (World.block_lt_of_cell? w _ hw375_5)).trans hw375_5)⟩ (fun hHeld => ?_); refine with_tabW spec_l4Where.tab6 spec_l4Where.bits6 (fun HT_ HW_ => ?_)
     generalize w19.drew = w20 at BK367 BK374 HB hx375_0 hx375_1 hx375_2 hx375_3 hx375_4 hx375_5 hHeld ⊢
     refine pureA 1 26 (bz 9 2) rfl rfl (any_of HT_.out (by kernel_rfl)) ?_
     refine pureA 2 27 (bz 9 6) rfl rfl (any_of HT_.out (by kernel_rfl)) ?_
     refine pureA 3 28 (bz 9 14) rfl rfl (any_of HT_.out (by kernel_rfl)) ?_
     refine takeA 0 25 (bz 9 15) rfl rfl (take_ofW HT_.out HW_.out (by kernel_rfl)) hHeld (by rintro w' ⟨s0, s1, s2, s3, s4, s5, s6, s7, s8, s9⟩; go_simp; with_reducible rfl) ?_
     refine takeA 4 29 (bz 9 31) rfl rfl (take_ofW HT_.out HW_.out (by kernel_rfl)) hHeld (by rintro w' ⟨s0, s1, s2, s3, s4, s5, s6, s7, s8, s9⟩; go_simp; with_reducible rfl) ?_
     refine join_ (σ := Nat) 1 #[true, true, true, true, true, true, true, true, false] (fun s_ => [(30, .agg #[.int .i64 t376, .int .i64 t377, .int .i64 t378, .bool t379]), (31, .agg #[.int .i64 t380, .int .i64 t381, .int .i64 t382, .bool t383]), (8, .pointer (some ⟨s_, 0, none⟩))]) (fun s_ w' => (w'.cell? ⟨gb374, 0, none⟩ = some (.int .i64 t369) ∧ w'.cell? ⟨gb374, 1, none⟩ = some (.int .i64 t370) ∧ w'.cell? ⟨gb374, 2, none⟩ = some (.int .i64 t371) ∧ w'.cell? ⟨gb374, 3, none⟩ = some (.bool t372) ∧ w'.cell? (ad368.add ((a1).toNat * 6)) = some (.string ((rd_T36 l0 a1).f0)) ∧ w'.cell? ⟨(ad368.add ((a1).toNat * 6)).block, (ad368.add ((a1).toNat * 6)).off + 1, none⟩ = some (.int .i64 ((rd_T36 l0 a1).f1)) ∧ w'.cell? ⟨(ad368.add ((a1).toNat * 6)).block, (ad368.add ((a1).toNat * 6)).off + 2, none⟩ = some (.int .i64 ((rd_T36 l0 a1).f2)) ∧ w'.cell? ⟨(ad368.add ((a1).toNat * 6)).block, (ad368.add ((a1).toNat * 6)).off + 3, none⟩ = some (.int .i64 ((rd_T36 l0 a1).f3)) ∧ w'.cell? ⟨(ad368.add ((a1).toNat * 6)).block, (ad368.add ((a1).toNat * 6)).off + 4, none⟩ = some (.int .i64 ((rd_T36 l0 a1).f4)) ∧ w'.cell? ⟨(ad368.add ((a1).toNat * 6)).block, (ad368.add ((a1).toNat * 6)).off + 5, none⟩ = some (.bool ((rd_T36 l0 a1).f5))) ∧ (w'.heap[gb367]? = some (.cells #[.int .i64 0, .int .i64 0, .int .i64 0, .bool false] 24 (0, 0))) ∧ (w'.heap[gb374]? = some (.cells #[.int .i64 t369, .int .i64 t370, .int .i64 t371, .bool t372] 24 (0, 0))) ∧ (w'.heap[s_]? = some (.cells #[.int .i64 0, .int .i64 0, .int .i64 0, .bool false] 24 (0, 0))) ∧ (w.heap.size ≤ s_) ∧ (w.heap.size ≤ s_) ∧ (gb367 ≠ s_) ∧ (s_ ≠ gb367) ∧ (gb374 ≠ s_) ∧ (s_ ≠ gb374) ∧ (Below w.heap.size w w')) ?_ ?_
     rotate_left
     ·intro hCont
      refine two_ (i := 5) (j := 7) (Ni := some 30) (Nj := some 8) #[true, true, true, true, true, true, false, false, false] #[true, true, true, true, true, false, false, true, false] rfl rfl rfl rfl (two_of HT_.out (by kernel_rfl)) (by decide) (by decide) (fun K hK => ?_) (fun K hK => ?_)
      ·skip
       refine goes_ Try.func39 (by kernel_rfl) rfl #[.agg #[.string ((rd_T36 l0 a1).f0), .int .i64 ((rd_T36 l0 a1).f1), .int .i64 ((rd_T36 l0 a1).f2), .int .i64 ((rd_T36 l0 a1).f3), .int .i64 ((rd_T36 l0 a1).f4), .bool ((rd_T36 l0 a1).f5)]] (by rfl) rfl rfl aE ?_
       with_reducible refine (spec_l4Spot.calls ((rd_T36 l0 a1).f0) ((rd_T36 l0 a1).f1) ((rd_T36 l0 a1).f2) ((rd_T36 l0 a1).f3) ((rd_T36 l0 a1).f4) ((rd_T36 l0 a1).f5) t376 t377 t378 t379 _ A11.out).mono ?_
       rintro e w21 ⟨rfl, hb⟩
       refine ⟨_, rfl, ?_⟩
       replace BK367 := bB (bV BK367) hb
       replace BK374 := bB (bV BK374) hb
       replace HB := bH (lV2 GE367 GE374) hb
       (try clear hb)
       (try clear hb2)
       (try clear hk)
       (try clear hi)
       refine hK.out _ _ ⟨cz BK374 0 _, cz BK374 1 _, cz BK374 2 _, cz BK374 3 _, ((HB.out.cell (World.block_lt_of_cell? w _ hw375_0)).trans hw375_0), ((HB.out.cell (World.block_lt_of_cell? w _ hw375_1)).trans hw375_1), ((HB.out.cell (World.block_lt_of_cell? w _ hw375_2)).trans hw375_2), ((HB.out.cell (World.block_lt_of_cell? w _ hw375_3)).trans hw375_3), ((HB.out.cell (World.block_lt_of_cell? w _ hw375_4)).trans hw375_4), ((HB.out.cell (World.block_lt_of_cell? w _ hw375_5)).trans hw375_5)⟩ (fun hHeld => ?_)
       clear hK K
       refine norm_ (a' := ?_) ?_ ?_
       rotate_left
       ·show Act.put _ (some 30) _ = _
        simp only [Act.put, List.setIfInBounds_toArray, List.set_cons_zero, List.set_cons_succ, i64_w, i32_w]
        rfl
       refine two_ (i := 6) (j := 7) (Ni := some 31) (Nj := some 8) #[true, true, true, true, true, true, true, false, false] #[true, true, true, true, true, true, false, true, false] rfl rfl rfl rfl (two_of HT_.out (by kernel_rfl)) (by decide) (by decide) (fun K hK => ?_) (fun K hK => ?_)
       ·skip
        refine goes_ Try.func28 (by kernel_rfl) rfl #[.agg #[.int .i64 t369, .int .i64 t370, .int .i64 t371, .bool t372], .agg #[.int .i64 t376, .int .i64 t377, .int .i64 t378, .bool t379]] (by rfl) rfl rfl aE ?_
        with_reducible refine (spec_l4Join.calls k t369 t370 t371 t372 t376 t377 t378 t379 t380 t381 t382 t383 _ A12.out).mono ?_
        rintro e w22 ⟨rfl, hb⟩
        refine ⟨_, rfl, ?_⟩
        replace BK367 := bB (bV BK367) hb
        replace BK374 := bB (bV BK374) hb
        replace HB := bH (lV2 GE367 GE374) hb
        (try clear hb)
        (try clear hb2)
        (try clear hk)
        (try clear hi)
        refine hK.out _ _ ⟨cz BK374 0 _, cz BK374 1 _, cz BK374 2 _, cz BK374 3 _, ((HB.out.cell (World.block_lt_of_cell? w _ hw375_0)).trans hw375_0), ((HB.out.cell (World.block_lt_of_cell? w _ hw375_1)).trans hw375_1), ((HB.out.cell (World.block_lt_of_cell? w _ hw375_2)).trans hw375_2), ((HB.out.cell (World.block_lt_of_cell? w _ hw375_3)).trans hw375_3), ((HB.out.cell (World.block_lt_of_cell? w _ hw375_4)).trans hw375_4), ((HB.out.cell (World.block_lt_of_cell? w _ hw375_5)).trans hw375_5)⟩ (fun hHeld => ?_)
        clear hK K
        refine norm_ (a' := ?_) ?_ ?_
        rotate_left
        ·show Act.put _ (some 31) _ = _
         simp only [Act.put, List.setIfInBounds_toArray, List.set_cons_zero, List.set_cons_succ, i64_w, i32_w]
         rfl
        refine one_ (i := 7) (N := some 8) (bz 9 255) rfl rfl (one_of HT_.out (by kernel_rfl)) (by decide) (fun K hK => ?_)
        refine box_step ?hg (N := 8) ?hd (cs := #[.int .i64 0, .int .i64 0, .int .i64 0, .bool false]) (t := 24) ?hr ?_; (case hd => rfl); (case hg => rfl); (case hr => exact sE)
        intro gb384 hg w23 hbox hb
        have BK384 := Aside0.mk hbox
        have GW384 := gS w hg (lV2 GE367 GE374)
        have GE384 := gS w hg (lV2 GE367 GE374)
        replace HB := bH (lV2 GE367 GE374) hb
        have NB367_384 := nL hg (bV BK367)
        have NB384_367 := nG hg (bV BK367)
        replace BK367 := bB (bV BK367) hb
        have NB374_384 := nL hg (bV BK374)
        have NB384_374 := nG hg (bV BK374)
        replace BK374 := bB (bV BK374) hb
        clear hb hbox hg
        refine hK.out _ _ ⟨cz BK374 0 _, cz BK374 1 _, cz BK374 2 _, cz BK374 3 _, ((HB.out.cell (World.block_lt_of_cell? w _ hw375_0)).trans hw375_0), ((HB.out.cell (World.block_lt_of_cell? w _ hw375_1)).trans hw375_1), ((HB.out.cell (World.block_lt_of_cell? w _ hw375_2)).trans hw375_2), ((HB.out.cell (World.block_lt_of_cell? w _ hw375_3)).trans hw375_3), ((HB.out.cell (World.block_lt_of_cell? w _ hw375_4)).trans hw375_4), ((HB.out.cell (World.block_lt_of_cell? w _ hw375_5)).trans hw375_5)⟩ (fun hHeld => ?_)
        clear hK K
        refine norm_ (a' := ?_) ?_ ?_
        rotate_left
        ·show Act.put _ (some 8) _ = _
         simp only [Act.put, List.setIfInBounds_toArray, List.set_cons_zero, List.set_cons_succ, i64_w, i32_w]
         rfl
        exact norm_ (by simp only [putAll, Act.put, List.setIfInBounds_toArray, List.set_cons_zero, List.set_cons_succ]) (hCont (gb384) _ ⟨hHeld, (bV BK367), (bV BK374), (bV BK384), GW384.out, GE384.out, NB367_384.out, NB384_367.out, NB374_384.out, NB384_374.out, (lV3 GE367 GE374 GE384)⟩)
       ·skip
        refine box_step ?hg (N := 8) ?hd (cs := #[.int .i64 0, .int .i64 0, .int .i64 0, .bool false]) (t := 24) ?hr ?_; (case hd => rfl); (case hg => rfl); (case hr => exact sE)
        intro gb384 hg w22 hbox hb
        have BK384 := Aside0.mk hbox
        have GW384 := gS w hg (lV2 GE367 GE374)
        have GE384 := gS w hg (lV2 GE367 GE374)
        replace HB := bH (lV2 GE367 GE374) hb
        have NB367_384 := nL hg (bV BK367)
        have NB384_367 := nG hg (bV BK367)
        replace BK367 := bB (bV BK367) hb
        have NB374_384 := nL hg (bV BK374)
        have NB384_374 := nG hg (bV BK374)
        replace BK374 := bB (bV BK374) hb
        clear hb hbox hg
        refine hK.out _ _ ⟨cz BK374 0 _, cz BK374 1 _, cz BK374 2 _, cz BK374 3 _, ((HB.out.cell (World.block_lt_of_cell? w _ hw375_0)).trans hw375_0), ((HB.out.cell (World.block_lt_of_cell? w _ hw375_1)).trans hw375_1), ((HB.out.cell (World.block_lt_of_cell? w _ hw375_2)).trans hw375_2), ((HB.out.cell (World.block_lt_of_cell? w _ hw375_3)).trans hw375_3), ((HB.out.cell (World.block_lt_of_cell? w _ hw375_4)).trans hw375_4), ((HB.out.cell (World.block_lt_of_cell? w _ hw375_5)).trans hw375_5)⟩ (fun hHeld => ?_)
        clear hK K
        refine norm_ (a' := ?_) ?_ ?_
        rotate_left
        ·show Act.put _ (some 8) _ = _
         simp only [Act.put, List.setIfInBounds_toArray, List.set_cons_zero, List.set_cons_succ, i64_w, i32_w]
         rfl
        refine one_ (i := 6) (N := some 31) (bz 9 255) rfl rfl (one_of HT_.out (by kernel_rfl)) (by decide) (fun K hK => ?_)
        refine goes_ Try.func28 (by kernel_rfl) rfl #[.agg #[.int .i64 t369, .int .i64 t370, .int .i64 t371, .bool t372], .agg #[.int .i64 t376, .int .i64 t377, .int .i64 t378, .bool t379]] (by rfl) rfl rfl aE ?_
        with_reducible refine (spec_l4Join.calls k t369 t370 t371 t372 t376 t377 t378 t379 t380 t381 t382 t383 _ A12.out).mono ?_
        rintro e w23 ⟨rfl, hb⟩
        refine ⟨_, rfl, ?_⟩
        replace BK367 := bB (bV BK367) hb
        replace BK374 := bB (bV BK374) hb
        replace BK384 := bB (bV BK384) hb
        replace HB := bH (lV3 GE367 GE374 GE384) hb
        (try clear hb)
        (try clear hb2)
        (try clear hk)
        (try clear hi)
        refine hK.out _ _ ⟨cz BK374 0 _, cz BK374 1 _, cz BK374 2 _, cz BK374 3 _, ((HB.out.cell (World.block_lt_of_cell? w _ hw375_0)).trans hw375_0), ((HB.out.cell (World.block_lt_of_cell? w _ hw375_1)).trans hw375_1), ((HB.out.cell (World.block_lt_of_cell? w _ hw375_2)).trans hw375_2), ((HB.out.cell (World.block_lt_of_cell? w _ hw375_3)).trans hw375_3), ((HB.out.cell (World.block_lt_of_cell? w _ hw375_4)).trans hw375_4), ((HB.out.cell (World.block_lt_of_cell? w _ hw375_5)).trans hw375_5)⟩ (fun hHeld => ?_)
        clear hK K
        refine norm_ (a' := ?_) ?_ ?_
        rotate_left
        ·show Act.put _ (some 31) _ = _
         simp only [Act.put, List.setIfInBounds_toArray, List.set_cons_zero, List.set_cons_succ, i64_w, i32_w]
         rfl
        exact norm_ (by simp only [putAll, Act.put, List.setIfInBounds_toArray, List.set_cons_zero, List.set_cons_succ]) (hCont (gb384) _ ⟨hHeld, (bV BK367), (bV BK374), (bV BK384), GW384.out, GE384.out, NB367_384.out, NB384_367.out, NB374_384.out, NB384_374.out, (lV3 GE367 GE374 GE384)⟩)
      ·skip
       refine box_step ?hg (N := 8) ?hd (cs := #[.int .i64 0, .int .i64 0, .int .i64 0, .bool false]) (t := 24) ?hr ?_; (case hd => rfl); (case hg => rfl); (case hr => exact sE)
       intro gb384 hg w21 hbox hb
       have BK384 := Aside0.mk hbox
       have GW384 := gS w hg (lV2 GE367 GE374)
       have GE384 := gS w hg (lV2 GE367 GE374)
       replace HB := bH (lV2 GE367 GE374) hb
       have NB367_384 := nL hg (bV BK367)
       have NB384_367 := nG hg (bV BK367)
       replace BK367 := bB (bV BK367) hb
       have NB374_384 := nL hg (bV BK374)
       have NB384_374 := nG hg (bV BK374)
       replace BK374 := bB (bV BK374) hb
       clear hb hbox hg
       refine hK.out _ _ ⟨cz BK374 0 _, cz BK374 1 _, cz BK374 2 _, cz BK374 3 _, ((HB.out.cell (World.block_lt_of_cell? w _ hw375_0)).trans hw375_0), ((HB.out.cell (World.block_lt_of_cell? w _ hw375_1)).trans hw375_1), ((HB.out.cell (World.block_lt_of_cell? w _ hw375_2)).trans hw375_2), ((HB.out.cell (World.block_lt_of_cell? w _ hw375_3)).trans hw375_3), ((HB.out.cell (World.block_lt_of_cell? w _ hw375_4)).trans hw375_4), ((HB.out.cell (World.block_lt_of_cell? w _ hw375_5)).trans hw375_5)⟩ (fun hHeld => ?_)
       clear hK K
       refine norm_ (a' := ?_) ?_ ?_
       rotate_left
       ·show Act.put _ (some 8) _ = _
        simp only [Act.put, List.setIfInBounds_toArray, List.set_cons_zero, List.set_cons_succ, i64_w, i32_w]
        rfl
       refine one_ (i := 5) (N := some 30) (bz 9 191) rfl rfl (one_of HT_.out (by kernel_rfl)) (by decide) (fun K hK => ?_)
       refine goes_ Try.func39 (by kernel_rfl) rfl #[.agg #[.string ((rd_T36 l0 a1).f0), .int .i64 ((rd_T36 l0 a1).f1), .int .i64 ((rd_T36 l0 a1).f2), .int .i64 ((rd_T36 l0 a1).f3), .int .i64 ((rd_T36 l0 a1).f4), .bool ((rd_T36 l0 a1).f5)]] (by rfl) rfl rfl aE ?_
       with_reducible refine (spec_l4Spot.calls ((rd_T36 l0 a1).f0) ((rd_T36 l0 a1).f1) ((rd_T36 l0 a1).f2) ((rd_T36 l0 a1).f3) ((rd_T36 l0 a1).f4) ((rd_T36 l0 a1).f5) t376 t377 t378 t379 _ A11.out).mono ?_
       rintro e w22 ⟨rfl, hb⟩
       refine ⟨_, rfl, ?_⟩
       replace BK367 := bB (bV BK367) hb
       replace BK374 := bB (bV BK374) hb
       replace BK384 := bB (bV BK384) hb
       replace HB := bH (lV3 GE367 GE374 GE384) hb
       (try clear hb)
       (try clear hb2)
       (try clear hk)
       (try clear hi)
       refine hK.out _ _ ⟨cz BK374 0 _, cz BK374 1 _, cz BK374 2 _, cz BK374 3 _, ((HB.out.cell (World.block_lt_of_cell? w _ hw375_0)).trans hw375_0), ((HB.out.cell (World.block_lt_of_cell? w _ hw375_1)).trans hw375_1), ((HB.out.cell (World.block_lt_of_cell? w _ hw375_2)).trans hw375_2), ((HB.out.cell (World.block_lt_of_cell? w _ hw375_3)).trans hw375_3), ((HB.out.cell (World.block_lt_of_cell? w _ hw375_4)).trans hw375_4), ((HB.out.cell (World.block_lt_of_cell? w _ hw375_5)).trans hw375_5)⟩ (fun hHeld => ?_)
       clear hK K
       refine norm_ (a' := ?_) ?_ ?_
       rotate_left
       ·show Act.put _ (some 30) _ = _
        simp only [Act.put, List.setIfInBounds_toArray, List.set_cons_zero, List.set_cons_succ, i64_w, i32_w]
        rfl
       refine one_ (i := 6) (N := some 31) (bz 9 255) rfl rfl (one_of HT_.out (by kernel_rfl)) (by decide) (fun K hK => ?_)
       refine goes_ Try.func28 (by kernel_rfl) rfl #[.agg #[.int .i64 t369, .int .i64 t370, .int .i64 t371, .bool t372], .agg #[.int .i64 t376, .int .i64 t377, .int .i64 t378, .bool t379]] (by rfl) rfl rfl aE ?_
       with_reducible refine (spec_l4Join.calls k t369 t370 t371 t372 t376 t377 t378 t379 t380 t381 t382 t383 _ A12.out).mono ?_
       rintro e w23 ⟨rfl, hb⟩
       refine ⟨_, rfl, ?_⟩
       replace BK367 := bB (bV BK367) hb
       replace BK374 := bB (bV BK374) hb
       replace BK384 := bB (bV BK384) hb
       replace HB := bH (lV3 GE367 GE374 GE384) hb
       (try clear hb)
       (try clear hb2)
       (try clear hk)
       (try clear hi)
       refine hK.out _ _ ⟨cz BK374 0 _, cz BK374 1 _, cz BK374 2 _, cz BK374 3 _, ((HB.out.cell (World.block_lt_of_cell? w _ hw375_0)).trans hw375_0), ((HB.out.cell (World.block_lt_of_cell? w _ hw375_1)).trans hw375_1), ((HB.out.cell (World.block_lt_of_cell? w _ hw375_2)).trans hw375_2), ((HB.out.cell (World.block_lt_of_cell? w _ hw375_3)).trans hw375_3), ((HB.out.cell (World.block_lt_of_cell? w _ hw375_4)).trans hw375_4), ((HB.out.cell (World.block_lt_of_cell? w _ hw375_5)).trans hw375_5)⟩ (fun hHeld => ?_)
       clear hK K
       refine norm_ (a' := ?_) ?_ ?_
       rotate_left
       ·show Act.put _ (some 31) _ = _
        simp only [Act.put, List.setIfInBounds_toArray, List.set_cons_zero, List.set_cons_succ, i64_w, i32_w]
        rfl
       exact norm_ (by simp only [putAll, Act.put, List.setIfInBounds_toArray, List.set_cons_zero, List.set_cons_succ]) (hCont (gb384) _ ⟨hHeld, (bV BK367), (bV BK374), (bV BK384), GW384.out, GE384.out, NB367_384.out, NB384_367.out, NB374_384.out, NB384_374.out, (lV3 GE367 GE374 GE384)⟩)
     rintro gb384 w24 ⟨hS_, h0_, h1_, h2_, h3_, h4_, h5_, h6_, h7_, h8_, h9_⟩
     replace BK367 : Aside0 (w24.heap[gb367]? = some (.cells #[.int .i64 0, .int .i64 0, .int .i64 0, .bool false] 24 (0, 0))) := ⟨h0_⟩
     replace BK374 : Aside0 (w24.heap[gb374]? = some (.cells #[.int .i64 t369, .int .i64 t370, .int .i64 t371, .bool t372] 24 (0, 0))) := ⟨h1_⟩
     have BK384 : Aside0 (w24.heap[gb384]? = some (.cells #[.int .i64 0, .int .i64 0, .int .i64 0, .bool false] 24 (0, 0))) := ⟨h2_⟩
     have GW384 : Aside0 (w.heap.size ≤ gb384) := ⟨h3_⟩
     have GE384 : Aside0 (w.heap.size ≤ gb384) := ⟨h4_⟩
     have NB367_384 : Aside0 (gb367 ≠ gb384) := ⟨h5_⟩
     have NB384_367 : Aside0 (gb384 ≠ gb367) := ⟨h6_⟩
     have NB374_384 : Aside0 (gb374 ≠ gb384) := ⟨h7_⟩
     have NB384_374 : Aside0 (gb384 ≠ gb374) := ⟨h8_⟩
     replace HB : Aside0 (Below w.heap.size w w24) := ⟨h9_⟩
     clear h0_ h1_ h2_ h3_ h4_ h5_ h6_ h7_ h8_ h9_
     have hHeld : w24.cell? ⟨gb374, 0, none⟩ = some (.int .i64 t369) ∧ w24.cell? ⟨gb374, 1, none⟩ = some (.int .i64 t370) ∧ w24.cell? ⟨gb374, 2, none⟩ = some (.int .i64 t371) ∧ w24.cell? ⟨gb374, 3, none⟩ = some (.bool t372) ∧ w24.cell? (ad368.add ((a1).toNat * 6)) = some (.string ((rd_T36 l0 a1).f0)) ∧ w24.cell? ⟨(ad368.add ((a1).toNat * 6)).block, (ad368.add ((a1).toNat * 6)).off + 1, none⟩ = some (.int .i64 ((rd_T36 l0 a1).f1)) ∧ w24.cell? ⟨(ad368.add ((a1).toNat * 6)).block, (ad368.add ((a1).toNat * 6)).off + 2, none⟩ = some (.int .i64 ((rd_T36 l0 a1).f2)) ∧ w24.cell? ⟨(ad368.add ((a1).toNat * 6)).block, (ad368.add ((a1).toNat * 6)).off + 3, none⟩ = some (.int .i64 ((rd_T36 l0 a1).f3)) ∧ w24.cell? ⟨(ad368.add ((a1).toNat * 6)).block, (ad368.add ((a1).toNat * 6)).off + 4, none⟩ = some (.int .i64 ((rd_T36 l0 a1).f4)) ∧ w24.cell? ⟨(ad368.add ((a1).toNat * 6)).block, (ad368.add ((a1).toNat * 6)).off + 5, none⟩ = some (.bool ((rd_T36 l0 a1).f5)) := hS_
     refine norm_ (a' := ?_) ?_ ?_
     rotate_left
     ·simp only [putAll, Act.put, List.setIfInBounds_toArray, List.set_cons_zero, List.set_cons_succ]
      rfl
     refine one_ (i := 8) (N := none) (bz 9 511) rfl rfl (one_of HT_.out (by kernel_rfl)) (by decide) (fun K hK => ?_)
     have hs25 : w24.cell? ⟨gb384, 0, none⟩ = some (.int .i64 0) := (blk_cell BK384.out 0).trans rfl
     have hfs25 := blk_frozen BK384.out 0
     have hns25_0 := NB367_384.out
     have hns25_1 := NB374_384.out
     have hms25_0 := NB384_367.out
     have hms25_1 := NB384_374.out
     have hs26 : w24.cell? ⟨gb384, 1, none⟩ = some (.int .i64 0) := (blk_cell BK384.out 1).trans rfl
     have hfs26 := blk_frozen BK384.out 1
     have hns26_0 := NB367_384.out
     have hns26_1 := NB374_384.out
     have hms26_0 := NB384_367.out
     have hms26_1 := NB384_374.out
     have hs27 : w24.cell? ⟨gb384, 2, none⟩ = some (.int .i64 0) := (blk_cell BK384.out 2).trans rfl
     have hfs27 := blk_frozen BK384.out 2
     have hns27_0 := NB367_384.out
     have hns27_1 := NB374_384.out
     have hms27_0 := NB384_367.out
     have hms27_1 := NB384_374.out
     have hs28 : w24.cell? ⟨gb384, 3, none⟩ = some (.bool false) := (blk_cell BK384.out 3).trans rfl
     have hfs28 := blk_frozen BK384.out 3
     have hns28_0 := NB367_384.out
     have hns28_1 := NB374_384.out
     have hms28_0 := NB384_367.out
     have hms28_1 := NB384_374.out
     refine skip_ (w1 := ?_) (by rfl) rfl ?_ ?_
     rotate_left
     ·go_simp
      rfl
     refine hK.out _ _ ⟨((cell_far (p := ⟨gb384, _, none⟩) NB374_384.out _).trans (((cell_far (p := ⟨gb384, _, none⟩) NB374_384.out _).trans (((cell_far (p := ⟨gb384, _, none⟩) NB374_384.out _).trans (((cell_far (p := ⟨gb384, _, none⟩) NB374_384.out _).trans (hHeld.1)))))))), ((cell_far (p := ⟨gb384, _, none⟩) NB374_384.out _).trans (((cell_far (p := ⟨gb384, _, none⟩) NB374_384.out _).trans (((cell_far (p := ⟨gb384, _, none⟩) NB374_384.out _).trans (((cell_far (p := ⟨gb384, _, none⟩) NB374_384.out _).trans (hHeld.2.1)))))))), ((cell_far (p := ⟨gb384, _, none⟩) NB374_384.out _).trans (((cell_far (p := ⟨gb384, _, none⟩) NB374_384.out _).trans (((cell_far (p := ⟨gb384, _, none⟩) NB374_384.out _).trans (((cell_far (p := ⟨gb384, _, none⟩) NB374_384.out _).trans (hHeld.2.2.1)))))))), ((cell_far (p := ⟨gb384, _, none⟩) NB374_384.out _).trans (((cell_far (p := ⟨gb384, _, none⟩) NB374_384.out _).trans (((cell_far (p := ⟨gb384, _, none⟩) NB374_384.out _).trans (((cell_far (p := ⟨gb384, _, none⟩) NB374_384.out _).trans (hHeld.2.2.2.1)))))))), ((cell_far (p := ⟨gb384, _, none⟩) (by first | exact Nat.ne_of_lt (Nat.lt_of_lt_of_le (by have := World.block_lt_of_cell? _ _ hw375_0; first | rwa [add_block] at this | exact this) GW384.out) | (rw [add_block]; exact Nat.ne_of_lt (Nat.lt_of_lt_of_le (by have := World.block_lt_of_cell? _ _ hw375_0; first | rwa [add_block] at this | exact this) GW384.out)) | (show (Addr.add _ _).block ≠ _; rw [add_block]; exact Nat.ne_of_lt (Nat.lt_of_lt_of_le (by have := World.block_lt_of_cell? _ _ hw375_0; first | rwa [add_block] at this | exact this) GW384.out)) | (dsimp only; exact Nat.ne_of_lt (Nat.lt_of_lt_of_le (by have := World.block_lt_of_cell? _ _ hw375_0; first | rwa [add_block] at this | exact this) GW384.out))) _).trans (((cell_far (p := ⟨gb384, _, none⟩) (by first | exact Nat.ne_of_lt (Nat.lt_of_lt_of_le (by have := World.block_lt_of_cell? _ _ hw375_0; first | rwa [add_block] at this | exact this) GW384.out) | (rw [add_block]; exact Nat.ne_of_lt (Nat.lt_of_lt_of_le (by have := World.block_lt_of_cell? _ _ hw375_0; first | rwa [add_block] at this | exact this) GW384.out)) | (show (Addr.add _ _).block ≠ _; rw [add_block]; exact Nat.ne_of_lt (Nat.lt_of_lt_of_le (by have := World.block_lt_of_cell? _ _ hw375_0; first | rwa [add_block] at this | exact this) GW384.out)) | (dsimp only; exact Nat.ne_of_lt (Nat.lt_of_lt_of_le (by have := World.block_lt_of_cell? _ _ hw375_0; first | rwa [add_block] at this | exact this) GW384.out))) _).trans (((cell_far (p := ⟨gb384, _, none⟩) (by first | exact Nat.ne_of_lt (Nat.lt_of_lt_of_le (by have := World.block_lt_of_cell? _ _ hw375_0; first | rwa [add_block] at this | exact this) GW384.out) | (rw [add_block]; exact Nat.ne_of_lt (Nat.lt_of_lt_of_le (by have := World.block_lt_of_cell? _ _ hw375_0; first | rwa [add_block] at this | exact this) GW384.out)) | (show (Addr.add _ _).block ≠ _; rw [add_block]; exact Nat.ne_of_lt (Nat.lt_of_lt_of_le (by have := World.block_lt_of_cell? _ _ hw375_0; first | rwa [add_block] at this | exact this) GW384.out)) | (dsimp only; exact Nat.ne_of_lt (Nat.lt_of_lt_of_le (by have := World.block_lt_of_cell? _ _ hw375_0; first | rwa [add_block] at this | exact this) GW384.out))) _).trans (((cell_far (p := ⟨gb384, _, none⟩) (by first | exact Nat.ne_of_lt (Nat.lt_of_lt_of_le (by have := World.block_lt_of_cell? _ _ hw375_0; first | rwa [add_block] at this | exact this) GW384.out) | (rw [add_block]; exact Nat.ne_of_lt (Nat.lt_of_lt_of_le (by have := World.block_lt_of_cell? _ _ hw375_0; first | rwa [add_block] at this | exact this) GW384.out)) | (show (Addr.add _ _).block ≠ _; rw [add_block]; exact Nat.ne_of_lt (Nat.lt_of_lt_of_le (by have := World.block_lt_of_cell? _ _ hw375_0; first | rwa [add_block] at this | exact this) GW384.out)) | (dsimp only; exact Nat.ne_of_lt (Nat.lt_of_lt_of_le (by have := World.block_lt_of_cell? _ _ hw375_0; first | rwa [add_block] at this | exact this) GW384.out))) _).trans (hHeld.2.2.2.2.1)))))))), ((cell_far (p := ⟨gb384, _, none⟩) (by first | exact Nat.ne_of_lt (Nat.lt_of_lt_of_le (by have := World.block_lt_of_cell? _ _ hw375_1; first | rwa [add_block] at this | exact this) GW384.out) | (rw [add_block]; exact Nat.ne_of_lt (Nat.lt_of_lt_of_le (by have := World.block_lt_of_cell? _ _ hw375_1; first | rwa [add_block] at this | exact this) GW384.out)) | (show (Addr.add _ _).block ≠ _; rw [add_block]; exact Nat.ne_of_lt (Nat.lt_of_lt_of_le (by have := World.block_lt_of_cell? _ _ hw375_1; first | rwa [add_block] at this | exact this) GW384.out)) | (dsimp only; exact Nat.ne_of_lt (Nat.lt_of_lt_of_le (by have := World.block_lt_of_cell? _ _ hw375_1; first | rwa [add_block] at this | exact this) GW384.out))) _).trans (((cell_far (p := ⟨gb384, _, none⟩) (by first | exact Nat.ne_of_lt (Nat.lt_of_lt_of_le (by have := World.block_lt_of_cell? _ _ hw375_1; first | rwa [add_block] at this | exact this) GW384.out) | (rw [add_block]; exact Nat.ne_of_lt (Nat.lt_of_lt_of_le (by have := World.block_lt_of_cell? _ _ hw375_1; first | rwa [add_block] at this | exact this) GW384.out)) | (show (Addr.add _ _).block ≠ _; rw [add_block]; exact Nat.ne_of_lt (Nat.lt_of_lt_of_le (by have := World.block_lt_of_cell? _ _ hw375_1; first | rwa [add_block] at this | exact this) GW384.out)) | (dsimp only; exact Nat.ne_of_lt (Nat.lt_of_lt_of_le (by have := World.block_lt_of_cell? _ _ hw375_1; first | rwa [add_block] at this | exact this) GW384.out))) _).trans (((cell_far (p := ⟨gb384, _, none⟩) (by first | exact Nat.ne_of_lt (Nat.lt_of_lt_of_le (by have := World.block_lt_of_cell? _ _ hw375_1; first | rwa [add_block] at this | exact this) GW384.out) | (rw [add_block]; exact Nat.ne_of_lt (Nat.lt_of_lt_of_le (by have := World.block_lt_of_cell? _ _ hw375_1; first | rwa [add_block] at this | exact this) GW384.out)) | (show (Addr.add _ _).block ≠ _; rw [add_block]; exact Nat.ne_of_lt (Nat.lt_of_lt_of_le (by have := World.block_lt_of_cell? _ _ hw375_1; first | rwa [add_block] at this | exact this) GW384.out)) | (dsimp only; exact Nat.ne_of_lt (Nat.lt_of_lt_of_le (by have := World.block_lt_of_cell? _ _ hw375_1; first | rwa [add_block] at this | exact this) GW384.out))) _).trans (((cell_far (p := ⟨gb384, _, none⟩) (by first | exact Nat.ne_of_lt (Nat.lt_of_lt_of_le (by have := World.block_lt_of_cell? _ _ hw375_1; first | rwa [add_block] at this | exact this) GW384.out) | (rw [add_block]; exact Nat.ne_of_lt (Nat.lt_of_lt_of_le (by have := World.block_lt_of_cell? _ _ hw375_1; first | rwa [add_block] at this | exact this) GW384.out)) | (show (Addr.add _ _).block ≠ _; rw [add_block]; exact Nat.ne_of_lt (Nat.lt_of_lt_of_le (by have := World.block_lt_of_cell? _ _ hw375_1; first | rwa [add_block] at this | exact this) GW384.out)) | (dsimp only; exact Nat.ne_of_lt (Nat.lt_of_lt_of_le (by have := World.block_lt_of_cell? _ _ hw375_1; first | rwa [add_block] at this | exact this) GW384.out))) _).trans (hHeld.2.2.2.2.2.1)))))))), ((cell_far (p := ⟨gb384, _, none⟩) (by first | exact Nat.ne_of_lt (Nat.lt_of_lt_of_le (by have := World.block_lt_of_cell? _ _ hw375_2; first | rwa [add_block] at this | exact this) GW384.out) | (rw [add_block]; exact Nat.ne_of_lt (Nat.lt_of_lt_of_le (by have := World.block_lt_of_cell? _ _ hw375_2; first | rwa [add_block] at this | exact this) GW384.out)) | (show (Addr.add _ _).block ≠ _; rw [add_block]; exact Nat.ne_of_lt (Nat.lt_of_lt_of_le (by have := World.block_lt_of_cell? _ _ hw375_2; first | rwa [add_block] at this | exact this) GW384.out)) | (dsimp only; exact Nat.ne_of_lt (Nat.lt_of_lt_of_le (by have := World.block_lt_of_cell? _ _ hw375_2; first | rwa [add_block] at this | exact this) GW384.out))) _).trans (((cell_far (p := ⟨gb384, _, none⟩) (by first | exact Nat.ne_of_lt (Nat.lt_of_lt_of_le (by have := World.block_lt_of_cell? _ _ hw375_2; first | rwa [add_block] at this | exact this) GW384.out) | (rw [add_block]; exact Nat.ne_of_lt (Nat.lt_of_lt_of_le (by have := World.block_lt_of_cell? _ _ hw375_2; first | rwa [add_block] at this | exact this) GW384.out)) | (show (Addr.add _ _).block ≠ _; rw [add_block]; exact Nat.ne_of_lt (Nat.lt_of_lt_of_le (by have := World.block_lt_of_cell? _ _ hw375_2; first | rwa [add_block] at this | exact this) GW384.out)) | (dsimp only; exact Nat.ne_of_lt (Nat.lt_of_lt_of_le (by have := World.block_lt_of_cell? _ _ hw375_2; first | rwa [add_block] at this | exact this) GW384.out))) _).trans (((cell_far (p := ⟨gb384, _, none⟩) (by first | exact Nat.ne_of_lt (Nat.lt_of_lt_of_le (by have := World.block_lt_of_cell? _ _ hw375_2; first | rwa [add_block] at this | exact this) GW384.out) | (rw [add_block]; exact Nat.ne_of_lt (Nat.lt_of_lt_of_le (by have := World.block_lt_of_cell? _ _ hw375_2; first | rwa [add_block] at this | exact this) GW384.out)) | (show (Addr.add _ _).block ≠ _; rw [add_block]; exact Nat.ne_of_lt (Nat.lt_of_lt_of_le (by have := World.block_lt_of_cell? _ _ hw375_2; first | rwa [add_block] at this | exact this) GW384.out)) | (dsimp only; exact Nat.ne_of_lt (Nat.lt_of_lt_of_le (by have := World.block_lt_of_cell? _ _ hw375_2; first | rwa [add_block] at this | exact this) GW384.out))) _).trans (((cell_far (p := ⟨gb384, _, none⟩) (by first | exact Nat.ne_of_lt (Nat.lt_of_lt_of_le (by have := World.block_lt_of_cell? _ _ hw375_2; first | rwa [add_block] at this | exact this) GW384.out) | (rw [add_block]; exact Nat.ne_of_lt (Nat.lt_of_lt_of_le (by have := World.block_lt_of_cell? _ _ hw375_2; first | rwa [add_block] at this | exact this) GW384.out)) | (show (Addr.add _ _).block ≠ _; rw [add_block]; exact Nat.ne_of_lt (Nat.lt_of_lt_of_le (by have := World.block_lt_of_cell? _ _ hw375_2; first | rwa [add_block] at this | exact this) GW384.out)) | (dsimp only; exact Nat.ne_of_lt (Nat.lt_of_lt_of_le (by have := World.block_lt_of_cell? _ _ hw375_2; first | rwa [add_block] at this | exact this) GW384.out))) _).trans (hHeld.2.2.2.2.2.2.1)))))))), ((cell_far (p := ⟨gb384, _, none⟩) (by first | exact Nat.ne_of_lt (Nat.lt_of_lt_of_le (by have := World.block_lt_of_cell? _ _ hw375_3; first | rwa [add_block] at this | exact this) GW384.out) | (rw [add_block]; exact Nat.ne_of_lt (Nat.lt_of_lt_of_le (by have := World.block_lt_of_cell? _ _ hw375_3; first | rwa [add_block] at this | exact this) GW384.out)) | (show (Addr.add _ _).block ≠ _; rw [add_block]; exact Nat.ne_of_lt (Nat.lt_of_lt_of_le (by have := World.block_lt_of_cell? _ _ hw375_3; first | rwa [add_block] at this | exact this) GW384.out)) | (dsimp only; exact Nat.ne_of_lt (Nat.lt_of_lt_of_le (by have := World.block_lt_of_cell? _ _ hw375_3; first | rwa [add_block] at this | exact this) GW384.out))) _).trans (((cell_far (p := ⟨gb384, _, none⟩) (by first | exact Nat.ne_of_lt (Nat.lt_of_lt_of_le (by have := World.block_lt_of_cell? _ _ hw375_3; first | rwa [add_block] at this | exact this) GW384.out) | (rw [add_block]; exact Nat.ne_of_lt (Nat.lt_of_lt_of_le (by have := World.block_lt_of_cell? _ _ hw375_3; first | rwa [add_block] at this | exact this) GW384.out)) | (show (Addr.add _ _).block ≠ _; rw [add_block]; exact Nat.ne_of_lt (Nat.lt_of_lt_of_le (by have := World.block_lt_of_cell? _ _ hw375_3; first | rwa [add_block] at this | exact this) GW384.out)) | (dsimp only; exact Nat.ne_of_lt (Nat.lt_of_lt_of_le (by have := World.block_lt_of_cell? _ _ hw375_3; first | rwa [add_block] at this | exact this) GW384.out))) _).trans (((cell_far (p := ⟨gb384, _, none⟩) (by first | exact Nat.ne_of_lt (Nat.lt_of_lt_of_le (by have := World.block_lt_of_cell? _ _ hw375_3; first | rwa [add_block] at this | exact this) GW384.out) | (rw [add_block]; exact Nat.ne_of_lt (Nat.lt_of_lt_of_le (by have := World.block_lt_of_cell? _ _ hw375_3; first | rwa [add_block] at this | exact this) GW384.out)) | (show (Addr.add _ _).block ≠ _; rw [add_block]; exact Nat.ne_of_lt (Nat.lt_of_lt_of_le (by have := World.block_lt_of_cell? _ _ hw375_3; first | rwa [add_block] at this | exact this) GW384.out)) | (dsimp only; exact Nat.ne_of_lt (Nat.lt_of_lt_of_le (by have := World.block_lt_of_cell? _ _ hw375_3; first | rwa [add_block] at this | exact this) GW384.out))) _).trans (((cell_far (p := ⟨gb384, _, none⟩) (by first | exact Nat.ne_of_lt (Nat.lt_of_lt_of_le (by have := World.block_lt_of_cell? _ _ hw375_3; first | rwa [add_block] at this | exact this) GW384.out) | (rw [add_block]; exact Nat.ne_of_lt (Nat.lt_of_lt_of_le (by have := World.block_lt_of_cell? _ _ hw375_3; first | rwa [add_block] at this | exact this) GW384.out)) | (show (Addr.add _ _).block ≠ _; rw [add_block]; exact Nat.ne_of_lt (Nat.lt_of_lt_of_le (by have := World.block_lt_of_cell? _ _ hw375_3; first | rwa [add_block] at this | exact this) GW384.out)) | (dsimp only; exact Nat.ne_of_lt (Nat.lt_of_lt_of_le (by have := World.block_lt_of_cell? _ _ hw375_3; first | rwa [add_block] at this | exact this) GW384.out))) _).trans (hHeld.2.2.2.2.2.2.2.1)))))))), ((cell_far (p := ⟨gb384, _, none⟩) (by first | exact Nat.ne_of_lt (Nat.lt_of_lt_of_le (by have := World.block_lt_of_cell? _ _ hw375_4; first | rwa [add_block] at this | exact this) GW384.out) | (rw [add_block]; exact Nat.ne_of_lt (Nat.lt_of_lt_of_le (by have := World.block_lt_of_cell? _ _ hw375_4; first | rwa [add_block] at this | exact this) GW384.out)) | (show (Addr.add _ _).block ≠ _; rw [add_block]; exact Nat.ne_of_lt (Nat.lt_of_lt_of_le (by have := World.block_lt_of_cell? _ _ hw375_4; first | rwa [add_block] at this | exact this) GW384.out)) | (dsimp only; exact Nat.ne_of_lt (Nat.lt_of_lt_of_le (by have := World.block_lt_of_cell? _ _ hw375_4; first | rwa [add_block] at this | exact this) GW384.out))) _).trans (((cell_far (p := ⟨gb384, _, none⟩) (by first | exact Nat.ne_of_lt (Nat.lt_of_lt_of_le (by have := World.block_lt_of_cell? _ _ hw375_4; first | rwa [add_block] at this | exact this) GW384.out) | (rw [add_block]; exact Nat.ne_of_lt (Nat.lt_of_lt_of_le (by have := World.block_lt_of_cell? _ _ hw375_4; first | rwa [add_block] at this | exact this) GW384.out)) | (show (Addr.add _ _).block ≠ _; rw [add_block]; exact Nat.ne_of_lt (Nat.lt_of_lt_of_le (by have := World.block_lt_of_cell? _ _ hw375_4; first | rwa [add_block] at this | exact this) GW384.out)) | (dsimp only; exact Nat.ne_of_lt (Nat.lt_of_lt_of_le (by have := World.block_lt_of_cell? _ _ hw375_4; first | rwa [add_block] at this | exact this) GW384.out))) _).trans (((cell_far (p := ⟨gb384, _, none⟩) (by first | exact Nat.ne_of_lt (Nat.lt_of_lt_of_le (by have := World.block_lt_of_cell? _ _ hw375_4; first | rwa [add_block] at this | exact this) GW384.out) | (rw [add_block]; exact Nat.ne_of_lt (Nat.lt_of_lt_of_le (by have := World.block_lt_of_cell? _ _ hw375_4; first | rwa [add_block] at this | exact this) GW384.out)) | (show (Addr.add _ _).block ≠ _; rw [add_block]; exact Nat.ne_of_lt (Nat.lt_of_lt_of_le (by have := World.block_lt_of_cell? _ _ hw375_4; first | rwa [add_block] at this | exact this) GW384.out)) | (dsimp only; exact Nat.ne_of_lt (Nat.lt_of_lt_of_le (by have := World.block_lt_of_cell? _ _ hw375_4; first | rwa [add_block] at this | exact this) GW384.out))) _).trans (((cell_far (p := ⟨gb384, _, none⟩) (by first | exact Nat.ne_of_lt (Nat.lt_of_lt_of_le (by have := World.block_lt_of_cell? _ _ hw375_4; first | rwa [add_block] at this | exact this) GW384.out) | (rw [add_block]; exact Nat.ne_of_lt (Nat.lt_of_lt_of_le (by have := World.block_lt_of_cell? _ _ hw375_4; first | rwa [add_block] at this | exact this) GW384.out)) | (show (Addr.add _ _).block ≠ _; rw [add_block]; exact Nat.ne_of_lt (Nat.lt_of_lt_of_le (by have := World.block_lt_of_cell? _ _ hw375_4; first | rwa [add_block] at this | exact this) GW384.out)) | (dsimp only; exact Nat.ne_of_lt (Nat.lt_of_lt_of_le (by have := World.block_lt_of_cell? _ _ hw375_4; first | rwa [add_block] at this | exact this) GW384.out))) _).trans (hHeld.2.2.2.2.2.2.2.2.1)))))))), ((cell_far (p := ⟨gb384, _, none⟩) (by first | exact Nat.ne_of_lt (Nat.lt_of_lt_of_le (by have := World.block_lt_of_cell? _ _ hw375_5; first | rwa [add_block] at this | exact this) GW384.out) | (rw [add_block]; exact Nat.ne_of_lt (Nat.lt_of_lt_of_le (by have := World.block_lt_of_cell? _ _ hw375_5; first | rwa [add_block] at this | exact this) GW384.out)) | (show (Addr.add _ _).block ≠ _; rw [add_block]; exact Nat.ne_of_lt (Nat.lt_of_lt_of_le (by have := World.block_lt_of_cell? _ _ hw375_5; first | rwa [add_block] at this | exact this) GW384.out)) | (dsimp only; exact Nat.ne_of_lt (Nat.lt_of_lt_of_le (by have := World.block_lt_of_cell? _ _ hw375_5; first | rwa [add_block] at this | exact this) GW384.out))) _).trans (((cell_far (p := ⟨gb384, _, none⟩) (by first | exact Nat.ne_of_lt (Nat.lt_of_lt_of_le (by have := World.block_lt_of_cell? _ _ hw375_5; first | rwa [add_block] at this | exact this) GW384.out) | (rw [add_block]; exact Nat.ne_of_lt (Nat.lt_of_lt_of_le (by have := World.block_lt_of_cell? _ _ hw375_5; first | rwa [add_block] at this | exact this) GW384.out)) | (show (Addr.add _ _).block ≠ _; rw [add_block]; exact Nat.ne_of_lt (Nat.lt_of_lt_of_le (by have := World.block_lt_of_cell? _ _ hw375_5; first | rwa [add_block] at this | exact this) GW384.out)) | (dsimp only; exact Nat.ne_of_lt (Nat.lt_of_lt_of_le (by have := World.block_lt_of_cell? _ _ hw375_5; first | rwa [add_block] at this | exact this) GW384.out))) _).trans (((cell_far (p := ⟨gb384, _, none⟩) (by first | exact Nat.ne_of_lt (Nat.lt_of_lt_of_le (by have := World.block_lt_of_cell? _ _ hw375_5; first | rwa [add_block] at this | exact this) GW384.out) | (rw [add_block]; exact Nat.ne_of_lt (Nat.lt_of_lt_of_le (by have := World.block_lt_of_cell? _ _ hw375_5; first | rwa [add_block] at this | exact this) GW384.out)) | (show (Addr.add _ _).block ≠ _; rw [add_block]; exact Nat.ne_of_lt (Nat.lt_of_lt_of_le (by have := World.block_lt_of_cell? _ _ hw375_5; first | rwa [add_block] at this | exact this) GW384.out)) | (dsimp only; exact Nat.ne_of_lt (Nat.lt_of_lt_of_le (by have := World.block_lt_of_cell? _ _ hw375_5; first | rwa [add_block] at this | exact this) GW384.out))) _).trans (((cell_far (p := ⟨gb384, _, none⟩) (by first | exact Nat.ne_of_lt (Nat.lt_of_lt_of_le (by have := World.block_lt_of_cell? _ _ hw375_5; first | rwa [add_block] at this | exact this) GW384.out) | (rw [add_block]; exact Nat.ne_of_lt (Nat.lt_of_lt_of_le (by have := World.block_lt_of_cell? _ _ hw375_5; first | rwa [add_block] at this | exact this) GW384.out)) | (show (Addr.add _ _).block ≠ _; rw [add_block]; exact Nat.ne_of_lt (Nat.lt_of_lt_of_le (by have := World.block_lt_of_cell? _ _ hw375_5; first | rwa [add_block] at this | exact this) GW384.out)) | (dsimp only; exact Nat.ne_of_lt (Nat.lt_of_lt_of_le (by have := World.block_lt_of_cell? _ _ hw375_5; first | rwa [add_block] at this | exact this) GW384.out))) _).trans (hHeld.2.2.2.2.2.2.2.2.2))))))))⟩ (fun hHeld => ?_)
     clear hK K
     refine done_ (done_of HT_.out (by kernel_rfl)) ?_
     try go_wp2
     have n0_ : Aside0 (((((w24.setCell ⟨gb384, 0, none⟩ (.int .i64 t380)).setCell ⟨gb384, 1, none⟩ (.int .i64 t381)).setCell ⟨gb384, 2, none⟩ (.int .i64 t382)).setCell ⟨gb384, 3, none⟩ (.bool t383)).heap[gb367]? = some (.cells #[.int .i64 0, .int .i64 0, .int .i64 0, .bool false] 24 (0, 0))) := ⟨by refine bU ?_; refine blk_far ?_ NB367_384.out _; refine bU ?_; refine blk_far ?_ NB367_384.out _; refine bU ?_; refine blk_far ?_ NB367_384.out _; refine bU ?_; refine blk_far ?_ NB367_384.out _; refine bU ?_; exact BK367.out⟩
     have n1_ : Aside0 (((((w24.setCell ⟨gb384, 0, none⟩ (.int .i64 t380)).setCell ⟨gb384, 1, none⟩ (.int .i64 t381)).setCell ⟨gb384, 2, none⟩ (.int .i64 t382)).setCell ⟨gb384, 3, none⟩ (.bool t383)).heap[gb374]? = some (.cells #[.int .i64 t369, .int .i64 t370, .int .i64 t371, .bool t372] 24 (0, 0))) := ⟨by refine bU ?_; refine blk_far ?_ NB374_384.out _; refine bU ?_; refine blk_far ?_ NB374_384.out _; refine bU ?_; refine blk_far ?_ NB374_384.out _; refine bU ?_; refine blk_far ?_ NB374_384.out _; refine bU ?_; exact BK374.out⟩
     have n2_ : Aside0 (((((w24.setCell ⟨gb384, 0, none⟩ (.int .i64 t380)).setCell ⟨gb384, 1, none⟩ (.int .i64 t381)).setCell ⟨gb384, 2, none⟩ (.int .i64 t382)).setCell ⟨gb384, 3, none⟩ (.bool t383)).heap[gb384]? = some (.cells #[.int .i64 t380, .int .i64 t381, .int .i64 t382, .bool t383] 24 (0, 0))) := ⟨by refine bU ?_; refine blk_put (cs := #[.int .i64 t380, .int .i64 t381, .int .i64 t382, .bool false]) ?_ 3 _ rfl; refine bU ?_; refine blk_put (cs := #[.int .i64 t380, .int .i64 t381, .int .i64 0, .bool false]) ?_ 2 _ rfl; refine bU ?_; refine blk_put (cs := #[.int .i64 t380, .int .i64 0, .int .i64 0, .bool false]) ?_ 1 _ rfl; refine bU ?_; refine blk_put (cs := #[.int .i64 0, .int .i64 0, .int .i64 0, .bool false]) ?_ 0 _ rfl; refine bU ?_; exact BK384.out⟩
     have n3_ : Aside0 (Below w.heap.size w ((((w24.setCell ⟨gb384, 0, none⟩ (.int .i64 t380)).setCell ⟨gb384, 1, none⟩ (.int .i64 t381)).setCell ⟨gb384, 2, none⟩ (.int .i64 t382)).setCell ⟨gb384, 3, none⟩ (.bool t383))) := ⟨by repeat (first | (with_reducible first | exact HB.out | apply below_alloc | apply pw_below_drewN | apply below_drew1 | refine below_set ?_ GE367.out | refine below_set ?_ GE374.out | refine below_set ?_ GE384.out) | exact HB.out)⟩
     (try clear BK367)
     (try clear BK374)
     (try clear BK384)
     (try clear HB)
     generalize ((((w24.setCell ⟨gb384, 0, none⟩ (.int .i64 t380)).setCell ⟨gb384, 1, none⟩ (.int .i64 t381)).setCell ⟨gb384, 2, none⟩ (.int .i64 t382)).setCell ⟨gb384, 3, none⟩ (.bool t383)) = w29 at n0_ n1_ n2_ n3_ ⊢
     have BK367 := n0_
     have BK374 := n1_
     have BK384 := n2_
     have HB := n3_
     clear n0_ n1_ n2_ n3_
     replace BK367 := Aside0.mk (blk_drew BK367.out)
     replace BK374 := Aside0.mk (blk_drew BK374.out)
     replace BK384 := Aside0.mk (blk_drew BK384.out)
     replace HB := Aside0.mk (below_drew1 HB.out)
     refine start_ (n := 5) (S := fun w' => w'.cell? ⟨gb384, 0, none⟩ = some (.int .i64 t380) ∧ w'.cell? ⟨gb384, 1, none⟩ = some (.int .i64 t381) ∧ w'.cell? ⟨gb384, 2, none⟩ = some (.int .i64 t382) ∧ w'.cell? ⟨gb384, 3, none⟩ = some (.bool t383)) (ds := []) #[false, false, false, false, false] (by kernel_rfl) rfl rfl ⟨cz BK384 0 _, cz BK384 1 _, cz BK384 2 _, cz BK384 3 _⟩ (fun hHeld => ?_)
     generalize w29.drew = w30 at BK367 BK374 BK384 HB hHeld ⊢
     refine take_ (i := 0) (N := some 32) (v := ?_) (a' := ?_) (bz 5 1) rfl rfl (by kernel_rfl) (fun _ _ _ h => h) (Or.inl ⟨by rfl, ?_⟩) hHeld ?_ ?_
     rotate_left
     ·rintro w' ⟨s0, s1, s2, s3⟩
      go_simp
      with_reducible rfl
     rotate_left
     ·simp only [Act.put, List.setIfInBounds_toArray, List.set_cons_zero, List.set_cons_succ, i64_w, i32_w]
      rfl
     refine take_ (i := 1) (N := some 33) (v := ?_) (a' := ?_) (bz 5 3) rfl rfl (by kernel_rfl) (fun _ _ _ h => h) (Or.inl ⟨by rfl, ?_⟩) hHeld ?_ ?_
     rotate_left
     ·rintro w' ⟨s0, s1, s2, s3⟩
      go_simp
      with_reducible rfl
     rotate_left
     ·simp only [Act.put, List.setIfInBounds_toArray, List.set_cons_zero, List.set_cons_succ, i64_w, i32_w]
      rfl
     refine one_ (i := 2) (N := some 34) (bz 5 7) rfl rfl (by kernel_rfl) (by decide) (fun K hK => ?_)
     refine goes_ Try.func15 (by kernel_rfl) rfl #[.agg #[.int .i64 t380, .int .i64 t381, .int .i64 t382, .bool t383]] (by rfl) rfl rfl aE ?_
     with_reducible refine (spec_l4Good.calls t380 t381 t382 t383 t385 _ A13.out).mono ?_
     rintro e w31 ⟨rfl, hb⟩
     refine ⟨_, rfl, ?_⟩
     replace BK367 := bB (bV BK367) hb
     replace BK374 := bB (bV BK374) hb
     replace BK384 := bB (bV BK384) hb
     replace HB := bH (lV3 GE367 GE374 GE384) hb
     (try clear hb)
     (try clear hb2)
     (try clear hk)
     (try clear hi)
     refine hK.out _ _ ⟨cz BK384 0 _, cz BK384 1 _, cz BK384 2 _, cz BK384 3 _⟩ (fun hHeld => ?_)
     clear hK K
     refine norm_ (a' := ?_) ?_ ?_
     rotate_left
     ·show Act.put _ (some 34) _ = _
      simp only [Act.put, List.setIfInBounds_toArray, List.set_cons_zero, List.set_cons_succ, i64_w, i32_w]
      rfl
     refine one_ (i := 3) (N := none) (bz 5 15) rfl rfl (by kernel_rfl) (by decide) (fun K hK => ?_)
     have hs32 : w31.cell? ⟨gb367, 0, none⟩ = some (.int .i64 0) := (blk_cell BK367.out 0).trans rfl
     have hfs32 := blk_frozen BK367.out 0
     have hns32_1 := NB374_367.out
     have hns32_2 := NB384_367.out
     have hms32_1 := NB367_374.out
     have hms32_2 := NB367_384.out
     have hs33 : w31.cell? ⟨gb367, 1, none⟩ = some (.int .i64 0) := (blk_cell BK367.out 1).trans rfl
     have hfs33 := blk_frozen BK367.out 1
     have hns33_1 := NB374_367.out
     have hns33_2 := NB384_367.out
     have hms33_1 := NB367_374.out
     have hms33_2 := NB367_384.out
     have hs34 : w31.cell? ⟨gb367, 2, none⟩ = some (.int .i64 0) := (blk_cell BK367.out 2).trans rfl
     have hfs34 := blk_frozen BK367.out 2
     have hns34_1 := NB374_367.out
     have hns34_2 := NB384_367.out
     have hms34_1 := NB367_374.out
     have hms34_2 := NB367_384.out
     have hs35 : w31.cell? ⟨gb367, 3, none⟩ = some (.bool false) := (blk_cell BK367.out 3).trans rfl
     have hfs35 := blk_frozen BK367.out 3
     have hns35_1 := NB374_367.out
     have hns35_2 := NB384_367.out
     have hms35_1 := NB367_374.out
     have hms35_2 := NB367_384.out
     refine skip_ (w1 := ?_) (by rfl) rfl ?_ ?_
     rotate_left
     ·go_simp
      rfl
     refine hK.out _ _ ⟨((cell_far (p := ⟨gb367, _, none⟩) NB384_367.out _).trans (((cell_far (p := ⟨gb367, _, none⟩) NB384_367.out _).trans (((cell_far (p := ⟨gb367, _, none⟩) NB384_367.out _).trans (((cell_far (p := ⟨gb367, _, none⟩) NB384_367.out _).trans (hHeld.1)))))))), ((cell_far (p := ⟨gb367, _, none⟩) NB384_367.out _).trans (((cell_far (p := ⟨gb367, _, none⟩) NB384_367.out _).trans (((cell_far (p := ⟨gb367, _, none⟩) NB384_367.out _).trans (((cell_far (p := ⟨gb367, _, none⟩) NB384_367.out _).trans (hHeld.2.1)))))))), ((cell_far (p := ⟨gb367, _, none⟩) NB384_367.out _).trans (((cell_far (p := ⟨gb367, _, none⟩) NB384_367.out _).trans (((cell_far (p := ⟨gb367, _, none⟩) NB384_367.out _).trans (((cell_far (p := ⟨gb367, _, none⟩) NB384_367.out _).trans (hHeld.2.2.1)))))))), ((cell_far (p := ⟨gb367, _, none⟩) NB384_367.out _).trans (((cell_far (p := ⟨gb367, _, none⟩) NB384_367.out _).trans (((cell_far (p := ⟨gb367, _, none⟩) NB384_367.out _).trans (((cell_far (p := ⟨gb367, _, none⟩) NB384_367.out _).trans (hHeld.2.2.2))))))))⟩ (fun hHeld => ?_)
     clear hK K
     refine pure_ (i := 4) (N := some 5) (v := ?_) (a' := ?_) (bz 5 31) rfl rfl (by kernel_rfl) (fun _ _ _ h => h) (Or.inl ⟨by rfl, ?_⟩) ?_ ?_
     rotate_left
     ·intro w'
      go_simp
      with_reducible rfl
     rotate_left
     ·simp only [Act.put, List.setIfInBounds_toArray, List.set_cons_zero, List.set_cons_succ, i64_w, i32_w]
      rfl
     refine done_ (by kernel_rfl) ?_
     try go_wp2
     refine bodyPost_ret (results_ct rfl _ _ gb367 24 #[.int .i64 t380, .int .i64 t381, .int .i64 t382, .bool t383] (0, 0) _ rfl (by refine bU ?_; refine blk_put (cs := #[.int .i64 t380, .int .i64 t381, .int .i64 t382, .bool false]) ?_ 3 _ rfl; refine bU ?_; refine blk_put (cs := #[.int .i64 t380, .int .i64 t381, .int .i64 0, .bool false]) ?_ 2 _ rfl; refine bU ?_; refine blk_put (cs := #[.int .i64 t380, .int .i64 0, .int .i64 0, .bool false]) ?_ 1 _ rfl; refine bU ?_; refine blk_put (cs := #[.int .i64 0, .int .i64 0, .int .i64 0, .bool false]) ?_ 0 _ rfl; refine bU ?_; exact BK367.out) Try.underlying24 rfl (by kernel_rfl)) rfl ?_
     exact ⟨eE, lV3 GE367 GE374 GE384⟩
    ·replace c10 := Bool.eq_false_iff.mpr c10
     subst c10
     have H1 : (some (0, 0, 0, false, false)) = some (r1, r2, r3, r4, r5) := by rw [if_neg (show ¬ (false = true) by decide)] at H; exact H
     clear H
     have H := H1
     clear H1
     simp only [Option.some.injEq, Prod.mk.injEq] at H
     obtain ⟨rfl, rfl, rfl, rfl, rfl⟩ := H
     go_enter Try.func27, Try.ntmps27
     go_wp2_with (first | ((with_reducible refine gate_dst (N := 4) rfl ?_); refine box_event rfl (N := 4) rfl (cs := #[.int .i64 0, .int .i64 0, .int .i64 0, .bool false]) (t := 24) sE ?_; intro gb367 hg w36 hbox hb; have BK367 := Aside0.mk hbox; have GW367 := gS w hg (lU); have GE367 := gS w hg (lU); replace HB := bH (lU) hb; clear hb hbox hg; have p368 : 0 ≤ (a1 : Int) := of_decide_eq_true hE; have q368 : a1 < (l0.length : Int) := of_decide_eq_true hE; obtain ⟨ad368, e368, hx368_0, hx368_1, hx368_2, hx368_3, hx368_4, hx368_5⟩ := at_T36 HR0.out a1 p368 q368; cases e368; replace hx368_0 := (HB.out.cell (World.block_lt_of_cell? w _ hx368_0)).trans hx368_0; replace hx368_1 := (HB.out.cell (World.block_lt_of_cell? w _ hx368_1)).trans hx368_1; replace hx368_2 := (HB.out.cell (World.block_lt_of_cell? w _ hx368_2)).trans hx368_2; replace hx368_3 := (HB.out.cell (World.block_lt_of_cell? w _ hx368_3)).trans hx368_3; replace hx368_4 := (HB.out.cell (World.block_lt_of_cell? w _ hx368_4)).trans hx368_4; replace hx368_5 := (HB.out.cell (World.block_lt_of_cell? w _ hx368_5)).trans hx368_5; replace p368 := eq_true p368; replace q368 := eq_true q368) | ((with_reducible refine gate_callee (f := 27) rfl ?_); refine goesL_ (some 19) rfl rfl Try.func27 (by kernel_rfl) rfl #[.slice (some ad368) l0.length c0, .int .i64 ((rd_T36 l0 a1).f1)] rfl aE ?_; (with_reducible refine (ih k (by omega) _ _ l0 ((rd_T36 l0 a1).f1) t369 t370 t371 t372 false _ ?side1 ?side2 A9.out).mono ?_); (case side1 => exact cU (Kd.C_below HR0.out HB.out)); (case side2 => exact HC0.out); rintro e w37 ⟨rfl, hb⟩; refine ⟨_, rfl, ?_⟩; replace BK367 := bB (bV BK367) hb; replace HB := bH (lV1 GE367) hb; (try clear hb)) | ((with_reducible refine gate_dst (N := 6) rfl ?_); refine box_event rfl (N := 6) rfl (cs := #[.int .i64 0, .int .i64 0, .int .i64 0, .bool false]) (t := 24) sE ?_; intro gb374 hg w38 hbox hb; have BK374 := Aside0.mk hbox; have GW374 := gS w hg (lV1 GE367); have GE374 := gS w hg (lV1 GE367); replace HB := bH (lV1 GE367) hb; have NB367_374 := nL hg (bV BK367); have NB374_367 := nG hg (bV BK367); replace BK367 := bB (bV BK367) hb; clear hb hbox hg; have hnb39 := NB374_367.out; have hnc39 := NB367_374.out; have hcz40_0 := cz BK374 0 (.int .i64 0); have hcz40_1 := cz BK374 1 (.int .i64 0); have hcz40_2 := cz BK374 2 (.int .i64 0); have hcz40_3 := cz BK374 3 (.bool false); have hfz40_0 := fz BK374 0; have hfz40_1 := fz BK374 1; have hfz40_2 := fz BK374 2; have hfz40_3 := fz BK374 3) | ((with_reducible refine gate_store (t := 24) (p := 6) rfl ?_); refine store_event (t := 24) (p := 6) (v := ?vo_w41) (w1 := ((((w38.setCell ⟨gb374, 0, none⟩ (.int .i64 t369)).setCell ⟨gb374, 1, none⟩ (.int .i64 t370)).setCell ⟨gb374, 2, none⟩ (.int .i64 t371)).setCell ⟨gb374, 3, none⟩ (.bool t372))) ?hg ?ho ?hn ?hr ?_; (case ho => rfl); (case hg => rfl); (case hn => rfl); (case hr => first | (go_simp; done) | (go_simp; rfl) | (have hq0_ := (blk_cell BK374.out 0).trans (show _ = some _ from rfl); have hf0_ := blk_frozen BK374.out 0; have hq1_ := (blk_cell BK374.out 1).trans (show _ = some _ from rfl); have hf1_ := blk_frozen BK374.out 1; have hq2_ := (blk_cell BK374.out 2).trans (show _ = some _ from rfl); have hf2_ := blk_frozen BK374.out 2; have hq3_ := (blk_cell BK374.out 3).trans (show _ = some _ from rfl); have hf3_ := blk_frozen BK374.out 3; first | (go_simp; done) | (go_simp; rfl))); intro w41 hw; replace BK367 : Aside0 (w41.heap[gb367]? = some (.cells #[.int .i64 0, .int .i64 0, .int .i64 0, .bool false] 24 (0, 0))) := ⟨(by rw [hw]; exact (bG NB367_374 BK367))⟩; replace BK374 : Aside0 (w41.heap[gb374]? = some (.cells #[.int .i64 t369, .int .i64 t370, .int .i64 t371, .bool t372] 24 (0, 0))) := ⟨(by rw [hw]; exact (by refine bU ?_; refine blk_put (cs := #[.int .i64 t369, .int .i64 t370, .int .i64 t371, .bool false]) ?_ 3 _ rfl; refine bU ?_; refine blk_put (cs := #[.int .i64 t369, .int .i64 t370, .int .i64 0, .bool false]) ?_ 2 _ rfl; refine bU ?_; refine blk_put (cs := #[.int .i64 t369, .int .i64 0, .int .i64 0, .bool false]) ?_ 1 _ rfl; refine bU ?_; refine blk_put (cs := #[.int .i64 0, .int .i64 0, .int .i64 0, .bool false]) ?_ 0 _ rfl; refine bU ?_; exact BK374.out))⟩; replace HB : Aside0 (Below w.heap.size w w41) := ⟨(by rw [hw]; exact (lV2 GE367 GE374))⟩; clear hw; have hcz42_0 := cz BK367 0 (.int .i64 0); have hcz42_1 := cz BK367 1 (.int .i64 0); have hcz42_2 := cz BK367 2 (.int .i64 0); have hcz42_3 := cz BK367 3 (.bool false); have hfz42_0 := fz BK367 0; have hfz42_1 := fz BK367 1; have hfz42_2 := fz BK367 2; have hfz42_3 := fz BK367 3) | ((with_reducible refine gate_store (t := 24) (p := 4) rfl ?_); refine store_event (t := 24) (p := 4) (v := ?vo_w43) (w1 := ((((w41.setCell ⟨gb367, 0, none⟩ (.int .i64 0)).setCell ⟨gb367, 1, none⟩ (.int .i64 0)).setCell ⟨gb367, 2, none⟩ (.int .i64 0)).setCell ⟨gb367, 3, none⟩ (.bool false))) ?hg ?ho ?hn ?hr ?_; (case ho => rfl); (case hg => rfl); (case hn => rfl); (case hr => first | (go_simp; done) | (go_simp; rfl) | (have hq0_ := (blk_cell BK367.out 0).trans (show _ = some _ from rfl); have hf0_ := blk_frozen BK367.out 0; have hq1_ := (blk_cell BK367.out 1).trans (show _ = some _ from rfl); have hf1_ := blk_frozen BK367.out 1; have hq2_ := (blk_cell BK367.out 2).trans (show _ = some _ from rfl); have hf2_ := blk_frozen BK367.out 2; have hq3_ := (blk_cell BK367.out 3).trans (show _ = some _ from rfl); have hf3_ := blk_frozen BK367.out 3; first | (go_simp; done) | (go_simp; rfl))); intro w43 hw; replace BK367 : Aside0 (w43.heap[gb367]? = some (.cells #[.int .i64 0, .int .i64 0, .int .i64 0, .bool false] 24 (0, 0))) := ⟨(by rw [hw]; exact (by refine bU ?_; refine blk_put (cs := #[.int .i64 0, .int .i64 0, .int .i64 0, .bool false]) ?_ 3 _ rfl; refine bU ?_; refine blk_put (cs := #[.int .i64 0, .int .i64 0, .int .i64 0, .bool false]) ?_ 2 _ rfl; refine bU ?_; refine blk_put (cs := #[.int .i64 0, .int .i64 0, .int .i64 0, .bool false]) ?_ 1 _ rfl; refine bU ?_; refine blk_put (cs := #[.int .i64 0, .int .i64 0, .int .i64 0, .bool false]) ?_ 0 _ rfl; refine bU ?_; exact BK367.out))⟩; replace BK374 : Aside0 (w43.heap[gb374]? = some (.cells #[.int .i64 t369, .int .i64 t370, .int .i64 t371, .bool t372] 24 (0, 0))) := ⟨(by rw [hw]; exact (bG NB374_367 BK374))⟩; replace HB : Aside0 (Below w.heap.size w w43) := ⟨(by rw [hw]; exact (lV2 GE367 GE374))⟩; clear hw))
     refine bodyPost_ret (results_ct rfl _ _ gb367 24 #[.int .i64 0, .int .i64 0, .int .i64 0, .bool false] (0, 0) _ rfl (bV BK367) Try.underlying24 rfl (by kernel_rfl)) rfl ?_
     exact ⟨eE, lV2 GE367 GE374⟩
   ·rw [if_neg c8] at H
    exact absurd H (by simp)
  ·rw [if_neg c7] at H
   exact absurd H (by simp)
def spec_l1Digit.f (a0 : Int) : Option (Bool) := if a0 ≥ 48 then (some (decide (a0 ≤ 57))) else (some false)
set_option maxHeartbeats 8000000 in
set_option maxRecDepth 100000 in
theorem spec_l1Digit.calls (a0 : Int) (r : Bool) (w : World) (h : spec_l1Digit.f a0 = some r) :
  Calls Try.prog 46 #[.int .u8 a0] w fun e w' => e = .returned (.bool r) ∧ Drawn0 w w' := by
 have H : (if a0 ≥ 48 then (some (decide (a0 ≤ 57))) else (some false)) = some r := h
 clear h
 by_cases c2 : a0 ≥ 48
 ·rw [if_pos c2] at H
  have c2b0 : decide (48 ≤ a0) = true := decide_eq_true c2
  clear c2
  obtain rfl := Option.some.inj H
  go_enter Try.func46, Try.ntmps46
  go_wp2
  go_ret
  exact ⟨by first | rfl | (simp; done) | (simp [*]; done) | exact not_isEmpty _ | exact (not_isEmpty _).symm | exact is_empty _ | exact (is_empty _).symm, by repeat (first | exact Drawn0.refl _ | apply Drawn0.step)⟩
 ·rw [if_neg c2] at H
  have c2b0 : decide (48 ≤ a0) = false := decide_eq_false c2
  clear c2
  obtain rfl := Option.some.inj H
  go_enter Try.func46, Try.ntmps46
  go_wp2
  go_ret
  exact ⟨by first | rfl | (simp; done) | (simp [*]; done) | exact not_isEmpty _ | exact (not_isEmpty _).symm | exact is_empty _ | exact (is_empty _).symm, by repeat (first | exact Drawn0.refl _ | apply Drawn0.step)⟩
def spec_l1Letter.f (a0 : Int) : Option (Bool) := if a0 ≥ 97 then (if a0 ≤ 122 then (some true) else (if a0 ≥ 65 then (if a0 ≤ 90 then (some true) else (some (a0 == 95))) else (some (a0 == 95)))) else (if a0 ≥ 65 then (if a0 ≤ 90 then (some true) else (some (a0 == 95))) else (some (a0 == 95)))
set_option maxHeartbeats 8000000 in
set_option maxRecDepth 100000 in
theorem spec_l1Letter.calls (a0 : Int) (r : Bool) (w : World) (h : spec_l1Letter.f a0 = some r) :
  Calls Try.prog 47 #[.int .u8 a0] w fun e w' => e = .returned (.bool r) ∧ Drawn0 w w' := by
 have H : (if a0 ≥ 97 then (if a0 ≤ 122 then (some true) else (if a0 ≥ 65 then (if a0 ≤ 90 then (some true) else (some (a0 == 95))) else (some (a0 == 95)))) else (if a0 ≥ 65 then (if a0 ≤ 90 then (some true) else (some (a0 == 95))) else (some (a0 == 95)))) = some r := h
 clear h
 by_cases c2 : a0 ≥ 97
 ·rw [if_pos c2] at H
  have c2b0 : decide (97 ≤ a0) = true := decide_eq_true c2
  clear c2
  by_cases c3 : a0 ≤ 122
  ·rw [if_pos c3] at H
   have c3b0 : decide (a0 ≤ 122) = true := decide_eq_true c3
   clear c3
   obtain rfl := Option.some.inj H
   go_enter Try.func47, Try.ntmps47
   go_wp2
   go_ret
   exact ⟨by first | rfl | (simp; done) | (simp [*]; done) | exact not_isEmpty _ | exact (not_isEmpty _).symm | exact is_empty _ | exact (is_empty _).symm, by repeat (first | exact Drawn0.refl _ | apply Drawn0.step)⟩
  ·rw [if_neg c3] at H
   have c3b0 : decide (a0 ≤ 122) = false := decide_eq_false c3
   clear c3
   by_cases c4 : a0 ≥ 65
   ·rw [if_pos c4] at H
    have c4b0 : decide (65 ≤ a0) = true := decide_eq_true c4
    clear c4
    by_cases c5 : a0 ≤ 90
    ·rw [if_pos c5] at H
     have c5b0 : decide (a0 ≤ 90) = true := decide_eq_true c5
     clear c5
     obtain rfl := Option.some.inj H
     go_enter Try.func47, Try.ntmps47
     go_wp2
     go_ret
     exact ⟨by first | rfl | (simp; done) | (simp [*]; done) | exact not_isEmpty _ | exact (not_isEmpty _).symm | exact is_empty _ | exact (is_empty _).symm, by repeat (first | exact Drawn0.refl _ | apply Drawn0.step)⟩
    ·rw [if_neg c5] at H
     have c5b0 : decide (a0 ≤ 90) = false := decide_eq_false c5
     clear c5
     obtain rfl := Option.some.inj H
     go_enter Try.func47, Try.ntmps47
     go_wp2
     go_ret
     exact ⟨by first | rfl | (simp; done) | (simp [*]; done) | exact not_isEmpty _ | exact (not_isEmpty _).symm | exact is_empty _ | exact (is_empty _).symm, by repeat (first | exact Drawn0.refl _ | apply Drawn0.step)⟩
   ·rw [if_neg c4] at H
    have c4b0 : decide (65 ≤ a0) = false := decide_eq_false c4
    clear c4
    obtain rfl := Option.some.inj H
    go_enter Try.func47, Try.ntmps47
    go_wp2
    go_ret
    exact ⟨by first | rfl | (simp; done) | (simp [*]; done) | exact not_isEmpty _ | exact (not_isEmpty _).symm | exact is_empty _ | exact (is_empty _).symm, by repeat (first | exact Drawn0.refl _ | apply Drawn0.step)⟩
 ·rw [if_neg c2] at H
  have c2b0 : decide (97 ≤ a0) = false := decide_eq_false c2
  clear c2
  by_cases c6 : a0 ≥ 65
  ·rw [if_pos c6] at H
   have c6b0 : decide (65 ≤ a0) = true := decide_eq_true c6
   clear c6
   by_cases c7 : a0 ≤ 90
   ·rw [if_pos c7] at H
    have c7b0 : decide (a0 ≤ 90) = true := decide_eq_true c7
    clear c7
    obtain rfl := Option.some.inj H
    go_enter Try.func47, Try.ntmps47
    go_wp2
    go_ret
    exact ⟨by first | rfl | (simp; done) | (simp [*]; done) | exact not_isEmpty _ | exact (not_isEmpty _).symm | exact is_empty _ | exact (is_empty _).symm, by repeat (first | exact Drawn0.refl _ | apply Drawn0.step)⟩
   ·rw [if_neg c7] at H
    have c7b0 : decide (a0 ≤ 90) = false := decide_eq_false c7
    clear c7
    obtain rfl := Option.some.inj H
    go_enter Try.func47, Try.ntmps47
    go_wp2
    go_ret
    exact ⟨by first | rfl | (simp; done) | (simp [*]; done) | exact not_isEmpty _ | exact (not_isEmpty _).symm | exact is_empty _ | exact (is_empty _).symm, by repeat (first | exact Drawn0.refl _ | apply Drawn0.step)⟩
  ·rw [if_neg c6] at H
   have c6b0 : decide (65 ≤ a0) = false := decide_eq_false c6
   clear c6
   obtain rfl := Option.some.inj H
   go_enter Try.func47, Try.ntmps47
   go_wp2
   go_ret
   exact ⟨by first | rfl | (simp; done) | (simp [*]; done) | exact not_isEmpty _ | exact (not_isEmpty _).symm | exact is_empty _ | exact (is_empty _).symm, by repeat (first | exact Drawn0.refl _ | apply Drawn0.step)⟩
end Go.Proofs.Ytmmgmbmjlbdpnaa.PFnPlaced
namespace Go.Proofs.Ytmmgmbmjlbdpnaa.PFnPlaced
open Go.RowKit Go.Proofs.YtmmgmbmjlbdpnaaW.PrintWords Go.Proofs.YtmmgmbmjlbdpnaaW.PrintLast Go.Proofs.YtmmgmbmjlbdpnaaW.PrintMore
attribute [local go_sem] max2_int min2_int max_two min_two max_three min_three max_four min_four   -- for this text's walks alone
set_option linter.unusedVariables false
set_option linter.unusedSimpArgs false
mutual
def spec_GoodName.j0 : Nat → ByteArray → Bool → Option (Bool)
 | 0, _, _ => none
 | k + 1, x0, x16 => if x16 = true then (some false) else (spec_GoodName.l0 k x0 0)
def spec_GoodName.l0 : Nat → ByteArray → Int → Option (Bool)
 | 0, _, _ => none
 | k + 1, x0, x3 => if x3 < (x0.size : Int) then (if 0 ≤ x3 then ((spec_l1Letter.f (bt x0 x3)).bind fun t387 => (if t387 = true then (spec_GoodName.l0 k x0 (wrap64 (x3 + 1))) else ((spec_l1Digit.f (bt x0 x3)).bind fun t388 => (if t388 = true then (spec_GoodName.l0 k x0 (wrap64 (x3 + 1))) else (some false))))) else (none)) else (some true)
end
def spec_GoodName.f (k : Nat) (a0 : ByteArray) : Option (Bool) := if (a0.size : Int) < 1 then (spec_GoodName.j0 k a0 true) else (if (a0.size : Int) > 20 then (spec_GoodName.j0 k a0 true) else (if 0 < (a0.size : Int) then ((spec_l1Digit.f (bt a0 0)).bind fun t386 => (spec_GoodName.j0 k a0 t386)) else (none)))
theorem spec_GoodName.mono_l : ∀ k, (∀ y0 y1, LeO (spec_GoodName.j0 k y0 y1) (spec_GoodName.j0 (k + 1) y0 y1)) ∧ (∀ y0 y1, LeO (spec_GoodName.l0 k y0 y1) (spec_GoodName.l0 (k + 1) y0 y1))
 | 0 => ⟨fun _ _ r h => by simp [spec_GoodName.j0] at h, fun _ _ r h => by simp [spec_GoodName.l0] at h⟩
 | k + 1 => by
  obtain ⟨ih0, ih1⟩ := spec_GoodName.mono_l k
  refine ⟨?_, ?_⟩
  ·intro y0 y1
   unfold spec_GoodName.j0
   repeat' first
   | (with_reducible exact ih0 _ _)
   | (with_reducible exact ih1 _ _)
   | (with_reducible first | exact LeO.refl _ | exact LeO.none _ | refine LeO.ite ?_ ?_ | refine LeO.bind ?_ (fun _ => ?_))
   | exact ih0 _ _
   | exact ih1 _ _ | exact LeO.none _ | refine LeO.ite ?_ ?_ | refine LeO.bind ?_ (fun _ => ?_)
  ·intro y0 y1
   unfold spec_GoodName.l0
   repeat' first
   | (with_reducible exact ih0 _ _)
   | (with_reducible exact ih1 _ _)
   | (with_reducible first | exact LeO.refl _ | exact LeO.none _ | refine LeO.ite ?_ ?_ | refine LeO.bind ?_ (fun _ => ?_))
   | exact ih0 _ _
   | exact ih1 _ _ | exact LeO.none _ | refine LeO.ite ?_ ?_ | refine LeO.bind ?_ (fun _ => ?_)
theorem spec_GoodName.mono : ∀ a0 k, LeO (spec_GoodName.f k a0) (spec_GoodName.f (k + 1) a0) := by
 intro a0 k
 obtain ⟨ih0, ih1⟩ := spec_GoodName.mono_l k
 unfold spec_GoodName.f
 repeat' first
   | (with_reducible exact ih0 _ _)
   | (with_reducible exact ih1 _ _)
   | (with_reducible first | exact LeO.refl _ | exact LeO.none _ | refine LeO.ite ?_ ?_ | refine LeO.bind ?_ (fun _ => ?_))
   | exact ih0 _ _
   | exact ih1 _ _ | exact LeO.none _ | refine LeO.ite ?_ ?_ | refine LeO.bind ?_ (fun _ => ?_)
set_option maxHeartbeats 8000000 in
set_option maxRecDepth 100000 in
theorem spec_GoodName.calls (k : Nat) (a0 : ByteArray) (r : Bool) (w : World) (h : spec_GoodName.f k a0 = some r) :
  Calls Try.prog 40 #[.string a0] w fun e w' => e = .returned (.bool r) ∧ Drawn0 w w' := by
 have H : (if (a0.size : Int) < 1 then (spec_GoodName.j0 k a0 true) else (if (a0.size : Int) > 20 then (spec_GoodName.j0 k a0 true) else (if 0 < (a0.size : Int) then ((spec_l1Digit.f (bt a0 0)).bind fun t386 => (spec_GoodName.j0 k a0 t386)) else (none)))) = some r := h
 clear h
 have HC2 := Aside0.mk H
 clear H
 go_enter Try.func40, Try.ntmps40
 go_upto_region 1 with (fail)
 go_cut [16] (fun v16 wc => ∃ (kq : Nat) (x16_1 : Bool), v16 = .bool x16_1 ∧ Aside0 (spec_GoodName.j0 kq a0 x16_1 = some r) ∧ Aside0 (kq ≤ k) ∧ Drawn0 w wc)
 case first =>
  have H := HC2.out
  clear HC2
  by_cases c3 : (a0.size : Int) < 1
  ·rw [if_pos c3] at H
   have c3b0 : decide ((a0.size : Int) < 1) = true := decide_eq_true c3
   have c3b1 : decide (a0.size < 1) = true := decide_eq_true (by omega)
   clear c3
   (first | rw [c3b0] | (simp only [i64_w, i32_w]; rw [c3b0]) | (rw [c3b2]; simp only [Bool.not_false, Bool.not_true]) | skip)
   have H' := Aside0.mk H
   clear H
   go_wp2
   go_meet
   case rel => exact ⟨_, (true), tE, H', ⟨by first | omega | exact Nat.le_refl _⟩, by repeat (first | exact Drawn0.refl _ | apply Drawn0.step)⟩
  ·rw [if_neg c3] at H
   have c3b0 : decide ((a0.size : Int) < 1) = false := decide_eq_false c3
   have c3b1 : decide (a0.size < 1) = false := decide_eq_false (by omega)
   clear c3
   (first | rw [c3b0] | (simp only [i64_w, i32_w]; rw [c3b0]) | (rw [c3b2]; simp only [Bool.not_false, Bool.not_true]) | skip)
   by_cases c4 : (a0.size : Int) > 20
   ·rw [if_pos c4] at H
    have c4b0 : decide (20 < (a0.size : Int)) = true := decide_eq_true c4
    have c4b1 : decide (20 < a0.size) = true := decide_eq_true (by omega)
    clear c4
    have H' := Aside0.mk H
    clear H
    go_wp2
    go_meet
    case rel => exact ⟨_, (true), tE, H', ⟨by first | omega | exact Nat.le_refl _⟩, by repeat (first | exact Drawn0.refl _ | apply Drawn0.step)⟩
   ·rw [if_neg c4] at H
    have c4b0 : decide (20 < (a0.size : Int)) = false := decide_eq_false c4
    have c4b1 : decide (20 < a0.size) = false := decide_eq_false (by omega)
    clear c4
    by_cases c5 : 0 < (a0.size : Int)
    ·rw [if_pos c5] at H
     have c5b0 : decide (0 < (a0.size : Int)) = true := decide_eq_true c5
     have c5b1 : decide (0 < a0.size) = true := decide_eq_true (by omega)
     clear c5
     replace H := Option.bind_eq_some_iff.mp H
     obtain ⟨t386, A70, H⟩ := H
     replace H : (spec_GoodName.j0 k a0 t386) = some r := H
     have A7 := Aside0.mk A70
     clear A70
     have H' := Aside0.mk H
     clear H
     have p6 : 0 ≤ (0 : Int) := (by omega)
     have q6 : 0 < a0.size := (by have : (0 : Int) < (a0.size : Int) := of_decide_eq_true hE; omega)
     have hx6 : ∀ h : 0 < a0.size, ((a0[0]'h).toNat : Int) = bt a0 0 := bt_at a0 0
     clear p6
     have qi6 : (0 < (a0.size : Int)) = True := eq_true (of_decide_eq_true hE)
     replace q6 := eq_true q6
     go_wp2_with (first | (go_at_call 46; (with_reducible refine (spec_l1Digit.calls (bt a0 0) t386 _ A7.out).mono ?_); rintro e w' ⟨rfl, ⟨nd, rfl⟩⟩))
     go_meet
     case rel => exact ⟨_, (t386), tE, H', ⟨by first | omega | exact Nat.le_refl _⟩, by repeat (first | exact Drawn0.refl _ | apply Drawn0.step)⟩
    ·rw [if_neg c5] at H
     exact absurd H (by simp)
 case rest =>
  clear HC2
  try clear p2
  try clear c3
  try clear c3b0
  try clear c3b1
  try clear c3b2
  try clear c4
  try clear c4b0
  try clear c4b1
  try clear c5
  try clear c5b0
  try clear c5b1
  try clear p6
  try clear q6
  try clear hx6
  try clear qi6
  try clear p6
  try clear q6
  obtain ⟨kq, x16_1, rfl, HA, HJ1, ⟨mc1, rfl⟩⟩ := hcut
  cases kq with
  | zero => exact absurd HA.out (by simp [spec_GoodName.j0])
  | succ kj1 =>
   have H := HA.out
   clear HA
   simp only [spec_GoodName.j0] at H
   by_cases c8 : x16_1 = true
   ·subst c8
    have H1 : (some false) = some r := by rw [if_pos rfl] at H; exact H
    clear H
    have H := H1
    clear H1
    obtain rfl := Option.some.inj H
    go_wp2
    go_ret
    exact ⟨by first | rfl | (simp; done) | (simp [*]; done) | exact not_isEmpty _ | exact (not_isEmpty _).symm | exact is_empty _ | exact (is_empty _).symm, by repeat (first | exact Drawn0.refl _ | apply Drawn0.step)⟩
   ·replace c8 := Bool.eq_false_iff.mpr c8
    subst c8
    have H1 : (spec_GoodName.l0 kj1 a0 0) = some r := by rw [if_neg (show ¬ (false = true) by decide)] at H; exact H
    clear H
    have H := H1
    clear H1
    have H' := Aside0.mk H
    clear H
    go_wp2
    go_loopg [3] kj1 (fun kq v3 w' => ∃ (x3_2 : Int), v3 = .int .i64 x3_2 ∧ Aside0 (spec_GoodName.l0 kq a0 x3_2 = some r) ∧ Aside0 (kq ≤ kj1) ∧ Drawn0 w w')
    case atStart => exact ⟨(0), tE, H', ⟨Nat.le_refl _⟩, by repeat (first | exact Drawn0.refl _ | apply Drawn0.step)⟩
    case round =>
     clear H'
     try clear c1
     try clear p2
     try clear c3
     try clear c3b0
     try clear c3b1
     try clear c3b2
     try clear c4
     try clear c4b0
     try clear c4b1
     try clear c5
     try clear c5b0
     try clear c5b1
     try clear p6
     try clear q6
     try clear hx6
     try clear qi6
     try clear c8
     try clear p2
     try clear p6
     try clear q6
     obtain ⟨x3_2, rfl, HA, HK2, ⟨m2, rfl⟩⟩ := hrel
     cases gk with
     | zero => exact absurd HA.out (by simp [spec_GoodName.l0])
     | succ k2 =>
      have H := HA.out
      clear HA
      simp only [spec_GoodName.l0] at H
      by_cases c9 : x3_2 < (a0.size : Int)
      ·rw [if_pos c9] at H
       have c9b0 : decide (x3_2 < (a0.size : Int)) = true := decide_eq_true c9
       clear c9
       by_cases c10 : 0 ≤ x3_2
       ·rw [if_pos c10] at H
        have c10b0 : decide (0 ≤ x3_2) = true := decide_eq_true c10
        clear c10
        replace H := Option.bind_eq_some_iff.mp H
        obtain ⟨t387, A120, H⟩ := H
        replace H : (if t387 = true then (spec_GoodName.l0 k2 a0 (wrap64 (x3_2 + 1))) else ((spec_l1Digit.f (bt a0 x3_2)).bind fun t388 => (if t388 = true then (spec_GoodName.l0 k2 a0 (wrap64 (x3_2 + 1))) else (some false)))) = some r := H
        have A12 := Aside0.mk A120
        clear A120
        by_cases c13 : t387 = true
        ·subst c13
         have H1 : (spec_GoodName.l0 k2 a0 (wrap64 (x3_2 + 1))) = some r := by rw [if_pos rfl] at H; exact H
         clear H
         have H := H1
         clear H1
         have H' := Aside0.mk H
         clear H
         have p11 : 0 ≤ (x3_2 : Int) := of_decide_eq_true hE
         have q11 : x3_2 < (a0.size : Int) := of_decide_eq_true hE
         have hx11 := bt_at a0 x3_2
         replace p11 := eq_true p11
         replace q11 := eq_true q11
         go_wp2_with (first | ((with_reducible refine gate_callee (f := 47) rfl ?_); refine goesL_ (some 26) rfl rfl Try.func47 (by kernel_rfl) rfl #[.int .u8 (bt a0 x3_2)] rfl aE ?_; (with_reducible refine (spec_l1Letter.calls (bt a0 x3_2) true _ A12.out).mono ?_); rintro e w' ⟨rfl, ⟨nd, rfl⟩⟩; refine ⟨_, rfl, ?_⟩))
         go_roundg k2
         case measure => have := HJ1.out; have := HK2.out; omega
         case rel => exact ⟨(wrap64 (x3_2 + 1)), tE, H', ⟨by have := HJ1.out; have := HK2.out; omega⟩, by repeat (first | exact Drawn0.refl _ | apply Drawn0.step)⟩
        ·replace c13 := Bool.eq_false_iff.mpr c13
         subst c13
         have H1 : ((spec_l1Digit.f (bt a0 x3_2)).bind fun t388 => (if t388 = true then (spec_GoodName.l0 k2 a0 (wrap64 (x3_2 + 1))) else (some false))) = some r := by rw [if_neg (show ¬ (false = true) by decide)] at H; exact H
         clear H
         have H := H1
         clear H1
         replace H := Option.bind_eq_some_iff.mp H
         obtain ⟨t388, A150, H⟩ := H
         replace H : (if t388 = true then (spec_GoodName.l0 k2 a0 (wrap64 (x3_2 + 1))) else (some false)) = some r := H
         have A15 := Aside0.mk A150
         clear A150
         by_cases c16 : t388 = true
         ·subst c16
          have H1 : (spec_GoodName.l0 k2 a0 (wrap64 (x3_2 + 1))) = some r := by rw [if_pos rfl] at H; exact H
          clear H
          have H := H1
          clear H1
          have H' := Aside0.mk H
          clear H
          have p11 : 0 ≤ (x3_2 : Int) := of_decide_eq_true hE
          have q11 : x3_2 < (a0.size : Int) := of_decide_eq_true hE
          have hx11 := bt_at a0 x3_2
          replace p11 := eq_true p11
          replace q11 := eq_true q11
          go_wp2_with (first | ((with_reducible refine gate_callee (f := 47) rfl ?_); refine goesL_ (some 26) rfl rfl Try.func47 (by kernel_rfl) rfl #[.int .u8 (bt a0 x3_2)] rfl aE ?_; (with_reducible refine (spec_l1Letter.calls (bt a0 x3_2) false _ A12.out).mono ?_); rintro e w' ⟨rfl, ⟨nd, rfl⟩⟩; refine ⟨_, rfl, ?_⟩; have p14 : 0 ≤ (x3_2 : Int) := of_decide_eq_true hE; have q14 : x3_2 < (a0.size : Int) := of_decide_eq_true hE; have hx14 := bt_at a0 x3_2; replace p14 := eq_true p14; replace q14 := eq_true q14) | (go_at_call 46; (with_reducible refine (spec_l1Digit.calls (bt a0 x3_2) true _ A15.out).mono ?_); rintro e w' ⟨rfl, ⟨nd, rfl⟩⟩))
          go_roundg k2
          case measure => have := HJ1.out; have := HK2.out; omega
          case rel => exact ⟨(wrap64 (x3_2 + 1)), tE, H', ⟨by have := HJ1.out; have := HK2.out; omega⟩, by repeat (first | exact Drawn0.refl _ | apply Drawn0.step)⟩
         ·replace c16 := Bool.eq_false_iff.mpr c16
          subst c16
          have H1 : (some false) = some r := by rw [if_neg (show ¬ (false = true) by decide)] at H; exact H
          clear H
          have H := H1
          clear H1
          obtain rfl := Option.some.inj H
          have p11 : 0 ≤ (x3_2 : Int) := of_decide_eq_true hE
          have q11 : x3_2 < (a0.size : Int) := of_decide_eq_true hE
          have hx11 := bt_at a0 x3_2
          replace p11 := eq_true p11
          replace q11 := eq_true q11
          go_wp2_with (first | ((with_reducible refine gate_callee (f := 47) rfl ?_); refine goesL_ (some 26) rfl rfl Try.func47 (by kernel_rfl) rfl #[.int .u8 (bt a0 x3_2)] rfl aE ?_; (with_reducible refine (spec_l1Letter.calls (bt a0 x3_2) false _ A12.out).mono ?_); rintro e w' ⟨rfl, ⟨nd, rfl⟩⟩; refine ⟨_, rfl, ?_⟩; have p14 : 0 ≤ (x3_2 : Int) := of_decide_eq_true hE; have q14 : x3_2 < (a0.size : Int) := of_decide_eq_true hE; have hx14 := bt_at a0 x3_2; replace p14 := eq_true p14; replace q14 := eq_true q14) | (go_at_call 46; (with_reducible refine (spec_l1Digit.calls (bt a0 x3_2) false _ A15.out).mono ?_); rintro e w' ⟨rfl, ⟨nd, rfl⟩⟩))
          go_ret
          exact ⟨by first | rfl | (simp; done) | (simp [*]; done) | exact not_isEmpty _ | exact (not_isEmpty _).symm | exact is_empty _ | exact (is_empty _).symm, by repeat (first | exact Drawn0.refl _ | apply Drawn0.step)⟩
       ·rw [if_neg c10] at H
        exact absurd H (by simp)
      ·rw [if_neg c9] at H
       have c9b0 : decide (x3_2 < (a0.size : Int)) = false := decide_eq_false c9
       clear c9
       obtain rfl := Option.some.inj H
       go_wp2
       go_ret
       exact ⟨by first | rfl | (simp; done) | (simp [*]; done) | exact not_isEmpty _ | exact (not_isEmpty _).symm | exact is_empty _ | exact (is_empty _).symm, by repeat (first | exact Drawn0.refl _ | apply Drawn0.step)⟩
end Go.Proofs.Ytmmgmbmjlbdpnaa.PFnPlaced
