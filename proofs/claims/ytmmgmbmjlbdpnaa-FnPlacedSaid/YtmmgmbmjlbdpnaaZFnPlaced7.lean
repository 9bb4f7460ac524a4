/- Texts of a row. -/
import Derived.Test.YtmmgmbmjlbdpnaaZFnPlaced3
import Derived.Test.YtmmgmbmjlbdpnaaZFnPlaced6
import Derived.Test.YtmmgmbmjlbdpnaaZFnPlaced4
namespace Go.Proofs.Ytmmgmbmjlbdpnaa.PFnPlaced
open Go.RowKit Go.Proofs.YtmmgmbmjlbdpnaaW.PrintWords Go.Proofs.YtmmgmbmjlbdpnaaW.PrintLast Go.Proofs.YtmmgmbmjlbdpnaaW.PrintMore
attribute [local go_sem] max2_int min2_int max_two min_two max_three min_three max_four min_four   -- for this text's walks alone
set_option linter.unusedVariables false
set_option linter.unusedSimpArgs false
mutual
def spec_GoodScene.l0 : Nat → List (S36) → List (S36) → Int → Int → Option (Bool)
 | 0, _, _, _, _ => none
 | k + 1, x0, x10, x11, x12 => if x12 < x11 then (if 0 ≤ x12 then (if x12 < (x10.length : Int) then ((spec_GoodName.f k ((rd_T36 x10 x12).f0)).bind fun t391 => (if t391 = true then ((spec_l1In.f ((rd_T36 x10 x12).f1) (-1) (wrap64 (x12 - 1))).bind fun t392 => (if t392 = true then ((spec_l4Spot.f ((rd_T36 x10 x12).f0) ((rd_T36 x10 x12).f1) ((rd_T36 x10 x12).f2) ((rd_T36 x10 x12).f3) ((rd_T36 x10 x12).f4) ((rd_T36 x10 x12).f5)).bind fun bt393 => ((spec_l4Good.f bt393.1 bt393.2.1 bt393.2.2.1 bt393.2.2.2).bind fun t397 => (spec_GoodScene.j1 k x0 x12 x10 x11 x12 (!t397) ((rd_T36 x10 x12).f0) ((rd_T36 x10 x12).f1) ((rd_T36 x10 x12).f2) ((rd_T36 x10 x12).f3) ((rd_T36 x10 x12).f4) ((rd_T36 x10 x12).f5)))) else (spec_GoodScene.j1 k x0 x12 x10 x11 x12 true ((rd_T36 x10 x12).f0) ((rd_T36 x10 x12).f1) ((rd_T36 x10 x12).f2) ((rd_T36 x10 x12).f3) ((rd_T36 x10 x12).f4) ((rd_T36 x10 x12).f5)))) else (spec_GoodScene.j1 k x0 x12 x10 x11 x12 true ((rd_T36 x10 x12).f0) ((rd_T36 x10 x12).f1) ((rd_T36 x10 x12).f2) ((rd_T36 x10 x12).f3) ((rd_T36 x10 x12).f4) ((rd_T36 x10 x12).f5)))) else (none)) else (none)) else (some true)
def spec_GoodScene.j1 : Nat → List (S36) → Int → List (S36) → Int → Int → Bool → ByteArray → Int → Int → Int → Int → Bool → Option (Bool)
 | 0, _, _, _, _, _, _, _, _, _, _, _, _ => none
 | k + 1, x0, x3, x10, x11, x12, x34, x391000, x391001, x391002, x391003, x391004, x391005 => if x34 = true then (some false) else (if 0 ≤ x3 then (if x3 ≤ (x0.length : Int) then ((some (x0.take (x3 : Int).toNat : List (S36))).bind fun y398 => (spec_GoodScene.l1 k x0 x10 x11 x12 y398 (y398.length : Int) 0 x391000 x391001 x391002 x391003 x391004 x391005)) else (none)) else (none))
def spec_GoodScene.l1 : Nat → List (S36) → List (S36) → Int → Int → List (S36) → Int → Int → ByteArray → Int → Int → Int → Int → Bool → Option (Bool)
 | 0, _, _, _, _, _, _, _, _, _, _, _, _, _ => none
 | k + 1, x0, x10, x11, x12, x37, x38, x39, x391000, x391001, x391002, x391003, x391004, x391005 => if x39 < x38 then (if 0 ≤ x39 then (if x39 < (x37.length : Int) then (if ((rd_T36 x37 x39).f1) = x391001 then (if ((rd_T36 x37 x39).f0).toList = x391000.toList then (some false) else (spec_GoodScene.l1 k x0 x10 x11 x12 x37 x38 (wrap64 (x39 + 1)) x391000 x391001 x391002 x391003 x391004 x391005)) else (spec_GoodScene.l1 k x0 x10 x11 x12 x37 x38 (wrap64 (x39 + 1)) x391000 x391001 x391002 x391003 x391004 x391005)) else (none)) else (none)) else (spec_GoodScene.l0 k x0 x10 x11 (wrap64 (x12 + 1)))
end
def spec_GoodScene.f (k : Nat) (l0 : List (S36)) : Option (Bool) := if (l0.length : Int) > 40 then (some false) else (spec_GoodScene.l0 k l0 l0 (l0.length : Int) 0)
theorem spec_GoodScene.mono_l : ∀ k, (∀ y0 y1 y2 y3, LeO (spec_GoodScene.l0 k y0 y1 y2 y3) (spec_GoodScene.l0 (k + 1) y0 y1 y2 y3)) ∧ (∀ y0 y1 y2 y3 y4 y5 y6 y7 y8 y9 y10 y11, LeO (spec_GoodScene.j1 k y0 y1 y2 y3 y4 y5 y6 y7 y8 y9 y10 y11) (spec_GoodScene.j1 (k + 1) y0 y1 y2 y3 y4 y5 y6 y7 y8 y9 y10 y11)) ∧ (∀ y0 y1 y2 y3 y4 y5 y6 y7 y8 y9 y10 y11 y12, LeO (spec_GoodScene.l1 k y0 y1 y2 y3 y4 y5 y6 y7 y8 y9 y10 y11 y12) (spec_GoodScene.l1 (k + 1) y0 y1 y2 y3 y4 y5 y6 y7 y8 y9 y10 y11 y12))
 | 0 => ⟨fun _ _ _ _ r h => by simp [spec_GoodScene.l0] at h, fun _ _ _ _ _ _ _ _ _ _ _ _ r h => by simp [spec_GoodScene.j1] at h, fun _ _ _ _ _ _ _ _ _ _ _ _ _ r h => by simp [spec_GoodScene.l1] at h⟩
 | k + 1 => by
  obtain ⟨ih0, ih1, ih2⟩ := spec_GoodScene.mono_l k
  refine ⟨?_, ?_, ?_⟩
  ·intro y0 y1 y2 y3
   unfold spec_GoodScene.l0
   repeat' first
   | (with_reducible exact ih0 _ _ _ _)
   | (with_reducible exact ih1 _ _ _ _ _ _ _ _ _ _ _ _)
   | (with_reducible exact ih2 _ _ _ _ _ _ _ _ _ _ _ _ _)
   | (with_reducible exact spec_GoodName.mono _ _)
   | (with_reducible first | exact LeO.refl _ | exact LeO.none _ | refine LeO.ite ?_ ?_ | refine LeO.bind ?_ (fun _ => ?_))
   | exact ih0 _ _ _ _
   | exact ih1 _ _ _ _ _ _ _ _ _ _ _ _
   | exact ih2 _ _ _ _ _ _ _ _ _ _ _ _ _
   | exact spec_GoodName.mono _ _ | exact LeO.none _ | refine LeO.ite ?_ ?_ | refine LeO.bind ?_ (fun _ => ?_)
  ·intro y0 y1 y2 y3 y4 y5 y6 y7 y8 y9 y10 y11
   unfold spec_GoodScene.j1
   repeat' first
   | (with_reducible exact ih0 _ _ _ _)
   | (with_reducible exact ih1 _ _ _ _ _ _ _ _ _ _ _ _)
   | (with_reducible exact ih2 _ _ _ _ _ _ _ _ _ _ _ _ _)
   | (with_reducible exact spec_GoodName.mono _ _)
   | (with_reducible first | exact LeO.refl _ | exact LeO.none _ | refine LeO.ite ?_ ?_ | refine LeO.bind ?_ (fun _ => ?_))
   | exact ih0 _ _ _ _
   | exact ih1 _ _ _ _ _ _ _ _ _ _ _ _
   | exact ih2 _ _ _ _ _ _ _ _ _ _ _ _ _
   | exact spec_GoodName.mono _ _ | exact LeO.none _ | refine LeO.ite ?_ ?_ | refine LeO.bind ?_ (fun _ => ?_)
  ·intro y0 y1 y2 y3 y4 y5 y6 y7 y8 y9 y10 y11 y12
   unfold spec_GoodScene.l1
   repeat' first
   | (with_reducible exact ih0 _ _ _ _)
   | (with_reducible exact ih1 _ _ _ _ _ _ _ _ _ _ _ _)
   | (with_reducible exact ih2 _ _ _ _ _ _ _ _ _ _ _ _ _)
   | (with_reducible exact spec_GoodName.mono _ _)
   | (with_reducible first | exact LeO.refl _ | exact LeO.none _ | refine LeO.ite ?_ ?_ | refine LeO.bind ?_ (fun _ => ?_))
   | exact ih0 _ _ _ _
   | exact ih1 _ _ _ _ _ _ _ _ _ _ _ _
   | exact ih2 _ _ _ _ _ _ _ _ _ _ _ _ _
   | exact spec_GoodName.mono _ _ | exact LeO.none _ | refine LeO.ite ?_ ?_ | refine LeO.bind ?_ (fun _ => ?_)
theorem spec_GoodScene.mono : ∀ a0 k, LeO (spec_GoodScene.f k a0) (spec_GoodScene.f (k + 1) a0) := by
 intro a0 k
 obtain ⟨ih0, ih1, ih2⟩ := spec_GoodScene.mono_l k
 unfold spec_GoodScene.f
 repeat' first
   | (with_reducible exact ih0 _ _ _ _)
   | (with_reducible exact ih1 _ _ _ _ _ _ _ _ _ _ _ _)
   | (with_reducible exact ih2 _ _ _ _ _ _ _ _ _ _ _ _ _)
   | (with_reducible exact spec_GoodName.mono _ _)
   | (with_reducible first | exact LeO.refl _ | exact LeO.none _ | refine LeO.ite ?_ ?_ | refine LeO.bind ?_ (fun _ => ?_))
   | exact ih0 _ _ _ _
   | exact ih1 _ _ _ _ _ _ _ _ _ _ _ _
   | exact ih2 _ _ _ _ _ _ _ _ _ _ _ _ _
   | exact spec_GoodName.mono _ _ | exact LeO.none _ | refine LeO.ite ?_ ?_ | refine LeO.bind ?_ (fun _ => ?_)
set_option maxHeartbeats 8000000 in
set_option maxRecDepth 100000 in
theorem spec_GoodScene.calls (k : Nat) (A0 : Option Addr) (c0 : Nat) (l0 : List (S36)) (r : Bool) (w : World) (hr0 : Kd.C k36 w A0 l0.length l0) (hc0 : l0.length ≤ c0) (h : spec_GoodScene.f k l0 = some r) :
  Calls Try.prog 29 #[.slice A0 l0.length c0] w fun e w' => e = .returned (.bool r) ∧ Below w.heap.size w w' := by
 have hu36 := Try.underlying36
 have HR0 := Aside0.mk hr0
 have HC0 := Aside0.mk hc0
 clear hr0 hc0
 have HB := Aside0.mk (Below.refl w.heap.size w)
 have H : (if (l0.length : Int) > 40 then (some false) else (spec_GoodScene.l0 k l0 l0 (l0.length : Int) 0)) = some r := h
 clear h
 by_cases c2 : (l0.length : Int) > 40
 ·rw [if_pos c2] at H
  have c2b0 : decide (40 < (l0.length : Int)) = true := decide_eq_true c2
  have c2b1 : decide (40 < l0.length) = true := decide_eq_true (by omega)
  clear c2
  obtain rfl := Option.some.inj H
  go_enter Try.func29, Try.ntmps29
  go_wp2
  go_ret
  exact ⟨eE, lU⟩
 ·rw [if_neg c2] at H
  have c2b0 : decide (40 < (l0.length : Int)) = false := decide_eq_false c2
  have c2b1 : decide (40 < l0.length) = false := decide_eq_false (by omega)
  clear c2
  have H' := Aside0.mk H
  clear H
  go_enter Try.func29, Try.ntmps29
  go_wp2
  go_loopg [12] k (fun kq v12 w' => ∃ (x12_1 : Int), v12 = .int .i64 x12_1 ∧ Aside0 (spec_GoodScene.l0 kq l0 l0 (l0.length : Int) x12_1 = some r) ∧ Aside0 (kq ≤ k) ∧ Aside0 (Below w.heap.size w w'))
  case atStart => exact ⟨(0), tE, H', ⟨Nat.le_refl _⟩, ⟨by repeat (first | (with_reducible first | exact HB.out | apply below_alloc | apply pw_below_drewN | apply below_drew1) | exact HB.out)⟩⟩
  case round =>
   clear H'
   try clear c2
   try clear c2b0
   try clear c2b1
   try clear p2
   obtain ⟨x12_1, rfl, HA, HK1, HB⟩ := hrel
   cases gk with
   | zero => exact absurd HA.out (by simp [spec_GoodScene.l0])
   | succ k1 =>
    have H := HA.out
    clear HA
    simp only [spec_GoodScene.l0] at H
    by_cases c3 : x12_1 < (l0.length : Int)
    ·rw [if_pos c3] at H
     have c3b0 : decide (x12_1 < (l0.length : Int)) = true := decide_eq_true c3
     clear c3
     by_cases c4 : 0 ≤ x12_1
     ·rw [if_pos c4] at H
      have c4b0 : decide (0 ≤ x12_1) = true := decide_eq_true c4
      clear c4
      by_cases c5 : x12_1 < (l0.length : Int)
      ·rw [if_pos c5] at H
       have c5b0 : decide (x12_1 < (l0.length : Int)) = true := decide_eq_true c5
       clear c5
       have HC6 := Aside0.mk H
       clear H
       have p389 : 0 ≤ (x12_1 : Int) := of_decide_eq_true hE
       have q389 : x12_1 < (l0.length : Int) := of_decide_eq_true hE
       obtain ⟨ad389, e389, hx389_0, hx389_1, hx389_2, hx389_3, hx389_4, hx389_5⟩ := at_T36 HR0.out x12_1 p389 q389
       cases e389
       replace hx389_0 := (HB.out.cell (World.block_lt_of_cell? w _ hx389_0)).trans hx389_0
       replace hx389_1 := (HB.out.cell (World.block_lt_of_cell? w _ hx389_1)).trans hx389_1
       replace hx389_2 := (HB.out.cell (World.block_lt_of_cell? w _ hx389_2)).trans hx389_2
       replace hx389_3 := (HB.out.cell (World.block_lt_of_cell? w _ hx389_3)).trans hx389_3
       replace hx389_4 := (HB.out.cell (World.block_lt_of_cell? w _ hx389_4)).trans hx389_4
       replace hx389_5 := (HB.out.cell (World.block_lt_of_cell? w _ hx389_5)).trans hx389_5
       replace p389 := eq_true p389
       replace q389 := eq_true q389
       go_upto_region 6 with (first | ((with_reducible refine gate_dst (N := 4) rfl ?_); refine box_event rfl (N := 4) rfl (cs := #[.string (⟨#[]⟩ : ByteArray), .int .i64 0, .int .i64 0, .int .i64 0, .int .i64 0, .bool false]) (t := 36) sE ?_; intro gb390 hg w7 hbox hb; have BK390 := Aside0.mk hbox; have GW390 := gS w hg (lU); have GE390 := gS w hg (lU); replace HB := bH (lU) hb; clear hb hbox hg; have hcz8_0 := cz BK390 0 (.string (⟨#[]⟩ : ByteArray)); have hcz8_1 := cz BK390 1 (.int .i64 0); have hcz8_2 := cz BK390 2 (.int .i64 0); have hcz8_3 := cz BK390 3 (.int .i64 0); have hcz8_4 := cz BK390 4 (.int .i64 0); have hcz8_5 := cz BK390 5 (.bool false); have hfz8_0 := fz BK390 0; have hfz8_1 := fz BK390 1; have hfz8_2 := fz BK390 2; have hfz8_3 := fz BK390 3; have hfz8_4 := fz BK390 4; have hfz8_5 := fz BK390 5) | ((with_reducible refine gate_store (t := 36) (p := 4) rfl ?_); refine store_event (t := 36) (p := 4) (v := ?vo_w9) (w1 := ((((((w7.setCell ⟨gb390, 0, none⟩ (.string ((rd_T36 l0 x12_1).f0))).setCell ⟨gb390, 1, none⟩ (.int .i64 ((rd_T36 l0 x12_1).f1))).setCell ⟨gb390, 2, none⟩ (.int .i64 ((rd_T36 l0 x12_1).f2))).setCell ⟨gb390, 3, none⟩ (.int .i64 ((rd_T36 l0 x12_1).f3))).setCell ⟨gb390, 4, none⟩ (.int .i64 ((rd_T36 l0 x12_1).f4))).setCell ⟨gb390, 5, none⟩ (.bool ((rd_T36 l0 x12_1).f5)))) ?hg ?ho ?hn ?hr ?_; (case ho => rfl); (case hg => rfl); (case hn => rfl); (case hr => first | (go_simp; done) | (go_simp; rfl) | (have hq0_ := (blk_cell BK390.out 0).trans (show _ = some _ from rfl); have hf0_ := blk_frozen BK390.out 0; have hq1_ := (blk_cell BK390.out 1).trans (show _ = some _ from rfl); have hf1_ := blk_frozen BK390.out 1; have hq2_ := (blk_cell BK390.out 2).trans (show _ = some _ from rfl); have hf2_ := blk_frozen BK390.out 2; have hq3_ := (blk_cell BK390.out 3).trans (show _ = some _ from rfl); have hf3_ := blk_frozen BK390.out 3; have hq4_ := (blk_cell BK390.out 4).trans (show _ = some _ from rfl); have hf4_ := blk_frozen BK390.out 4; have hq5_ := (blk_cell BK390.out 5).trans (show _ = some _ from rfl); have hf5_ := blk_frozen BK390.out 5; first | (go_simp; done) | (go_simp; rfl))); intro w9 hw; replace BK390 : Aside0 (w9.heap[gb390]? = some (.cells #[.string ((rd_T36 l0 x12_1).f0), .int .i64 ((rd_T36 l0 x12_1).f1), .int .i64 ((rd_T36 l0 x12_1).f2), .int .i64 ((rd_T36 l0 x12_1).f3), .int .i64 ((rd_T36 l0 x12_1).f4), .bool ((rd_T36 l0 x12_1).f5)] 36 (0, 0))) := ⟨(by rw [hw]; exact (by refine bU ?_; refine blk_put (cs := #[.string ((rd_T36 l0 x12_1).f0), .int .i64 ((rd_T36 l0 x12_1).f1), .int .i64 ((rd_T36 l0 x12_1).f2), .int .i64 ((rd_T36 l0 x12_1).f3), .int .i64 ((rd_T36 l0 x12_1).f4), .bool false]) ?_ 5 _ rfl; refine bU ?_; refine blk_put (cs := #[.string ((rd_T36 l0 x12_1).f0), .int .i64 ((rd_T36 l0 x12_1).f1), .int .i64 ((rd_T36 l0 x12_1).f2), .int .i64 ((rd_T36 l0 x12_1).f3), .int .i64 0, .bool false]) ?_ 4 _ rfl; refine bU ?_; refine blk_put (cs := #[.string ((rd_T36 l0 x12_1).f0), .int .i64 ((rd_T36 l0 x12_1).f1), .int .i64 ((rd_T36 l0 x12_1).f2), .int .i64 0, .int .i64 0, .bool false]) ?_ 3 _ rfl; refine bU ?_; refine blk_put (cs := #[.string ((rd_T36 l0 x12_1).f0), .int .i64 ((rd_T36 l0 x12_1).f1), .int .i64 0, .int .i64 0, .int .i64 0, .bool false]) ?_ 2 _ rfl; refine bU ?_; refine blk_put (cs := #[.string ((rd_T36 l0 x12_1).f0), .int .i64 0, .int .i64 0, .int .i64 0, .int .i64 0, .bool false]) ?_ 1 _ rfl; refine bU ?_; refine blk_put (cs := #[.string (⟨#[]⟩ : ByteArray), .int .i64 0, .int .i64 0, .int .i64 0, .int .i64 0, .bool false]) ?_ 0 _ rfl; refine bU ?_; exact BK390.out))⟩; replace HB : Aside0 (Below w.heap.size w w9) := ⟨(by rw [hw]; exact (lV1 GE390))⟩; clear hw))
       (try simp only [Act.put, List.setIfInBounds_toArray, List.set_cons_zero, List.set_cons_succ])
       go_cut [34] (fun v34 wc => ∃ (kq : Nat) (x34_5 : Bool), v34 = .bool x34_5 ∧ Aside0 (spec_GoodScene.j1 kq l0 x12_1 l0 (l0.length : Int) x12_1 x34_5 ((rd_T36 l0 x12_1).f0) ((rd_T36 l0 x12_1).f1) ((rd_T36 l0 x12_1).f2) ((rd_T36 l0 x12_1).f3) ((rd_T36 l0 x12_1).f4) ((rd_T36 l0 x12_1).f5) = some r) ∧ Aside0 (kq ≤ k1) ∧ Aside0 (wc.heap[gb390]? = some (.cells #[.string ((rd_T36 l0 x12_1).f0), .int .i64 ((rd_T36 l0 x12_1).f1), .int .i64 ((rd_T36 l0 x12_1).f2), .int .i64 ((rd_T36 l0 x12_1).f3), .int .i64 ((rd_T36 l0 x12_1).f4), .bool ((rd_T36 l0 x12_1).f5)] 36 (0, 0))) ∧ Aside0 (Below w.heap.size w wc))
       case first =>
        have H := HC6.out
        clear HC6
        replace H := Option.bind_eq_some_iff.mp H
        obtain ⟨t391, A100, H⟩ := H
        replace H : (if t391 = true then ((spec_l1In.f ((rd_T36 l0 x12_1).f1) (-1) (wrap64 (x12_1 - 1))).bind fun t392 => (if t392 = true then ((spec_l4Spot.f ((rd_T36 l0 x12_1).f0) ((rd_T36 l0 x12_1).f1) ((rd_T36 l0 x12_1).f2) ((rd_T36 l0 x12_1).f3) ((rd_T36 l0 x12_1).f4) ((rd_T36 l0 x12_1).f5)).bind fun bt393 => ((spec_l4Good.f bt393.1 bt393.2.1 bt393.2.2.1 bt393.2.2.2).bind fun t397 => (spec_GoodScene.j1 k1 l0 x12_1 l0 (l0.length : Int) x12_1 (!t397) ((rd_T36 l0 x12_1).f0) ((rd_T36 l0 x12_1).f1) ((rd_T36 l0 x12_1).f2) ((rd_T36 l0 x12_1).f3) ((rd_T36 l0 x12_1).f4) ((rd_T36 l0 x12_1).f5)))) else (spec_GoodScene.j1 k1 l0 x12_1 l0 (l0.length : Int) x12_1 true ((rd_T36 l0 x12_1).f0) ((rd_T36 l0 x12_1).f1) ((rd_T36 l0 x12_1).f2) ((rd_T36 l0 x12_1).f3) ((rd_T36 l0 x12_1).f4) ((rd_T36 l0 x12_1).f5)))) else (spec_GoodScene.j1 k1 l0 x12_1 l0 (l0.length : Int) x12_1 true ((rd_T36 l0 x12_1).f0) ((rd_T36 l0 x12_1).f1) ((rd_T36 l0 x12_1).f2) ((rd_T36 l0 x12_1).f3) ((rd_T36 l0 x12_1).f4) ((rd_T36 l0 x12_1).f5))) = some r := H
        have A10 := Aside0.mk A100
        clear A100
        by_cases c11 : t391 = true
        ·subst c11
         have H1 : ((spec_l1In.f ((rd_T36 l0 x12_1).f1) (-1) (wrap64 (x12_1 - 1))).bind fun t392 => (if t392 = true then ((spec_l4Spot.f ((rd_T36 l0 x12_1).f0) ((rd_T36 l0 x12_1).f1) ((rd_T36 l0 x12_1).f2) ((rd_T36 l0 x12_1).f3) ((rd_T36 l0 x12_1).f4) ((rd_T36 l0 x12_1).f5)).bind fun bt393 => ((spec_l4Good.f bt393.1 bt393.2.1 bt393.2.2.1 bt393.2.2.2).bind fun t397 => (spec_GoodScene.j1 k1 l0 x12_1 l0 (l0.length : Int) x12_1 (!t397) ((rd_T36 l0 x12_1).f0) ((rd_T36 l0 x12_1).f1) ((rd_T36 l0 x12_1).f2) ((rd_T36 l0 x12_1).f3) ((rd_T36 l0 x12_1).f4) ((rd_T36 l0 x12_1).f5)))) else (spec_GoodScene.j1 k1 l0 x12_1 l0 (l0.length : Int) x12_1 true ((rd_T36 l0 x12_1).f0) ((rd_T36 l0 x12_1).f1) ((rd_T36 l0 x12_1).f2) ((rd_T36 l0 x12_1).f3) ((rd_T36 l0 x12_1).f4) ((rd_T36 l0 x12_1).f5)))) = some r := by rw [if_pos rfl] at H; exact H
         clear H
         have H := H1
         clear H1
         replace H := Option.bind_eq_some_iff.mp H
         obtain ⟨t392, A120, H⟩ := H
         replace H : (if t392 = true then ((spec_l4Spot.f ((rd_T36 l0 x12_1).f0) ((rd_T36 l0 x12_1).f1) ((rd_T36 l0 x12_1).f2) ((rd_T36 l0 x12_1).f3) ((rd_T36 l0 x12_1).f4) ((rd_T36 l0 x12_1).f5)).bind fun bt393 => ((spec_l4Good.f bt393.1 bt393.2.1 bt393.2.2.1 bt393.2.2.2).bind fun t397 => (spec_GoodScene.j1 k1 l0 x12_1 l0 (l0.length : Int) x12_1 (!t397) ((rd_T36 l0 x12_1).f0) ((rd_T36 l0 x12_1).f1) ((rd_T36 l0 x12_1).f2) ((rd_T36 l0 x12_1).f3) ((rd_T36 l0 x12_1).f4) ((rd_T36 l0 x12_1).f5)))) else (spec_GoodScene.j1 k1 l0 x12_1 l0 (l0.length : Int) x12_1 true ((rd_T36 l0 x12_1).f0) ((rd_T36 l0 x12_1).f1) ((rd_T36 l0 x12_1).f2) ((rd_T36 l0 x12_1).f3) ((rd_T36 l0 x12_1).f4) ((rd_T36 l0 x12_1).f5))) = some r := H
         have A12 := Aside0.mk A120
         clear A120
         by_cases c13 : t392 = true
         ·subst c13
          have H1 : ((spec_l4Spot.f ((rd_T36 l0 x12_1).f0) ((rd_T36 l0 x12_1).f1) ((rd_T36 l0 x12_1).f2) ((rd_T36 l0 x12_1).f3) ((rd_T36 l0 x12_1).f4) ((rd_T36 l0 x12_1).f5)).bind fun bt393 => ((spec_l4Good.f bt393.1 bt393.2.1 bt393.2.2.1 bt393.2.2.2).bind fun t397 => (spec_GoodScene.j1 k1 l0 x12_1 l0 (l0.length : Int) x12_1 (!t397) ((rd_T36 l0 x12_1).f0) ((rd_T36 l0 x12_1).f1) ((rd_T36 l0 x12_1).f2) ((rd_T36 l0 x12_1).f3) ((rd_T36 l0 x12_1).f4) ((rd_T36 l0 x12_1).f5)))) = some r := by rw [if_pos rfl] at H; exact H
          clear H
          have H := H1
          clear H1
          replace H := Option.bind_eq_some_iff.mp H
          obtain ⟨⟨t393, t394, t395, t396⟩, A140, H⟩ := H
          replace H : ((spec_l4Good.f t393 t394 t395 t396).bind fun t397 => (spec_GoodScene.j1 k1 l0 x12_1 l0 (l0.length : Int) x12_1 (!t397) ((rd_T36 l0 x12_1).f0) ((rd_T36 l0 x12_1).f1) ((rd_T36 l0 x12_1).f2) ((rd_T36 l0 x12_1).f3) ((rd_T36 l0 x12_1).f4) ((rd_T36 l0 x12_1).f5))) = some r := H
          have A14 := Aside0.mk A140
          clear A140
          replace H := Option.bind_eq_some_iff.mp H
          obtain ⟨t397, A150, H⟩ := H
          replace H : (spec_GoodScene.j1 k1 l0 x12_1 l0 (l0.length : Int) x12_1 (!t397) ((rd_T36 l0 x12_1).f0) ((rd_T36 l0 x12_1).f1) ((rd_T36 l0 x12_1).f2) ((rd_T36 l0 x12_1).f3) ((rd_T36 l0 x12_1).f4) ((rd_T36 l0 x12_1).f5)) = some r := H
          have A15 := Aside0.mk A150
          clear A150
          have H' := Aside0.mk H
          clear H
          have hcz16_0 := cz BK390 0 (.string ((rd_T36 l0 x12_1).f0))
          have hcz16_1 := cz BK390 1 (.int .i64 ((rd_T36 l0 x12_1).f1))
          have hcz16_2 := cz BK390 2 (.int .i64 ((rd_T36 l0 x12_1).f2))
          have hcz16_3 := cz BK390 3 (.int .i64 ((rd_T36 l0 x12_1).f3))
          have hcz16_4 := cz BK390 4 (.int .i64 ((rd_T36 l0 x12_1).f4))
          have hcz16_5 := cz BK390 5 (.bool ((rd_T36 l0 x12_1).f5))
          have hfz16_0 := fz BK390 0
          have hfz16_1 := fz BK390 1
          have hfz16_2 := fz BK390 2
          have hfz16_3 := fz BK390 3
          have hfz16_4 := fz BK390 4
          have hfz16_5 := fz BK390 5
          go_wp2_with (first | ((with_reducible refine gate_callee (f := 40) rfl ?_); refine goesL_ (some 19) rfl rfl Try.func40 (by kernel_rfl) rfl #[.string ((rd_T36 l0 x12_1).f0)] rfl aE ?_; (with_reducible refine (spec_GoodName.calls k1 ((rd_T36 l0 x12_1).f0) true _ A10.out).mono ?_); rintro e w' ⟨rfl, ⟨nd, rfl⟩⟩; refine ⟨_, rfl, ?_⟩) | (go_at_call 26; (with_reducible refine (spec_l1In.calls ((rd_T36 l0 x12_1).f1) (-1) (wrap64 (x12_1 - 1)) true _ A12.out).mono ?_); rintro e w' ⟨rfl, ⟨nd, rfl⟩⟩) | (go_at_call 39; (with_reducible refine (spec_l4Spot.calls ((rd_T36 l0 x12_1).f0) ((rd_T36 l0 x12_1).f1) ((rd_T36 l0 x12_1).f2) ((rd_T36 l0 x12_1).f3) ((rd_T36 l0 x12_1).f4) ((rd_T36 l0 x12_1).f5) t393 t394 t395 t396 _ A14.out).mono ?_); rintro e w17 ⟨rfl, hb⟩; replace BK390 := bB (bV BK390) hb; replace HB := bH (lV1 GE390) hb; (try clear hb)) | (go_at_call 15; (with_reducible refine (spec_l4Good.calls t393 t394 t395 t396 t397 _ A15.out).mono ?_); rintro e w18 ⟨rfl, hb⟩; replace BK390 := bB (bV BK390) hb; replace HB := bH (lV1 GE390) hb; (try clear hb)))
          go_meet
          case rel => exact ⟨_, (!t397), tE, H', ⟨by have := HK1.out; first | omega | exact Nat.le_refl _⟩, ⟨by refine bU ?_; exact BK390.out⟩, ⟨by repeat (first | (with_reducible first | exact HB.out | apply below_alloc | apply pw_below_drewN | apply below_drew1 | refine below_set ?_ GE390.out) | exact HB.out)⟩⟩
         ·replace c13 := Bool.eq_false_iff.mpr c13
          subst c13
          have H1 : (spec_GoodScene.j1 k1 l0 x12_1 l0 (l0.length : Int) x12_1 true ((rd_T36 l0 x12_1).f0) ((rd_T36 l0 x12_1).f1) ((rd_T36 l0 x12_1).f2) ((rd_T36 l0 x12_1).f3) ((rd_T36 l0 x12_1).f4) ((rd_T36 l0 x12_1).f5)) = some r := by rw [if_neg (show ¬ (false = true) by decide)] at H; exact H
          clear H
          have H := H1
          clear H1
          have H' := Aside0.mk H
          clear H
          have hcz19_0 := cz BK390 0 (.string ((rd_T36 l0 x12_1).f0))
          have hcz19_1 := cz BK390 1 (.int .i64 ((rd_T36 l0 x12_1).f1))
          have hcz19_2 := cz BK390 2 (.int .i64 ((rd_T36 l0 x12_1).f2))
          have hcz19_3 := cz BK390 3 (.int .i64 ((rd_T36 l0 x12_1).f3))
          have hcz19_4 := cz BK390 4 (.int .i64 ((rd_T36 l0 x12_1).f4))
          have hcz19_5 := cz BK390 5 (.bool ((rd_T36 l0 x12_1).f5))
          have hfz19_0 := fz BK390 0
          have hfz19_1 := fz BK390 1
          have hfz19_2 := fz BK390 2
          have hfz19_3 := fz BK390 3
          have hfz19_4 := fz BK390 4
          have hfz19_5 := fz BK390 5
          go_wp2_with (first | ((with_reducible refine gate_callee (f := 40) rfl ?_); refine goesL_ (some 19) rfl rfl Try.func40 (by kernel_rfl) rfl #[.string ((rd_T36 l0 x12_1).f0)] rfl aE ?_; (with_reducible refine (spec_GoodName.calls k1 ((rd_T36 l0 x12_1).f0) true _ A10.out).mono ?_); rintro e w' ⟨rfl, ⟨nd, rfl⟩⟩; refine ⟨_, rfl, ?_⟩) | (go_at_call 26; (with_reducible refine (spec_l1In.calls ((rd_T36 l0 x12_1).f1) (-1) (wrap64 (x12_1 - 1)) false _ A12.out).mono ?_); rintro e w' ⟨rfl, ⟨nd, rfl⟩⟩))
          go_meet
          case rel => exact ⟨_, (true), tE, H', ⟨by have := HK1.out; first | omega | exact Nat.le_refl _⟩, ⟨by refine bU ?_; exact BK390.out⟩, ⟨by repeat (first | (with_reducible first | exact HB.out | apply below_alloc | apply pw_below_drewN | apply below_drew1 | refine below_set ?_ GE390.out) | exact HB.out)⟩⟩
        ·replace c11 := Bool.eq_false_iff.mpr c11
         subst c11
         have H1 : (spec_GoodScene.j1 k1 l0 x12_1 l0 (l0.length : Int) x12_1 true ((rd_T36 l0 x12_1).f0) ((rd_T36 l0 x12_1).f1) ((rd_T36 l0 x12_1).f2) ((rd_T36 l0 x12_1).f3) ((rd_T36 l0 x12_1).f4) ((rd_T36 l0 x12_1).f5)) = some r := by rw [if_neg (show ¬ (false = true) by decide)] at H; exact H
         clear H
         have H := H1
         clear H1
         have H' := Aside0.mk H
         clear H
         have hcz20_0 := cz BK390 0 (.string ((rd_T36 l0 x12_1).f0))
         have hcz20_1 := cz BK390 1 (.int .i64 ((rd_T36 l0 x12_1).f1))
         have hcz20_2 := cz BK390 2 (.int .i64 ((rd_T36 l0 x12_1).f2))
         have hcz20_3 := cz BK390 3 (.int .i64 ((rd_T36 l0 x12_1).f3))
         have hcz20_4 := cz BK390 4 (.int .i64 ((rd_T36 l0 x12_1).f4))
         have hcz20_5 := cz BK390 5 (.bool ((rd_T36 l0 x12_1).f5))
         have hfz20_0 := fz BK390 0
         have hfz20_1 := fz BK390 1
         have hfz20_2 := fz BK390 2
         have hfz20_3 := fz BK390 3
         have hfz20_4 := fz BK390 4
         have hfz20_5 := fz BK390 5
         go_wp2_with (first | ((with_reducible refine gate_callee (f := 40) rfl ?_); refine goesL_ (some 19) rfl rfl Try.func40 (by kernel_rfl) rfl #[.string ((rd_T36 l0 x12_1).f0)] rfl aE ?_; (with_reducible refine (spec_GoodName.calls k1 ((rd_T36 l0 x12_1).f0) false _ A10.out).mono ?_); rintro e w' ⟨rfl, ⟨nd, rfl⟩⟩; refine ⟨_, rfl, ?_⟩))
         go_meet
         case rel => exact ⟨_, (true), tE, H', ⟨by have := HK1.out; first | omega | exact Nat.le_refl _⟩, ⟨by refine bU ?_; exact BK390.out⟩, ⟨by repeat (first | (with_reducible first | exact HB.out | apply below_alloc | apply pw_below_drewN | apply below_drew1 | refine below_set ?_ GE390.out) | exact HB.out)⟩⟩
       case rest =>
        clear HC6
        try clear c1
        try clear q1
        try clear hf1
        try clear c2
        try clear c2b0
        try clear c2b1
        try clear p2
        try clear q2
        try clear hf2
        try clear c3
        try clear c3b0
        try clear p3
        try clear q3
        try clear hx3
        try clear hf3
        try clear c4
        try clear c4b0
        try clear q4
        try clear hf4
        try clear c5
        try clear c5b0
        try clear q5
        try clear hf5
        try clear p6
        try clear c11
        try clear c13
        try clear hcz16_0
        try clear hcz16_1
        try clear hcz16_2
        try clear hcz16_3
        try clear hcz16_4
        try clear hcz16_5
        try clear hcz19_0
        try clear hcz19_1
        try clear hcz19_2
        try clear hcz19_3
        try clear hcz19_4
        try clear hcz19_5
        try clear hcz20_0
        try clear hcz20_1
        try clear hcz20_2
        try clear hcz20_3
        try clear hcz20_4
        try clear hcz20_5
        try clear hcz8_0
        try clear hcz8_1
        try clear hcz8_2
        try clear hcz8_3
        try clear hcz8_4
        try clear hcz8_5
        try clear hfz16_0
        try clear hfz16_1
        try clear hfz16_2
        try clear hfz16_3
        try clear hfz16_4
        try clear hfz16_5
        try clear hfz19_0
        try clear hfz19_1
        try clear hfz19_2
        try clear hfz19_3
        try clear hfz19_4
        try clear hfz19_5
        try clear hfz20_0
        try clear hfz20_1
        try clear hfz20_2
        try clear hfz20_3
        try clear hfz20_4
        try clear hfz20_5
        try clear hfz8_0
        try clear hfz8_1
        try clear hfz8_2
        try clear hfz8_3
        try clear hfz8_4
        try clear hfz8_5
        try clear hx389_0
        try clear hx389_1
        try clear hx389_2
        try clear hx389_3
        try clear hx389_4
        try clear hx389_5
        try clear p2
        try clear p389
        try clear q389
        obtain ⟨kq, x34_5, rfl, HA, HJ5, BK390, HB⟩ := hcut
        cases kq with
        | zero => exact absurd HA.out (by simp [spec_GoodScene.j1])
        | succ kj5 =>
         have H := HA.out
         clear HA
         simp only [spec_GoodScene.j1] at H
         by_cases c21 : x34_5 = true
         ·subst c21
          have H1 : (some false) = some r := by rw [if_pos rfl] at H; exact H
          clear H
          have H := H1
          clear H1
          obtain rfl := Option.some.inj H
          go_wp2
          go_ret
          exact ⟨eE, lV1 GE390⟩
         ·replace c21 := Bool.eq_false_iff.mpr c21
          subst c21
          have H1 : (if 0 ≤ x12_1 then (if x12_1 ≤ (l0.length : Int) then ((some (l0.take (x12_1 : Int).toNat : List (S36))).bind fun y398 => (spec_GoodScene.l1 kj5 l0 l0 (l0.length : Int) x12_1 y398 (y398.length : Int) 0 ((rd_T36 l0 x12_1).f0) ((rd_T36 l0 x12_1).f1) ((rd_T36 l0 x12_1).f2) ((rd_T36 l0 x12_1).f3) ((rd_T36 l0 x12_1).f4) ((rd_T36 l0 x12_1).f5))) else (none)) else (none)) = some r := by rw [if_neg (show ¬ (false = true) by decide)] at H; exact H
          clear H
          have H := H1
          clear H1
          by_cases c22 : 0 ≤ x12_1
          ·rw [if_pos c22] at H
           have c22b0 := eq_true c22
           have c22b1 : decide (0 ≤ x12_1) = true := decide_eq_true c22
           clear c22
           by_cases c23 : x12_1 ≤ (l0.length : Int)
           ·rw [if_pos c23] at H
            have c23b0 := eq_true c23
            have c23b1 : decide (x12_1 ≤ (l0.length : Int)) = true := decide_eq_true c23
            clear c23
            obtain ⟨y398, hy398⟩ : ∃ y_ : List (S36), y_ = (l0.take (x12_1 : Int).toNat) := ⟨_, rfl⟩
            replace H : (spec_GoodScene.l1 kj5 l0 l0 (l0.length : Int) x12_1 y398 (y398.length : Int) 0 ((rd_T36 l0 x12_1).f0) ((rd_T36 l0 x12_1).f1) ((rd_T36 l0 x12_1).f2) ((rd_T36 l0 x12_1).f3) ((rd_T36 l0 x12_1).f4) ((rd_T36 l0 x12_1).f5)) = some r := by first | (rw [hy398]; with_reducible exact H) | (have H2_ := (Option.bind_some _ _).symm.trans H; rw [hy398]; with_reducible exact H2_) | (have H2_ := (Option.bind_some _ _).symm.trans H; with_reducible exact H2_) | with_reducible exact H | (rw [hy398]; exact H) | exact H
            have Ny398 := Aside0.mk hy398
            clear hy398
            have H' := Aside0.mk H
            clear H
            have q24 : (x12_1 : Int) ≤ ((l0.length : Int) : Int) := of_decide_eq_true hE
            obtain ⟨i024, hi024, _, hsz24, _⟩ := info_parts info36
            have hroom24 : l0.length ≤ c0 := HC0.out
            have hC24 : Kd.C k36 _ (some ad389) l0.length l0 := HR0.out
            have hcut24 := cut_to (P := Try.prog) 29 36 .i64 Try.underlying29 hi024 (some ad389) l0.length c0 x12_1 (of_decide_eq_true hE) q24 hroom24
            have hr24 := Kd.C_take (m := (x12_1 : Int).toNat) hC24 (by omega)
            have hy24 : y398.length = (x12_1 : Int).toNat := (by rw [Ny398.out, List.length_take]; omega)
            rw [← Ny398.out] at hr24
            rw [← hy24] at hcut24
            have HR401 := Aside0.mk hr24
            have HC401 := Aside0.mk (show y398.length ≤ c0 from by omega)
            clear hr24 hC24 hroom24 hi024 hsz24
            have KY24 := Aside0.mk hy24
            clear hy24
            replace q24 := eq_true q24
            go_wp2
            go_loopg [39] kj5 (fun kq v39 w' => ∃ (x39_3 : Int), v39 = .int .i64 x39_3 ∧ Aside0 (spec_GoodScene.l1 kq l0 l0 (l0.length : Int) x12_1 y398 (y398.length : Int) x39_3 ((rd_T36 l0 x12_1).f0) ((rd_T36 l0 x12_1).f1) ((rd_T36 l0 x12_1).f2) ((rd_T36 l0 x12_1).f3) ((rd_T36 l0 x12_1).f4) ((rd_T36 l0 x12_1).f5) = some r) ∧ Aside0 (kq ≤ kj5) ∧ Aside0 (w'.heap[gb390]? = some (.cells #[.string ((rd_T36 l0 x12_1).f0), .int .i64 ((rd_T36 l0 x12_1).f1), .int .i64 ((rd_T36 l0 x12_1).f2), .int .i64 ((rd_T36 l0 x12_1).f3), .int .i64 ((rd_T36 l0 x12_1).f4), .bool ((rd_T36 l0 x12_1).f5)] 36 (0, 0))) ∧ Aside0 (Below w.heap.size w w'))
            case atStart => exact ⟨(0), tE, H', ⟨Nat.le_refl _⟩, ⟨by refine bU ?_; exact BK390.out⟩, ⟨by repeat (first | (with_reducible first | exact HB.out | apply below_alloc | apply pw_below_drewN | apply below_drew1 | refine below_set ?_ GE390.out) | exact HB.out)⟩⟩
            case round =>
             clear H'
             try clear c1
             try clear q1
             try clear hf1
             try clear c2
             try clear c2b0
             try clear c2b1
             try clear p2
             try clear q2
             try clear hf2
             try clear c3
             try clear c3b0
             try clear p3
             try clear q3
             try clear hx3
             try clear hf3
             try clear c4
             try clear c4b0
             try clear q4
             try clear hf4
             try clear c5
             try clear c5b0
             try clear q5
             try clear hf5
             try clear p6
             try clear c11
             try clear c13
             try clear c21
             try clear c22
             try clear c22b0
             try clear c22b1
             try clear c23
             try clear c23b0
             try clear c23b1
             try clear q24
             try clear hcz16_0
             try clear hcz16_1
             try clear hcz16_2
             try clear hcz16_3
             try clear hcz16_4
             try clear hcz16_5
             try clear hcz19_0
             try clear hcz19_1
             try clear hcz19_2
             try clear hcz19_3
             try clear hcz19_4
             try clear hcz19_5
             try clear hcz20_0
             try clear hcz20_1
             try clear hcz20_2
             try clear hcz20_3
             try clear hcz20_4
             try clear hcz20_5
             try clear hcz8_0
             try clear hcz8_1
             try clear hcz8_2
             try clear hcz8_3
             try clear hcz8_4
             try clear hcz8_5
             try clear hfz16_0
             try clear hfz16_1
             try clear hfz16_2
             try clear hfz16_3
             try clear hfz16_4
             try clear hfz16_5
             try clear hfz19_0
             try clear hfz19_1
             try clear hfz19_2
             try clear hfz19_3
             try clear hfz19_4
             try clear hfz19_5
             try clear hfz20_0
             try clear hfz20_1
             try clear hfz20_2
             try clear hfz20_3
             try clear hfz20_4
             try clear hfz20_5
             try clear hfz8_0
             try clear hfz8_1
             try clear hfz8_2
             try clear hfz8_3
             try clear hfz8_4
             try clear hfz8_5
             try clear hx389_0
             try clear hx389_1
             try clear hx389_2
             try clear hx389_3
             try clear hx389_4
             try clear hx389_5
             try clear p2
             try clear p3
             try clear p389
             try clear p6
             try clear q1
             try clear q2
             try clear q24
             try clear q3
             try clear q389
             try clear q4
             try clear q5
             obtain ⟨x39_3, rfl, HA, HK3, BK390, HB⟩ := hrel
             cases gk with
             | zero => exact absurd HA.out (by simp [spec_GoodScene.l1])
             | succ k3 =>
              have H := HA.out
              clear HA
              simp only [spec_GoodScene.l1] at H
              by_cases c25 : x39_3 < (y398.length : Int)
              ·rw [if_pos c25] at H
               have c25b0 : decide (x39_3 < (y398.length : Int)) = true := decide_eq_true c25
               clear c25
               by_cases c26 : 0 ≤ x39_3
               ·rw [if_pos c26] at H
                have c26b0 : decide (0 ≤ x39_3) = true := decide_eq_true c26
                clear c26
                by_cases c27 : x39_3 < (y398.length : Int)
                ·rw [if_pos c27] at H
                 have c27b0 : decide (x39_3 < (y398.length : Int)) = true := decide_eq_true c27
                 clear c27
                 by_cases c28 : ((rd_T36 y398 x39_3).f1) = ((rd_T36 l0 x12_1).f1)
                 ·rw [if_pos c28] at H
                  have c28b0 : (((rd_T36 y398 x39_3).f1) == ((rd_T36 l0 x12_1).f1)) = true := beq_iff_eq.mpr c28
                  have c28b1 : (((rd_T36 y398 x39_3).f1) != ((rd_T36 l0 x12_1).f1)) = false := bne_eq_false_iff_eq.mpr c28
                  clear c28
                  by_cases c29 : ((rd_T36 y398 x39_3).f0).toList = ((rd_T36 l0 x12_1).f0).toList
                  ·rw [if_pos c29] at H
                   have c29b0 : (((rd_T36 y398 x39_3).f0).toList == ((rd_T36 l0 x12_1).f0).toList) = true := beq_iff_eq.mpr c29
                   have c29b1 : (((rd_T36 y398 x39_3).f0).toList != ((rd_T36 l0 x12_1).f0).toList) = false := bne_eq_false_iff_eq.mpr c29
                   clear c29
                   obtain rfl := Option.some.inj H
                   have p402 : 0 ≤ (x39_3 : Int) := of_decide_eq_true hE
                   have q402 : x39_3 < (y398.length : Int) := of_decide_eq_true hE
                   obtain ⟨ad402, e402, hx402_0, hx402_1, hx402_2, hx402_3, hx402_4, hx402_5⟩ := at_T36 HR401.out x39_3 p402 q402
                   obtain rfl : ad389 = ad402 := (by injection e402)
                   replace hx402_0 := (HB.out.cell (World.block_lt_of_cell? w _ hx402_0)).trans hx402_0
                   replace hx402_1 := (HB.out.cell (World.block_lt_of_cell? w _ hx402_1)).trans hx402_1
                   replace hx402_2 := (HB.out.cell (World.block_lt_of_cell? w _ hx402_2)).trans hx402_2
                   replace hx402_3 := (HB.out.cell (World.block_lt_of_cell? w _ hx402_3)).trans hx402_3
                   replace hx402_4 := (HB.out.cell (World.block_lt_of_cell? w _ hx402_4)).trans hx402_4
                   replace hx402_5 := (HB.out.cell (World.block_lt_of_cell? w _ hx402_5)).trans hx402_5
                   replace p402 := eq_true p402
                   replace q402 := eq_true q402
                   go_wp2_with (first | ((with_reducible refine gate_dst (N := 6) rfl ?_); refine box_event rfl (N := 6) rfl (cs := #[.string (⟨#[]⟩ : ByteArray), .int .i64 0, .int .i64 0, .int .i64 0, .int .i64 0, .bool false]) (t := 36) sE ?_; intro gb403 hg w30 hbox hb; have BK403 := Aside0.mk hbox; have GW403 := gS w hg (lV1 GE390); have GE403 := gS w hg (lV1 GE390); replace HB := bH (lV1 GE390) hb; have NB390_403 := nL hg (bV BK390); have NB403_390 := nG hg (bV BK390); replace BK390 := bB (bV BK390) hb; clear hb hbox hg; have hnb31 := NB403_390.out; have hnc31 := NB390_403.out; have hcz32_0 := cz BK403 0 (.string (⟨#[]⟩ : ByteArray)); have hcz32_1 := cz BK403 1 (.int .i64 0); have hcz32_2 := cz BK403 2 (.int .i64 0); have hcz32_3 := cz BK403 3 (.int .i64 0); have hcz32_4 := cz BK403 4 (.int .i64 0); have hcz32_5 := cz BK403 5 (.bool false); have hfz32_0 := fz BK403 0; have hfz32_1 := fz BK403 1; have hfz32_2 := fz BK403 2; have hfz32_3 := fz BK403 3; have hfz32_4 := fz BK403 4; have hfz32_5 := fz BK403 5) | ((with_reducible refine gate_store (t := 36) (p := 6) rfl ?_); refine store_event (t := 36) (p := 6) (v := ?vo_w33) (w1 := ((((((w30.setCell ⟨gb403, 0, none⟩ (.string ((rd_T36 y398 x39_3).f0))).setCell ⟨gb403, 1, none⟩ (.int .i64 ((rd_T36 y398 x39_3).f1))).setCell ⟨gb403, 2, none⟩ (.int .i64 ((rd_T36 y398 x39_3).f2))).setCell ⟨gb403, 3, none⟩ (.int .i64 ((rd_T36 y398 x39_3).f3))).setCell ⟨gb403, 4, none⟩ (.int .i64 ((rd_T36 y398 x39_3).f4))).setCell ⟨gb403, 5, none⟩ (.bool ((rd_T36 y398 x39_3).f5)))) ?hg ?ho ?hn ?hr ?_; (case ho => rfl); (case hg => rfl); (case hn => rfl); (case hr => first | (go_simp; done) | (go_simp; rfl) | (have hq0_ := (blk_cell BK403.out 0).trans (show _ = some _ from rfl); have hf0_ := blk_frozen BK403.out 0; have hq1_ := (blk_cell BK403.out 1).trans (show _ = some _ from rfl); have hf1_ := blk_frozen BK403.out 1; have hq2_ := (blk_cell BK403.out 2).trans (show _ = some _ from rfl); have hf2_ := blk_frozen BK403.out 2; have hq3_ := (blk_cell BK403.out 3).trans (show _ = some _ from rfl); have hf3_ := blk_frozen BK403.out 3; have hq4_ := (blk_cell BK403.out 4).trans (show _ = some _ from rfl); have hf4_ := blk_frozen BK403.out 4; have hq5_ := (blk_cell BK403.out 5).trans (show _ = some _ from rfl); have hf5_ := blk_frozen BK403.out 5; first | (go_simp; done) | (go_simp; rfl))); intro w33 hw; replace BK390 : Aside0 (w33.heap[gb390]? = some (.cells #[.string ((rd_T36 l0 x12_1).f0), .int .i64 ((rd_T36 l0 x12_1).f1), .int .i64 ((rd_T36 l0 x12_1).f2), .int .i64 ((rd_T36 l0 x12_1).f3), .int .i64 ((rd_T36 l0 x12_1).f4), .bool ((rd_T36 l0 x12_1).f5)] 36 (0, 0))) := ⟨(by rw [hw]; exact (bG NB390_403 BK390))⟩; replace BK403 : Aside0 (w33.heap[gb403]? = some (.cells #[.string ((rd_T36 y398 x39_3).f0), .int .i64 ((rd_T36 y398 x39_3).f1), .int .i64 ((rd_T36 y398 x39_3).f2), .int .i64 ((rd_T36 y398 x39_3).f3), .int .i64 ((rd_T36 y398 x39_3).f4), .bool ((rd_T36 y398 x39_3).f5)] 36 (0, 0))) := ⟨(by rw [hw]; exact (by refine bU ?_; refine blk_put (cs := #[.string ((rd_T36 y398 x39_3).f0), .int .i64 ((rd_T36 y398 x39_3).f1), .int .i64 ((rd_T36 y398 x39_3).f2), .int .i64 ((rd_T36 y398 x39_3).f3), .int .i64 ((rd_T36 y398 x39_3).f4), .bool false]) ?_ 5 _ rfl; refine bU ?_; refine blk_put (cs := #[.string ((rd_T36 y398 x39_3).f0), .int .i64 ((rd_T36 y398 x39_3).f1), .int .i64 ((rd_T36 y398 x39_3).f2), .int .i64 ((rd_T36 y398 x39_3).f3), .int .i64 0, .bool false]) ?_ 4 _ rfl; refine bU ?_; refine blk_put (cs := #[.string ((rd_T36 y398 x39_3).f0), .int .i64 ((rd_T36 y398 x39_3).f1), .int .i64 ((rd_T36 y398 x39_3).f2), .int .i64 0, .int .i64 0, .bool false]) ?_ 3 _ rfl; refine bU ?_; refine blk_put (cs := #[.string ((rd_T36 y398 x39_3).f0), .int .i64 ((rd_T36 y398 x39_3).f1), .int .i64 0, .int .i64 0, .int .i64 0, .bool false]) ?_ 2 _ rfl; refine bU ?_; refine blk_put (cs := #[.string ((rd_T36 y398 x39_3).f0), .int .i64 0, .int .i64 0, .int .i64 0, .int .i64 0, .bool false]) ?_ 1 _ rfl; refine bU ?_; refine blk_put (cs := #[.string (⟨#[]⟩ : ByteArray), .int .i64 0, .int .i64 0, .int .i64 0, .int .i64 0, .bool false]) ?_ 0 _ rfl; refine bU ?_; exact BK403.out))⟩; replace HB : Aside0 (Below w.heap.size w w33) := ⟨(by rw [hw]; exact (lV2 GE390 GE403))⟩; clear hw; have hcz34_0 := cz BK403 0 (.string ((rd_T36 y398 x39_3).f0)); have hcz34_1 := cz BK403 1 (.int .i64 ((rd_T36 y398 x39_3).f1)); have hcz34_2 := cz BK403 2 (.int .i64 ((rd_T36 y398 x39_3).f2)); have hcz34_3 := cz BK403 3 (.int .i64 ((rd_T36 y398 x39_3).f3)); have hcz34_4 := cz BK403 4 (.int .i64 ((rd_T36 y398 x39_3).f4)); have hcz34_5 := cz BK403 5 (.bool ((rd_T36 y398 x39_3).f5)); have hfz34_0 := fz BK403 0; have hfz34_1 := fz BK403 1; have hfz34_2 := fz BK403 2; have hfz34_3 := fz BK403 3; have hfz34_4 := fz BK403 4; have hfz34_5 := fz BK403 5; have hcz35_0 := cz BK390 0 (.string ((rd_T36 l0 x12_1).f0)); have hcz35_1 := cz BK390 1 (.int .i64 ((rd_T36 l0 x12_1).f1)); have hcz35_2 := cz BK390 2 (.int .i64 ((rd_T36 l0 x12_1).f2)); have hcz35_3 := cz BK390 3 (.int .i64 ((rd_T36 l0 x12_1).f3)); have hcz35_4 := cz BK390 4 (.int .i64 ((rd_T36 l0 x12_1).f4)); have hcz35_5 := cz BK390 5 (.bool ((rd_T36 l0 x12_1).f5)); have hfz35_0 := fz BK390 0; have hfz35_1 := fz BK390 1; have hfz35_2 := fz BK390 2; have hfz35_3 := fz BK390 3; have hfz35_4 := fz BK390 4; have hfz35_5 := fz BK390 5))
                   go_ret
                   exact ⟨eE, lV2 GE390 GE403⟩
                  ·rw [if_neg c29] at H
                   have c29b0 : (((rd_T36 y398 x39_3).f0).toList == ((rd_T36 l0 x12_1).f0).toList) = false := beq_eq_false_iff_ne.mpr c29
                   have c29b1 : (((rd_T36 y398 x39_3).f0).toList != ((rd_T36 l0 x12_1).f0).toList) = true := bne_iff_ne.mpr c29
                   have H' := Aside0.mk H
                   clear H
                   have p402 : 0 ≤ (x39_3 : Int) := of_decide_eq_true hE
                   have q402 : x39_3 < (y398.length : Int) := of_decide_eq_true hE
                   obtain ⟨ad402, e402, hx402_0, hx402_1, hx402_2, hx402_3, hx402_4, hx402_5⟩ := at_T36 HR401.out x39_3 p402 q402
                   obtain rfl : ad389 = ad402 := (by injection e402)
                   replace hx402_0 := (HB.out.cell (World.block_lt_of_cell? w _ hx402_0)).trans hx402_0
                   replace hx402_1 := (HB.out.cell (World.block_lt_of_cell? w _ hx402_1)).trans hx402_1
                   replace hx402_2 := (HB.out.cell (World.block_lt_of_cell? w _ hx402_2)).trans hx402_2
                   replace hx402_3 := (HB.out.cell (World.block_lt_of_cell? w _ hx402_3)).trans hx402_3
                   replace hx402_4 := (HB.out.cell (World.block_lt_of_cell? w _ hx402_4)).trans hx402_4
                   replace hx402_5 := (HB.out.cell (World.block_lt_of_cell? w _ hx402_5)).trans hx402_5
                   replace p402 := eq_true p402
                   replace q402 := eq_true q402
                   go_wp2_with (first | ((with_reducible refine gate_dst (N := 6) rfl ?_); refine box_event rfl (N := 6) rfl (cs := #[.string (⟨#[]⟩ : ByteArray), .int .i64 0, .int .i64 0, .int .i64 0, .int .i64 0, .bool false]) (t := 36) sE ?_; intro gb403 hg w36 hbox hb; have BK403 := Aside0.mk hbox; have GW403 := gS w hg (lV1 GE390); have GE403 := gS w hg (lV1 GE390); replace HB := bH (lV1 GE390) hb; have NB390_403 := nL hg (bV BK390); have NB403_390 := nG hg (bV BK390); replace BK390 := bB (bV BK390) hb; clear hb hbox hg; have hnb37 := NB403_390.out; have hnc37 := NB390_403.out; have hcz38_0 := cz BK403 0 (.string (⟨#[]⟩ : ByteArray)); have hcz38_1 := cz BK403 1 (.int .i64 0); have hcz38_2 := cz BK403 2 (.int .i64 0); have hcz38_3 := cz BK403 3 (.int .i64 0); have hcz38_4 := cz BK403 4 (.int .i64 0); have hcz38_5 := cz BK403 5 (.bool false); have hfz38_0 := fz BK403 0; have hfz38_1 := fz BK403 1; have hfz38_2 := fz BK403 2; have hfz38_3 := fz BK403 3; have hfz38_4 := fz BK403 4; have hfz38_5 := fz BK403 5) | ((with_reducible refine gate_store (t := 36) (p := 6) rfl ?_); refine store_event (t := 36) (p := 6) (v := ?vo_w39) (w1 := ((((((w36.setCell ⟨gb403, 0, none⟩ (.string ((rd_T36 y398 x39_3).f0))).setCell ⟨gb403, 1, none⟩ (.int .i64 ((rd_T36 y398 x39_3).f1))).setCell ⟨gb403, 2, none⟩ (.int .i64 ((rd_T36 y398 x39_3).f2))).setCell ⟨gb403, 3, none⟩ (.int .i64 ((rd_T36 y398 x39_3).f3))).setCell ⟨gb403, 4, none⟩ (.int .i64 ((rd_T36 y398 x39_3).f4))).setCell ⟨gb403, 5, none⟩ (.bool ((rd_T36 y398 x39_3).f5)))) ?hg ?ho ?hn ?hr ?_; (case ho => rfl); (case hg => rfl); (case hn => rfl); (case hr => first | (go_simp; done) | (go_simp; rfl) | (have hq0_ := (blk_cell BK403.out 0).trans (show _ = some _ from rfl); have hf0_ := blk_frozen BK403.out 0; have hq1_ := (blk_cell BK403.out 1).trans (show _ = some _ from rfl); have hf1_ := blk_frozen BK403.out 1; have hq2_ := (blk_cell BK403.out 2).trans (show _ = some _ from rfl); have hf2_ := blk_frozen BK403.out 2; have hq3_ := (blk_cell BK403.out 3).trans (show _ = some _ from rfl); have hf3_ := blk_frozen BK403.out 3; have hq4_ := (blk_cell BK403.out 4).trans (show _ = some _ from rfl); have hf4_ := blk_frozen BK403.out 4; have hq5_ := (blk_cell BK403.out 5).trans (show _ = some _ from rfl); have hf5_ := blk_frozen BK403.out 5; first | (go_simp; done) | (go_simp; rfl))); intro w39 hw; replace BK390 : Aside0 (w39.heap[gb390]? = some (.cells #[.string ((rd_T36 l0 x12_1).f0), .int .i64 ((rd_T36 l0 x12_1).f1), .int .i64 ((rd_T36 l0 x12_1).f2), .int .i64 ((rd_T36 l0 x12_1).f3), .int .i64 ((rd_T36 l0 x12_1).f4), .bool ((rd_T36 l0 x12_1).f5)] 36 (0, 0))) := ⟨(by rw [hw]; exact (bG NB390_403 BK390))⟩; replace BK403 : Aside0 (w39.heap[gb403]? = some (.cells #[.string ((rd_T36 y398 x39_3).f0), .int .i64 ((rd_T36 y398 x39_3).f1), .int .i64 ((rd_T36 y398 x39_3).f2), .int .i64 ((rd_T36 y398 x39_3).f3), .int .i64 ((rd_T36 y398 x39_3).f4), .bool ((rd_T36 y398 x39_3).f5)] 36 (0, 0))) := ⟨(by rw [hw]; exact (by refine bU ?_; refine blk_put (cs := #[.string ((rd_T36 y398 x39_3).f0), .int .i64 ((rd_T36 y398 x39_3).f1), .int .i64 ((rd_T36 y398 x39_3).f2), .int .i64 ((rd_T36 y398 x39_3).f3), .int .i64 ((rd_T36 y398 x39_3).f4), .bool false]) ?_ 5 _ rfl; refine bU ?_; refine blk_put (cs := #[.string ((rd_T36 y398 x39_3).f0), .int .i64 ((rd_T36 y398 x39_3).f1), .int .i64 ((rd_T36 y398 x39_3).f2), .int .i64 ((rd_T36 y398 x39_3).f3), .int .i64 0, .bool false]) ?_ 4 _ rfl; refine bU ?_; refine blk_put (cs := #[.string ((rd_T36 y398 x39_3).f0), .int .i64 ((rd_T36 y398 x39_3).f1), .int .i64 ((rd_T36 y398 x39_3).f2), .int .i64 0, .int .i64 0, .bool false]) ?_ 3 _ rfl; refine bU ?_; refine blk_put (cs := #[.string ((rd_T36 y398 x39_3).f0), .int .i64 ((rd_T36 y398 x39_3).f1), .int .i64 0, .int .i64 0, .int .i64 0, .bool false]) ?_ 2 _ rfl; refine bU ?_; refine blk_put (cs := #[.string ((rd_T36 y398 x39_3).f0), .int .i64 0, .int .i64 0, .int .i64 0, .int .i64 0, .bool false]) ?_ 1 _ rfl; refine bU ?_; refine blk_put (cs := #[.string (⟨#[]⟩ : ByteArray), .int .i64 0, .int .i64 0, .int .i64 0, .int .i64 0, .bool false]) ?_ 0 _ rfl; refine bU ?_; exact BK403.out))⟩; replace HB : Aside0 (Below w.heap.size w w39) := ⟨(by rw [hw]; exact (lV2 GE390 GE403))⟩; clear hw; have hcz40_0 := cz BK403 0 (.string ((rd_T36 y398 x39_3).f0)); have hcz40_1 := cz BK403 1 (.int .i64 ((rd_T36 y398 x39_3).f1)); have hcz40_2 := cz BK403 2 (.int .i64 ((rd_T36 y398 x39_3).f2)); have hcz40_3 := cz BK403 3 (.int .i64 ((rd_T36 y398 x39_3).f3)); have hcz40_4 := cz BK403 4 (.int .i64 ((rd_T36 y398 x39_3).f4)); have hcz40_5 := cz BK403 5 (.bool ((rd_T36 y398 x39_3).f5)); have hfz40_0 := fz BK403 0; have hfz40_1 := fz BK403 1; have hfz40_2 := fz BK403 2; have hfz40_3 := fz BK403 3; have hfz40_4 := fz BK403 4; have hfz40_5 := fz BK403 5; have hcz41_0 := cz BK390 0 (.string ((rd_T36 l0 x12_1).f0)); have hcz41_1 := cz BK390 1 (.int .i64 ((rd_T36 l0 x12_1).f1)); have hcz41_2 := cz BK390 2 (.int .i64 ((rd_T36 l0 x12_1).f2)); have hcz41_3 := cz BK390 3 (.int .i64 ((rd_T36 l0 x12_1).f3)); have hcz41_4 := cz BK390 4 (.int .i64 ((rd_T36 l0 x12_1).f4)); have hcz41_5 := cz BK390 5 (.bool ((rd_T36 l0 x12_1).f5)); have hfz41_0 := fz BK390 0; have hfz41_1 := fz BK390 1; have hfz41_2 := fz BK390 2; have hfz41_3 := fz BK390 3; have hfz41_4 := fz BK390 4; have hfz41_5 := fz BK390 5))
                   go_roundg k3
                   case measure => have := HK1.out; have := HJ5.out; have := HK3.out; omega
                   case rel => exact ⟨(wrap64 (x39_3 + 1)), tE, H', ⟨by have := HK1.out; have := HJ5.out; have := HK3.out; omega⟩, ⟨by refine bU ?_; exact BK390.out⟩, ⟨by repeat (first | (with_reducible first | exact HB.out | apply below_alloc | apply pw_below_drewN | apply below_drew1 | refine below_set ?_ GE390.out | refine below_set ?_ GE403.out) | exact HB.out)⟩⟩
                 ·rw [if_neg c28] at H
                  have c28b0 : (((rd_T36 y398 x39_3).f1) == ((rd_T36 l0 x12_1).f1)) = false := beq_eq_false_iff_ne.mpr c28
                  have c28b1 : (((rd_T36 y398 x39_3).f1) != ((rd_T36 l0 x12_1).f1)) = true := bne_iff_ne.mpr c28
                  have H' := Aside0.mk H
                  clear H
                  have p402 : 0 ≤ (x39_3 : Int) := of_decide_eq_true hE
                  have q402 : x39_3 < (y398.length : Int) := of_decide_eq_true hE
                  obtain ⟨ad402, e402, hx402_0, hx402_1, hx402_2, hx402_3, hx402_4, hx402_5⟩ := at_T36 HR401.out x39_3 p402 q402
                  obtain rfl : ad389 = ad402 := (by injection e402)
                  replace hx402_0 := (HB.out.cell (World.block_lt_of_cell? w _ hx402_0)).trans hx402_0
                  replace hx402_1 := (HB.out.cell (World.block_lt_of_cell? w _ hx402_1)).trans hx402_1
                  replace hx402_2 := (HB.out.cell (World.block_lt_of_cell? w _ hx402_2)).trans hx402_2
                  replace hx402_3 := (HB.out.cell (World.block_lt_of_cell? w _ hx402_3)).trans hx402_3
                  replace hx402_4 := (HB.out.cell (World.block_lt_of_cell? w _ hx402_4)).trans hx402_4
                  replace hx402_5 := (HB.out.cell (World.block_lt_of_cell? w _ hx402_5)).trans hx402_5
                  replace p402 := eq_true p402
                  replace q402 := eq_true q402
                  go_wp2_with (first | ((with_reducible refine gate_dst (N := 6) rfl ?_); refine box_event rfl (N := 6) rfl (cs := #[.string (⟨#[]⟩ : ByteArray), .int .i64 0, .int .i64 0, .int .i64 0, .int .i64 0, .bool false]) (t := 36) sE ?_; intro gb403 hg w42 hbox hb; have BK403 := Aside0.mk hbox; have GW403 := gS w hg (lV1 GE390); have GE403 := gS w hg (lV1 GE390); replace HB := bH (lV1 GE390) hb; have NB390_403 := nL hg (bV BK390); have NB403_390 := nG hg (bV BK390); replace BK390 := bB (bV BK390) hb; clear hb hbox hg; have hnb43 := NB403_390.out; have hnc43 := NB390_403.out; have hcz44_0 := cz BK403 0 (.string (⟨#[]⟩ : ByteArray)); have hcz44_1 := cz BK403 1 (.int .i64 0); have hcz44_2 := cz BK403 2 (.int .i64 0); have hcz44_3 := cz BK403 3 (.int .i64 0); have hcz44_4 := cz BK403 4 (.int .i64 0); have hcz44_5 := cz BK403 5 (.bool false); have hfz44_0 := fz BK403 0; have hfz44_1 := fz BK403 1; have hfz44_2 := fz BK403 2; have hfz44_3 := fz BK403 3; have hfz44_4 := fz BK403 4; have hfz44_5 := fz BK403 5) | ((with_reducible refine gate_store (t := 36) (p := 6) rfl ?_); refine store_event (t := 36) (p := 6) (v := ?vo_w45) (w1 := ((((((w42.setCell ⟨gb403, 0, none⟩ (.string ((rd_T36 y398 x39_3).f0))).setCell ⟨gb403, 1, none⟩ (.int .i64 ((rd_T36 y398 x39_3).f1))).setCell ⟨gb403, 2, none⟩ (.int .i64 ((rd_T36 y398 x39_3).f2))).setCell ⟨gb403, 3, none⟩ (.int .i64 ((rd_T36 y398 x39_3).f3))).setCell ⟨gb403, 4, none⟩ (.int .i64 ((rd_T36 y398 x39_3).f4))).setCell ⟨gb403, 5, none⟩ (.bool ((rd_T36 y398 x39_3).f5)))) ?hg ?ho ?hn ?hr ?_; (case ho => rfl); (case hg => rfl); (case hn => rfl); (case hr => first | (go_simp; done) | (go_simp; rfl) | (have hq0_ := (blk_cell BK403.out 0).trans (show _ = some _ from rfl); have hf0_ := blk_frozen BK403.out 0; have hq1_ := (blk_cell BK403.out 1).trans (show _ = some _ from rfl); have hf1_ := blk_frozen BK403.out 1; have hq2_ := (blk_cell BK403.out 2).trans (show _ = some _ from rfl); have hf2_ := blk_frozen BK403.out 2; have hq3_ := (blk_cell BK403.out 3).trans (show _ = some _ from rfl); have hf3_ := blk_frozen BK403.out 3; have hq4_ := (blk_cell BK403.out 4).trans (show _ = some _ from rfl); have hf4_ := blk_frozen BK403.out 4; have hq5_ := (blk_cell BK403.out 5).trans (show _ = some _ from rfl); have hf5_ := blk_frozen BK403.out 5; first | (go_simp; done) | (go_simp; rfl))); intro w45 hw; replace BK390 : Aside0 (w45.heap[gb390]? = some (.cells #[.string ((rd_T36 l0 x12_1).f0), .int .i64 ((rd_T36 l0 x12_1).f1), .int .i64 ((rd_T36 l0 x12_1).f2), .int .i64 ((rd_T36 l0 x12_1).f3), .int .i64 ((rd_T36 l0 x12_1).f4), .bool ((rd_T36 l0 x12_1).f5)] 36 (0, 0))) := ⟨(by rw [hw]; exact (bG NB390_403 BK390))⟩; replace BK403 : Aside0 (w45.heap[gb403]? = some (.cells #[.string ((rd_T36 y398 x39_3).f0), .int .i64 ((rd_T36 y398 x39_3).f1), .int .i64 ((rd_T36 y398 x39_3).f2), .int .i64 ((rd_T36 y398 x39_3).f3), .int .i64 ((rd_T36 y398 x39_3).f4), .bool ((rd_T36 y398 x39_3).f5)] 36 (0, 0))) := ⟨(by rw [hw]; exact (by refine bU ?_; refine blk_put (cs := #[.string ((rd_T36 y398 x39_3).f0), .int .i64 ((rd_T36 y398 x39_3).f1), .int .i64 ((rd_T36 y398 x39_3).f2), .int .i64 ((rd_T36 y398 x39_3).f3), .int .i64 ((rd_T36 y398 x39_3).f4), .bool false]) ?_ 5 _ rfl; refine bU ?_; refine blk_put (cs := #[.string ((rd_T36 y398 x39_3).f0), .int .i64 ((rd_T36 y398 x39_3).f1), .int .i64 ((rd_T36 y398 x39_3).f2), .int .i64 ((rd_T36 y398 x39_3).f3), .int .i64 0, .bool false]) ?_ 4 _ rfl; refine bU ?_; refine blk_put (cs := #[.string ((rd_T36 y398 x39_3).f0), .int .i64 ((rd_T36 y398 x39_3).f1), .int .i64 ((rd_T36 y398 x39_3).f2), .int .i64 0, .int .i64 0, .bool false]) ?_ 3 _ rfl; refine bU ?_; refine blk_put (cs := #[.string ((rd_T36 y398 x39_3).f0), .int .i64 ((rd_T36 y398 x39_3).f1), .int .i64 0, .int .i64 0, .int .i64 0, .bool false]) ?_ 2 _ rfl; refine bU ?_; refine blk_put (cs := #[.string ((rd_T36 y398 x39_3).f0), .int .i64 0, .int .i64 0, .int .i64 0, .int .i64 0, .bool false]) ?_ 1 _ rfl; refine bU ?_; refine blk_put (cs := #[.string (⟨#[]⟩ : ByteArray), .int .i64 0, .int .i64 0, .int .i64 0, .int .i64 0, .bool false]) ?_ 0 _ rfl; refine bU ?_; exact BK403.out))⟩; replace HB : Aside0 (Below w.heap.size w w45) := ⟨(by rw [hw]; exact (lV2 GE390 GE403))⟩; clear hw; have hcz46_0 := cz BK403 0 (.string ((rd_T36 y398 x39_3).f0)); have hcz46_1 := cz BK403 1 (.int .i64 ((rd_T36 y398 x39_3).f1)); have hcz46_2 := cz BK403 2 (.int .i64 ((rd_T36 y398 x39_3).f2)); have hcz46_3 := cz BK403 3 (.int .i64 ((rd_T36 y398 x39_3).f3)); have hcz46_4 := cz BK403 4 (.int .i64 ((rd_T36 y398 x39_3).f4)); have hcz46_5 := cz BK403 5 (.bool ((rd_T36 y398 x39_3).f5)); have hfz46_0 := fz BK403 0; have hfz46_1 := fz BK403 1; have hfz46_2 := fz BK403 2; have hfz46_3 := fz BK403 3; have hfz46_4 := fz BK403 4; have hfz46_5 := fz BK403 5; have hcz47_0 := cz BK390 0 (.string ((rd_T36 l0 x12_1).f0)); have hcz47_1 := cz BK390 1 (.int .i64 ((rd_T36 l0 x12_1).f1)); have hcz47_2 := cz BK390 2 (.int .i64 ((rd_T36 l0 x12_1).f2)); have hcz47_3 := cz BK390 3 (.int .i64 ((rd_T36 l0 x12_1).f3)); have hcz47_4 := cz BK390 4 (.int .i64 ((rd_T36 l0 x12_1).f4)); have hcz47_5 := cz BK390 5 (.bool ((rd_T36 l0 x12_1).f5)); have hfz47_0 := fz BK390 0; have hfz47_1 := fz BK390 1; have hfz47_2 := fz BK390 2; have hfz47_3 := fz BK390 3; have hfz47_4 := fz BK390 4; have hfz47_5 := fz BK390 5))
                  go_roundg k3
                  case measure => have := HK1.out; have := HJ5.out; have := HK3.out; omega
                  case rel => exact ⟨(wrap64 (x39_3 + 1)), tE, H', ⟨by have := HK1.out; have := HJ5.out; have := HK3.out; omega⟩, ⟨by refine bU ?_; exact BK390.out⟩, ⟨by repeat (first | (with_reducible first | exact HB.out | apply below_alloc | apply pw_below_drewN | apply below_drew1 | refine below_set ?_ GE390.out | refine below_set ?_ GE403.out) | exact HB.out)⟩⟩
                ·rw [if_neg c27] at H
                 exact absurd H (by simp)
               ·rw [if_neg c26] at H
                exact absurd H (by simp)
              ·rw [if_neg c25] at H
               have c25b0 : decide (x39_3 < (y398.length : Int)) = false := decide_eq_false c25
               clear c25
               have H' := Aside0.mk H
               clear H
               go_wp2
               go_roundg k3
               case measure => have := HK1.out; have := HJ5.out; have := HK3.out; omega
               case rel => exact ⟨(wrap64 (x12_1 + 1)), tE, H', ⟨by have := HK1.out; have := HJ5.out; have := HK3.out; omega⟩, ⟨by repeat (first | (with_reducible first | exact HB.out | apply below_alloc | apply pw_below_drewN | apply below_drew1 | refine below_set ?_ GE390.out) | exact HB.out)⟩⟩
           ·rw [if_neg c23] at H
            exact absurd H (by simp)
          ·rw [if_neg c22] at H
           exact absurd H (by simp)
      ·rw [if_neg c5] at H
       exact absurd H (by simp)
     ·rw [if_neg c4] at H
      exact absurd H (by simp)
    ·rw [if_neg c3] at H
     have c3b0 : decide (x12_1 < (l0.length : Int)) = false := decide_eq_false c3
     clear c3
     obtain rfl := Option.some.inj H
     go_wp2
     go_ret
     exact ⟨eE, lU⟩
def spec_SpotOf.j0 : Nat → List (S36) → Int → Bool → Option (Int × Int × Int × Bool × Bool)
 | 0, _, _, _ => none
 | k + 1, x0, x1, x18 => if x18 = true then (some (0, 0, 0, false, false)) else ((spec_l4Where.f k x0 x1).bind fun bt407 => (if bt407.2.2.2.2 = true then (some (bt407.1, bt407.2.1, bt407.2.2.1, bt407.2.2.2.1, true)) else (some (0, 0, 0, false, false))))
def spec_SpotOf.f (k : Nat) (l0 : List (S36)) (a1 : Int) : Option (Int × Int × Int × Bool × Bool) := (spec_GoodScene.f k l0).bind fun t405 => (if t405 = true then ((spec_l1In.f a1 0 (wrap64 ((l0.length : Int) - 1))).bind fun t406 => (spec_SpotOf.j0 k l0 a1 (!t406))) else (spec_SpotOf.j0 k l0 a1 true))
theorem spec_SpotOf.mono_l : ∀ k, (∀ y0 y1 y2, LeO (spec_SpotOf.j0 k y0 y1 y2) (spec_SpotOf.j0 (k + 1) y0 y1 y2))
 | 0 => fun _ _ _ r h => by simp [spec_SpotOf.j0] at h
 | k + 1 => by
  have ih0 := spec_SpotOf.mono_l k
  ·intro y0 y1 y2
   unfold spec_SpotOf.j0
   repeat' first
   | (with_reducible exact ih0 _ _ _)
   | (with_reducible exact spec_GoodScene.mono _ _)
   | (with_reducible exact spec_l4Where.mono _ _ _)
   | (with_reducible first | exact LeO.refl _ | exact LeO.none _ | refine LeO.ite ?_ ?_ | refine LeO.bind ?_ (fun _ => ?_))
   | exact ih0 _ _ _
   | exact spec_GoodScene.mono _ _
   | exact spec_l4Where.mono _ _ _ | exact LeO.none _ | refine LeO.ite ?_ ?_ | refine LeO.bind ?_ (fun _ => ?_)
theorem spec_SpotOf.mono : ∀ a0 a1 k, LeO (spec_SpotOf.f k a0 a1) (spec_SpotOf.f (k + 1) a0 a1) := by
 intro a0 a1 k
 have ih0 := spec_SpotOf.mono_l k
 unfold spec_SpotOf.f
 repeat' first
   | (with_reducible exact ih0 _ _ _)
   | (with_reducible exact spec_GoodScene.mono _ _)
   | (with_reducible exact spec_l4Where.mono _ _ _)
   | (with_reducible first | exact LeO.refl _ | exact LeO.none _ | refine LeO.ite ?_ ?_ | refine LeO.bind ?_ (fun _ => ?_))
   | exact ih0 _ _ _
   | exact spec_GoodScene.mono _ _
   | exact spec_l4Where.mono _ _ _ | exact LeO.none _ | refine LeO.ite ?_ ?_ | refine LeO.bind ?_ (fun _ => ?_)
set_option maxHeartbeats 8000000 in
set_option maxRecDepth 100000 in
theorem spec_SpotOf.calls (k : Nat) (A0 : Option Addr) (c0 : Nat) (l0 : List (S36)) (a1 : Int) (r1 : Int) (r2 : Int) (r3 : Int) (r4 : Bool) (r5 : Bool) (w : World) (hr0 : Kd.C k36 w A0 l0.length l0) (hc0 : l0.length ≤ c0) (h : spec_SpotOf.f k l0 a1 = some (r1, r2, r3, r4, r5)) :
  Calls Try.prog 25 #[.slice A0 l0.length c0, .int .i64 a1] w fun e w' => e = .returned (.tuple #[.agg #[.int .i64 r1, .int .i64 r2, .int .i64 r3, .bool r4], .bool r5]) ∧ Below w.heap.size w w' := by
 have hu24 := Try.underlying24
 have HR0 := Aside0.mk hr0
 have HC0 := Aside0.mk hc0
 clear hr0 hc0
 have HB := Aside0.mk (Below.refl w.heap.size w)
 have H : ((spec_GoodScene.f k l0).bind fun t405 => (if t405 = true then ((spec_l1In.f a1 0 (wrap64 ((l0.length : Int) - 1))).bind fun t406 => (spec_SpotOf.j0 k l0 a1 (!t406))) else (spec_SpotOf.j0 k l0 a1 true))) = some (r1, r2, r3, r4, r5) := h
 clear h
 have HC3 := Aside0.mk H
 clear H
 go_enter Try.func25, Try.ntmps25
 go_upto_region 1 with (first | ((with_reducible refine gate_dst (N := 4) rfl ?_); (try (refine gate_guard (by rfl) ?_; dsimp only)); refine box_event rfl (N := 4) rfl (cs := #[.int .i64 0, .int .i64 0, .int .i64 0, .bool false]) (t := 24) sE ?_; intro gb404 hg w4 hbox hb; have BK404 := Aside0.mk hbox; have GW404 := gS w hg (lU); have GE404 := gS w hg (lU); replace HB := bH (lU) hb; clear hb hbox hg))
 (try simp only [Act.put, List.setIfInBounds_toArray, List.set_cons_zero, List.set_cons_succ])
 go_cut [18] (fun v18 wc => ∃ (kq : Nat) (x18_2 : Bool), v18 = .bool x18_2 ∧ Aside0 (spec_SpotOf.j0 kq l0 a1 x18_2 = some (r1, r2, r3, r4, r5)) ∧ Aside0 (kq ≤ k) ∧ Aside0 (wc.heap[gb404]? = some (.cells #[.int .i64 0, .int .i64 0, .int .i64 0, .bool false] 24 (0, 0))) ∧ Aside0 (Below w.heap.size w wc))
 case first =>
  have H := HC3.out
  clear HC3
  replace H := Option.bind_eq_some_iff.mp H
  obtain ⟨t405, A50, H⟩ := H
  replace H : (if t405 = true then ((spec_l1In.f a1 0 (wrap64 ((l0.length : Int) - 1))).bind fun t406 => (spec_SpotOf.j0 k l0 a1 (!t406))) else (spec_SpotOf.j0 k l0 a1 true)) = some (r1, r2, r3, r4, r5) := H
  have A5 := Aside0.mk A50
  clear A50
  by_cases c6 : t405 = true
  ·subst c6
   have H1 : ((spec_l1In.f a1 0 (wrap64 ((l0.length : Int) - 1))).bind fun t406 => (spec_SpotOf.j0 k l0 a1 (!t406))) = some (r1, r2, r3, r4, r5) := by rw [if_pos rfl] at H; exact H
   clear H
   have H := H1
   clear H1
   replace H := Option.bind_eq_some_iff.mp H
   obtain ⟨t406, A70, H⟩ := H
   replace H : (spec_SpotOf.j0 k l0 a1 (!t406)) = some (r1, r2, r3, r4, r5) := H
   have A7 := Aside0.mk A70
   clear A70
   have H' := Aside0.mk H
   clear H
   go_wp2_with (first | ((with_reducible refine gate_callee (f := 29) rfl ?_); refine goesL_ (some 9) rfl rfl Try.func29 (by kernel_rfl) rfl #[.slice A0 l0.length c0] rfl aE ?_; (with_reducible refine (spec_GoodScene.calls k _ _ l0 true _ ?side1 ?side2 A5.out).mono ?_); (case side1 => exact cU (Kd.C_below HR0.out HB.out)); (case side2 => exact HC0.out); rintro e w8 ⟨rfl, hb⟩; refine ⟨_, rfl, ?_⟩; replace BK404 := bB (bV BK404) hb; replace HB := bH (lV1 GE404) hb; (try clear hb)) | (go_at_call 26; (with_reducible refine (spec_l1In.calls a1 0 (wrap64 ((l0.length : Int) - 1)) t406 _ A7.out).mono ?_); rintro e w' ⟨rfl, ⟨nd, rfl⟩⟩))
   go_meet
   case rel => exact ⟨_, (!t406), tE, H', ⟨by first | omega | exact Nat.le_refl _⟩, ⟨by refine bU ?_; exact BK404.out⟩, ⟨by repeat (first | (with_reducible first | exact HB.out | apply below_alloc | apply pw_below_drewN | apply below_drew1 | refine below_set ?_ GE404.out) | exact HB.out)⟩⟩
  ·replace c6 := Bool.eq_false_iff.mpr c6
   subst c6
   have H1 : (spec_SpotOf.j0 k l0 a1 true) = some (r1, r2, r3, r4, r5) := by rw [if_neg (show ¬ (false = true) by decide)] at H; exact H
   clear H
   have H := H1
   clear H1
   have H' := Aside0.mk H
   clear H
   go_wp2_with (first | ((with_reducible refine gate_callee (f := 29) rfl ?_); refine goesL_ (some 9) rfl rfl Try.func29 (by kernel_rfl) rfl #[.slice A0 l0.length c0] rfl aE ?_; (with_reducible refine (spec_GoodScene.calls k _ _ l0 false _ ?side1 ?side2 A5.out).mono ?_); (case side1 => exact cU (Kd.C_below HR0.out HB.out)); (case side2 => exact HC0.out); rintro e w9 ⟨rfl, hb⟩; refine ⟨_, rfl, ?_⟩; replace BK404 := bB (bV BK404) hb; replace HB := bH (lV1 GE404) hb; (try clear hb)))
   go_meet
   case rel => exact ⟨_, (true), tE, H', ⟨by first | omega | exact Nat.le_refl _⟩, ⟨by refine bU ?_; exact BK404.out⟩, ⟨by repeat (first | (with_reducible first | exact HB.out | apply below_alloc | apply pw_below_drewN | apply below_drew1 | refine below_set ?_ GE404.out) | exact HB.out)⟩⟩
 case rest =>
  clear HC3
  try clear c2
  try clear p2
  try clear c6
  try clear p6
  obtain ⟨kq, x18_2, rfl, HA, HJ2, BK404, HB⟩ := hcut
  cases kq with
  | zero => exact absurd HA.out (by simp [spec_SpotOf.j0])
  | succ kj2 =>
   have H := HA.out
   clear HA
   simp only [spec_SpotOf.j0] at H
   by_cases c10 : x18_2 = true
   ·subst c10
    have H1 : (some (0, 0, 0, false, false)) = some (r1, r2, r3, r4, r5) := by rw [if_pos rfl] at H; exact H
    clear H
    have H := H1
    clear H1
    simp only [Option.some.injEq, Prod.mk.injEq] at H
    obtain ⟨rfl, rfl, rfl, rfl, rfl⟩ := H
    have hcz11_0 := cz BK404 0 (.int .i64 0)
    have hcz11_1 := cz BK404 1 (.int .i64 0)
    have hcz11_2 := cz BK404 2 (.int .i64 0)
    have hcz11_3 := cz BK404 3 (.bool false)
    have hfz11_0 := fz BK404 0
    have hfz11_1 := fz BK404 1
    have hfz11_2 := fz BK404 2
    have hfz11_3 := fz BK404 3
    go_wp2_with (first | ((with_reducible refine gate_store (t := 24) (p := 4) rfl ?_); refine store_event (t := 24) (p := 4) (v := ?vo_w12) (w1 := ((((wc.setCell ⟨gb404, 0, none⟩ (.int .i64 0)).setCell ⟨gb404, 1, none⟩ (.int .i64 0)).setCell ⟨gb404, 2, none⟩ (.int .i64 0)).setCell ⟨gb404, 3, none⟩ (.bool false))) ?hg ?ho ?hn ?hr ?_; (case ho => rfl); (case hg => rfl); (case hn => rfl); (case hr => first | (go_simp; done) | (go_simp; rfl) | (have hq0_ := (blk_cell BK404.out 0).trans (show _ = some _ from rfl); have hf0_ := blk_frozen BK404.out 0; have hq1_ := (blk_cell BK404.out 1).trans (show _ = some _ from rfl); have hf1_ := blk_frozen BK404.out 1; have hq2_ := (blk_cell BK404.out 2).trans (show _ = some _ from rfl); have hf2_ := blk_frozen BK404.out 2; have hq3_ := (blk_cell BK404.out 3).trans (show _ = some _ from rfl); have hf3_ := blk_frozen BK404.out 3; first | (go_simp; done) | (go_simp; rfl))); intro w12 hw; replace BK404 : Aside0 (w12.heap[gb404]? = some (.cells #[.int .i64 0, .int .i64 0, .int .i64 0, .bool false] 24 (0, 0))) := ⟨(by rw [hw]; exact (by refine bU ?_; refine blk_put (cs := #[.int .i64 0, .int .i64 0, .int .i64 0, .bool false]) ?_ 3 _ rfl; refine bU ?_; refine blk_put (cs := #[.int .i64 0, .int .i64 0, .int .i64 0, .bool false]) ?_ 2 _ rfl; refine bU ?_; refine blk_put (cs := #[.int .i64 0, .int .i64 0, .int .i64 0, .bool false]) ?_ 1 _ rfl; refine bU ?_; refine blk_put (cs := #[.int .i64 0, .int .i64 0, .int .i64 0, .bool false]) ?_ 0 _ rfl; refine bU ?_; exact BK404.out))⟩; replace HB : Aside0 (Below w.heap.size w w12) := ⟨(by rw [hw]; exact (lV1 GE404))⟩; clear hw))
    refine bodyPost_ret (results_ct rfl _ _ gb404 24 #[.int .i64 0, .int .i64 0, .int .i64 0, .bool false] (0, 0) _ rfl (bV BK404) Try.underlying24 rfl (by kernel_rfl)) rfl ?_
    exact ⟨eE, lV1 GE404⟩
   ·replace c10 := Bool.eq_false_iff.mpr c10
    subst c10
    have H1 : ((spec_l4Where.f kj2 l0 a1).bind fun bt407 => (if bt407.2.2.2.2 = true then (some (bt407.1, bt407.2.1, bt407.2.2.1, bt407.2.2.2.1, true)) else (some (0, 0, 0, false, false)))) = some (r1, r2, r3, r4, r5) := by rw [if_neg (show ¬ (false = true) by decide)] at H; exact H
    clear H
    have H := H1
    clear H1
    replace H := Option.bind_eq_some_iff.mp H
    obtain ⟨⟨t407, t408, t409, t410, t411⟩, A130, H⟩ := H
    replace H : (if t411 = true then (some (t407, t408, t409, t410, true)) else (some (0, 0, 0, false, false))) = some (r1, r2, r3, r4, r5) := H
    have A13 := Aside0.mk A130
    clear A130
    by_cases c14 : t411 = true
    ·subst c14
     have H1 : (some (t407, t408, t409, t410, true)) = some (r1, r2, r3, r4, r5) := by rw [if_pos rfl] at H; exact H
     clear H
     have H := H1
     clear H1
     simp only [Option.some.injEq, Prod.mk.injEq] at H
     obtain ⟨rfl, rfl, rfl, rfl, rfl⟩ := H
     go_wp2_with (first | ((with_reducible refine gate_callee (f := 27) rfl ?_); refine goesL_ (some 23) rfl rfl Try.func27 (by kernel_rfl) rfl #[.slice A0 l0.length c0, .int .i64 a1] rfl aE ?_; (with_reducible refine (spec_l4Where.calls kj2 _ _ l0 a1 t407 t408 t409 t410 true _ ?side1 ?side2 A13.out).mono ?_); (case side1 => exact cU (Kd.C_below HR0.out HB.out)); (case side2 => exact HC0.out); rintro e w15 ⟨rfl, hb⟩; refine ⟨_, rfl, ?_⟩; replace BK404 := bB (bV BK404) hb; replace HB := bH (lV1 GE404) hb; (try clear hb)) | ((with_reducible refine gate_dst (N := 6) rfl ?_); (try (refine gate_guard (by rfl) ?_; dsimp only)); refine box_event rfl (N := 6) rfl (cs := #[.int .i64 0, .int .i64 0, .int .i64 0, .bool false]) (t := 24) sE ?_; intro gb412 hg w16 hbox hb; have BK412 := Aside0.mk hbox; have GW412 := gS w hg (lV1 GE404); have GE412 := gS w hg (lV1 GE404); replace HB := bH (lV1 GE404) hb; have NB404_412 := nL hg (bV BK404); have NB412_404 := nG hg (bV BK404); replace BK404 := bB (bV BK404) hb; clear hb hbox hg; have hnb17 := NB412_404.out; have hnc17 := NB404_412.out; have hcz18_0 := cz BK412 0 (.int .i64 0); have hcz18_1 := cz BK412 1 (.int .i64 0); have hcz18_2 := cz BK412 2 (.int .i64 0); have hcz18_3 := cz BK412 3 (.bool false); have hfz18_0 := fz BK412 0; have hfz18_1 := fz BK412 1; have hfz18_2 := fz BK412 2; have hfz18_3 := fz BK412 3) | ((with_reducible refine gate_store (t := 24) (p := 6) rfl ?_); refine store_event (t := 24) (p := 6) (v := ?vo_w19) (w1 := ((((w16.setCell ⟨gb412, 0, none⟩ (.int .i64 t407)).setCell ⟨gb412, 1, none⟩ (.int .i64 t408)).setCell ⟨gb412, 2, none⟩ (.int .i64 t409)).setCell ⟨gb412, 3, none⟩ (.bool t410))) ?hg ?ho ?hn ?hr ?_; (case ho => rfl); (case hg => rfl); (case hn => rfl); (case hr => first | (go_simp; done) | (go_simp; rfl) | (have hq0_ := (blk_cell BK412.out 0).trans (show _ = some _ from rfl); have hf0_ := blk_frozen BK412.out 0; have hq1_ := (blk_cell BK412.out 1).trans (show _ = some _ from rfl); have hf1_ := blk_frozen BK412.out 1; have hq2_ := (blk_cell BK412.out 2).trans (show _ = some _ from rfl); have hf2_ := blk_frozen BK412.out 2; have hq3_ := (blk_cell BK412.out 3).trans (show _ = some _ from rfl); have hf3_ := blk_frozen BK412.out 3; first | (go_simp; done) | (go_simp; rfl))); intro w19 hw; replace BK404 : Aside0 (w19.heap[gb404]? = some (.cells #[.int .i64 0, .int .i64 0, .int .i64 0, .bool false] 24 (0, 0))) := ⟨(by rw [hw]; exact (bG NB404_412 BK404))⟩; replace BK412 : Aside0 (w19.heap[gb412]? = some (.cells #[.int .i64 t407, .int .i64 t408, .int .i64 t409, .bool t410] 24 (0, 0))) := ⟨(by rw [hw]; exact (by refine bU ?_; refine blk_put (cs := #[.int .i64 t407, .int .i64 t408, .int .i64 t409, .bool false]) ?_ 3 _ rfl; refine bU ?_; refine blk_put (cs := #[.int .i64 t407, .int .i64 t408, .int .i64 0, .bool false]) ?_ 2 _ rfl; refine bU ?_; refine blk_put (cs := #[.int .i64 t407, .int .i64 0, .int .i64 0, .bool false]) ?_ 1 _ rfl; refine bU ?_; refine blk_put (cs := #[.int .i64 0, .int .i64 0, .int .i64 0, .bool false]) ?_ 0 _ rfl; refine bU ?_; exact BK412.out))⟩; replace HB : Aside0 (Below w.heap.size w w19) := ⟨(by rw [hw]; exact (lV2 GE404 GE412))⟩; clear hw; have hcz20_0 := cz BK412 0 (.int .i64 t407); have hcz20_1 := cz BK412 1 (.int .i64 t408); have hcz20_2 := cz BK412 2 (.int .i64 t409); have hcz20_3 := cz BK412 3 (.bool t410); have hfz20_0 := fz BK412 0; have hfz20_1 := fz BK412 1; have hfz20_2 := fz BK412 2; have hfz20_3 := fz BK412 3; have hcz21_0 := cz BK404 0 (.int .i64 0); have hcz21_1 := cz BK404 1 (.int .i64 0); have hcz21_2 := cz BK404 2 (.int .i64 0); have hcz21_3 := cz BK404 3 (.bool false); have hfz21_0 := fz BK404 0; have hfz21_1 := fz BK404 1; have hfz21_2 := fz BK404 2; have hfz21_3 := fz BK404 3) | ((with_reducible refine gate_store (t := 24) (p := 4) rfl ?_); refine store_event (t := 24) (p := 4) (v := ?vo_w22) (w1 := ((((w19.setCell ⟨gb404, 0, none⟩ (.int .i64 t407)).setCell ⟨gb404, 1, none⟩ (.int .i64 t408)).setCell ⟨gb404, 2, none⟩ (.int .i64 t409)).setCell ⟨gb404, 3, none⟩ (.bool t410))) ?hg ?ho ?hn ?hr ?_; (case ho => rfl); (case hg => rfl); (case hn => rfl); (case hr => first | (go_simp; done) | (go_simp; rfl) | (have hq0_ := (blk_cell BK404.out 0).trans (show _ = some _ from rfl); have hf0_ := blk_frozen BK404.out 0; have hq1_ := (blk_cell BK404.out 1).trans (show _ = some _ from rfl); have hf1_ := blk_frozen BK404.out 1; have hq2_ := (blk_cell BK404.out 2).trans (show _ = some _ from rfl); have hf2_ := blk_frozen BK404.out 2; have hq3_ := (blk_cell BK404.out 3).trans (show _ = some _ from rfl); have hf3_ := blk_frozen BK404.out 3; first | (go_simp; done) | (go_simp; rfl))); intro w22 hw; replace BK404 : Aside0 (w22.heap[gb404]? = some (.cells #[.int .i64 t407, .int .i64 t408, .int .i64 t409, .bool t410] 24 (0, 0))) := ⟨(by rw [hw]; exact (by refine bU ?_; refine blk_put (cs := #[.int .i64 t407, .int .i64 t408, .int .i64 t409, .bool false]) ?_ 3 _ rfl; refine bU ?_; refine blk_put (cs := #[.int .i64 t407, .int .i64 t408, .int .i64 0, .bool false]) ?_ 2 _ rfl; refine bU ?_; refine blk_put (cs := #[.int .i64 t407, .int .i64 0, .int .i64 0, .bool false]) ?_ 1 _ rfl; refine bU ?_; refine blk_put (cs := #[.int .i64 0, .int .i64 0, .int .i64 0, .bool false]) ?_ 0 _ rfl; refine bU ?_; exact BK404.out))⟩; replace BK412 : Aside0 (w22.heap[gb412]? = some (.cells #[.int .i64 t407, .int .i64 t408, .int .i64 t409, .bool t410] 24 (0, 0))) := ⟨(by rw [hw]; exact (bG NB412_404 BK412))⟩; replace HB : Aside0 (Below w.heap.size w w22) := ⟨(by rw [hw]; exact (lV2 GE404 GE412))⟩; clear hw))
     refine bodyPost_ret (results_ct rfl _ _ gb404 24 #[.int .i64 t407, .int .i64 t408, .int .i64 t409, .bool t410] (0, 0) _ rfl (bV BK404) Try.underlying24 rfl (by kernel_rfl)) rfl ?_
     exact ⟨eE, lV2 GE404 GE412⟩
    ·replace c14 := Bool.eq_false_iff.mpr c14
     subst c14
     have H1 : (some (0, 0, 0, false, false)) = some (r1, r2, r3, r4, r5) := by rw [if_neg (show ¬ (false = true) by decide)] at H; exact H
     clear H
     have H := H1
     clear H1
     simp only [Option.some.injEq, Prod.mk.injEq] at H
     obtain ⟨rfl, rfl, rfl, rfl, rfl⟩ := H
     go_wp2_with (first | ((with_reducible refine gate_callee (f := 27) rfl ?_); refine goesL_ (some 23) rfl rfl Try.func27 (by kernel_rfl) rfl #[.slice A0 l0.length c0, .int .i64 a1] rfl aE ?_; (with_reducible refine (spec_l4Where.calls kj2 _ _ l0 a1 t407 t408 t409 t410 false _ ?side1 ?side2 A13.out).mono ?_); (case side1 => exact cU (Kd.C_below HR0.out HB.out)); (case side2 => exact HC0.out); rintro e w23 ⟨rfl, hb⟩; refine ⟨_, rfl, ?_⟩; replace BK404 := bB (bV BK404) hb; replace HB := bH (lV1 GE404) hb; (try clear hb)) | ((with_reducible refine gate_dst (N := 6) rfl ?_); (try (refine gate_guard (by rfl) ?_; dsimp only)); refine box_event rfl (N := 6) rfl (cs := #[.int .i64 0, .int .i64 0, .int .i64 0, .bool false]) (t := 24) sE ?_; intro gb412 hg w24 hbox hb; have BK412 := Aside0.mk hbox; have GW412 := gS w hg (lV1 GE404); have GE412 := gS w hg (lV1 GE404); replace HB := bH (lV1 GE404) hb; have NB404_412 := nL hg (bV BK404); have NB412_404 := nG hg (bV BK404); replace BK404 := bB (bV BK404) hb; clear hb hbox hg; have hnb25 := NB412_404.out; have hnc25 := NB404_412.out; have hcz26_0 := cz BK412 0 (.int .i64 0); have hcz26_1 := cz BK412 1 (.int .i64 0); have hcz26_2 := cz BK412 2 (.int .i64 0); have hcz26_3 := cz BK412 3 (.bool false); have hfz26_0 := fz BK412 0; have hfz26_1 := fz BK412 1; have hfz26_2 := fz BK412 2; have hfz26_3 := fz BK412 3) | ((with_reducible refine gate_store (t := 24) (p := 6) rfl ?_); refine store_event (t := 24) (p := 6) (v := ?vo_w27) (w1 := ((((w24.setCell ⟨gb412, 0, none⟩ (.int .i64 t407)).setCell ⟨gb412, 1, none⟩ (.int .i64 t408)).setCell ⟨gb412, 2, none⟩ (.int .i64 t409)).setCell ⟨gb412, 3, none⟩ (.bool t410))) ?hg ?ho ?hn ?hr ?_; (case ho => rfl); (case hg => rfl); (case hn => rfl); (case hr => first | (go_simp; done) | (go_simp; rfl) | (have hq0_ := (blk_cell BK412.out 0).trans (show _ = some _ from rfl); have hf0_ := blk_frozen BK412.out 0; have hq1_ := (blk_cell BK412.out 1).trans (show _ = some _ from rfl); have hf1_ := blk_frozen BK412.out 1; have hq2_ := (blk_cell BK412.out 2).trans (show _ = some _ from rfl); have hf2_ := blk_frozen BK412.out 2; have hq3_ := (blk_cell BK412.out 3).trans (show _ = some _ from rfl); have hf3_ := blk_frozen BK412.out 3; first | (go_simp; done) | (go_simp; rfl))); intro w27 hw; replace BK404 : Aside0 (w27.heap[gb404]? = some (.cells #[.int .i64 0, .int .i64 0, .int .i64 0, .bool false] 24 (0, 0))) := ⟨(by rw [hw]; exact (bG NB404_412 BK404))⟩; replace BK412 : Aside0 (w27.heap[gb412]? = some (.cells #[.int .i64 t407, .int .i64 t408, .int .i64 t409, .bool t410] 24 (0, 0))) := ⟨(by rw [hw]; exact (by refine bU ?_; refine blk_put (cs := #[.int .i64 t407, .int .i64 t408, .int .i64 t409, .bool false]) ?_ 3 _ rfl; refine bU ?_; refine blk_put (cs := #[.int .i64 t407, .int .i64 t408, .int .i64 0, .bool false]) ?_ 2 _ rfl; refine bU ?_; refine blk_put (cs := #[.int .i64 t407, .int .i64 0, .int .i64 0, .bool false]) ?_ 1 _ rfl; refine bU ?_; refine blk_put (cs := #[.int .i64 0, .int .i64 0, .int .i64 0, .bool false]) ?_ 0 _ rfl; refine bU ?_; exact BK412.out))⟩; replace HB : Aside0 (Below w.heap.size w w27) := ⟨(by rw [hw]; exact (lV2 GE404 GE412))⟩; clear hw; have hcz28_0 := cz BK404 0 (.int .i64 0); have hcz28_1 := cz BK404 1 (.int .i64 0); have hcz28_2 := cz BK404 2 (.int .i64 0); have hcz28_3 := cz BK404 3 (.bool false); have hfz28_0 := fz BK404 0; have hfz28_1 := fz BK404 1; have hfz28_2 := fz BK404 2; have hfz28_3 := fz BK404 3) | ((with_reducible refine gate_store (t := 24) (p := 4) rfl ?_); refine store_event (t := 24) (p := 4) (v := ?vo_w29) (w1 := ((((w27.setCell ⟨gb404, 0, none⟩ (.int .i64 0)).setCell ⟨gb404, 1, none⟩ (.int .i64 0)).setCell ⟨gb404, 2, none⟩ (.int .i64 0)).setCell ⟨gb404, 3, none⟩ (.bool false))) ?hg ?ho ?hn ?hr ?_; (case ho => rfl); (case hg => rfl); (case hn => rfl); (case hr => first | (go_simp; done) | (go_simp; rfl) | (have hq0_ := (blk_cell BK404.out 0).trans (show _ = some _ from rfl); have hf0_ := blk_frozen BK404.out 0; have hq1_ := (blk_cell BK404.out 1).trans (show _ = some _ from rfl); have hf1_ := blk_frozen BK404.out 1; have hq2_ := (blk_cell BK404.out 2).trans (show _ = some _ from rfl); have hf2_ := blk_frozen BK404.out 2; have hq3_ := (blk_cell BK404.out 3).trans (show _ = some _ from rfl); have hf3_ := blk_frozen BK404.out 3; first | (go_simp; done) | (go_simp; rfl))); intro w29 hw; replace BK404 : Aside0 (w29.heap[gb404]? = some (.cells #[.int .i64 0, .int .i64 0, .int .i64 0, .bool false] 24 (0, 0))) := ⟨(by rw [hw]; exact (by refine bU ?_; refine blk_put (cs := #[.int .i64 0, .int .i64 0, .int .i64 0, .bool false]) ?_ 3 _ rfl; refine bU ?_; refine blk_put (cs := #[.int .i64 0, .int .i64 0, .int .i64 0, .bool false]) ?_ 2 _ rfl; refine bU ?_; refine blk_put (cs := #[.int .i64 0, .int .i64 0, .int .i64 0, .bool false]) ?_ 1 _ rfl; refine bU ?_; refine blk_put (cs := #[.int .i64 0, .int .i64 0, .int .i64 0, .bool false]) ?_ 0 _ rfl; refine bU ?_; exact BK404.out))⟩; replace BK412 : Aside0 (w29.heap[gb412]? = some (.cells #[.int .i64 t407, .int .i64 t408, .int .i64 t409, .bool t410] 24 (0, 0))) := ⟨(by rw [hw]; exact (bG NB412_404 BK412))⟩; replace HB : Aside0 (Below w.heap.size w w29) := ⟨(by rw [hw]; exact (lV2 GE404 GE412))⟩; clear hw))
     refine bodyPost_ret (results_ct rfl _ _ gb404 24 #[.int .i64 0, .int .i64 0, .int .i64 0, .bool false] (0, 0) _ rfl (bV BK404) Try.underlying24 rfl (by kernel_rfl)) rfl ?_
     exact ⟨eE, lV2 GE404 GE412⟩
end Go.Proofs.Ytmmgmbmjlbdpnaa.PFnPlaced
namespace Go.Proofs.Ytmmgmbmjlbdpnaa.PFnPlaced
open Go.RowKit Go.Proofs.YtmmgmbmjlbdpnaaW.PrintWords Go.Proofs.YtmmgmbmjlbdpnaaW.PrintLast Go.Proofs.YtmmgmbmjlbdpnaaW.PrintMore
attribute [local go_sem] max2_int min2_int max_two min_two max_three min_three max_four min_four   -- for this text's walks alone
set_option linter.unusedVariables false
set_option linter.unusedSimpArgs false
def spec_Hang.j0 : Nat → List (S36) → Int → Int → Bool → Int → Int → Int → Bool → Option ((List (S36)) × Bool)
 | 0, _, _, _, _, _, _, _, _ => none
 | k + 1, x0, x1, x2, x28, x419000, x419001, x419002, x419003 => if x28 = true then (some (([] : List (S36)), false)) else ((spec_l4Where.f k x0 x2).bind fun bt420 => (if bt420.2.2.2.2 = true then ((spec_l4Back.f k bt420.1 bt420.2.1 bt420.2.2.1 bt420.2.2.2.1).bind fun bt426 => ((spec_l4Join.f k bt426.1 bt426.2.1 bt426.2.2.1 bt426.2.2.2 x419000 x419001 x419002 x419003).bind fun bt430 => ((some (([] : List (S36)) : List (S36))).bind fun y435 => (if y435.length + x0.length < 2513169434916 then ((some (y435 ++ x0 : List (S36))).bind fun y438 => (if 0 ≤ x1 then (if x1 < (x0.length : Int) then (if x1 < (y438.length : Int) then ((some (y438.set (x1 : Int).toNat (⟨(rd_T36 x0 x1).f0, x2, bt430.1, bt430.2.1, bt430.2.2.1, bt430.2.2.2⟩ : S36) : List (S36))).bind fun y442 => ((spec_GoodScene.f k y442).bind fun t443 => (if t443 = true then (some (y442, true)) else (some (([] : List (S36)), false))))) else (none)) else (none)) else (none))) else (none))))) else (some (([] : List (S36)), false))))
def spec_Hang.f (k : Nat) (l0 : List (S36)) (a1 : Int) (a2 : Int) : Option ((List (S36)) × Bool) := (spec_SpotOf.f k l0 a1).bind fun bt413 => (if bt413.2.2.2.2 = true then ((spec_l1In.f a2 (-1) (wrap64 (a1 - 1))).bind fun t419 => (spec_Hang.j0 k l0 a1 a2 (!t419) bt413.1 bt413.2.1 bt413.2.2.1 bt413.2.2.2.1)) else (spec_Hang.j0 k l0 a1 a2 true bt413.1 bt413.2.1 bt413.2.2.1 bt413.2.2.2.1))
theorem spec_Hang.mono_l : ∀ k, (∀ y0 y1 y2 y3 y4 y5 y6 y7, LeO (spec_Hang.j0 k y0 y1 y2 y3 y4 y5 y6 y7) (spec_Hang.j0 (k + 1) y0 y1 y2 y3 y4 y5 y6 y7))
 | 0 => fun _ _ _ _ _ _ _ _ r h => by simp [spec_Hang.j0] at h
 | k + 1 => by
  have ih0 := spec_Hang.mono_l k
  ·intro y0 y1 y2 y3 y4 y5 y6 y7
   unfold spec_Hang.j0
   repeat' first
   | (with_reducible exact ih0 _ _ _ _ _ _ _ _)
   | (with_reducible exact spec_GoodScene.mono _ _)
   | (with_reducible exact spec_SpotOf.mono _ _ _)
   | (with_reducible exact spec_l4Back.mono _ _ _ _ _)
   | (with_reducible exact spec_l4Join.mono _ _ _ _ _ _ _ _ _)
   | (with_reducible exact spec_l4Where.mono _ _ _)
   | (with_reducible first | exact LeO.refl _ | exact LeO.none _ | refine LeO.ite ?_ ?_ | refine LeO.bind ?_ (fun _ => ?_))
   | exact ih0 _ _ _ _ _ _ _ _
   | exact spec_GoodScene.mono _ _
   | exact spec_SpotOf.mono _ _ _
   | exact spec_l4Back.mono _ _ _ _ _
   | exact spec_l4Join.mono _ _ _ _ _ _ _ _ _
   | exact spec_l4Where.mono _ _ _ | exact LeO.none _ | refine LeO.ite ?_ ?_ | refine LeO.bind ?_ (fun _ => ?_)
theorem spec_Hang.mono : ∀ a0 a1 a2 k, LeO (spec_Hang.f k a0 a1 a2) (spec_Hang.f (k + 1) a0 a1 a2) := by
 intro a0 a1 a2 k
 have ih0 := spec_Hang.mono_l k
 unfold spec_Hang.f
 repeat' first
   | (with_reducible exact ih0 _ _ _ _ _ _ _ _)
   | (with_reducible exact spec_GoodScene.mono _ _)
   | (with_reducible exact spec_SpotOf.mono _ _ _)
   | (with_reducible exact spec_l4Back.mono _ _ _ _ _)
   | (with_reducible exact spec_l4Join.mono _ _ _ _ _ _ _ _ _)
   | (with_reducible exact spec_l4Where.mono _ _ _)
   | (with_reducible first | exact LeO.refl _ | exact LeO.none _ | refine LeO.ite ?_ ?_ | refine LeO.bind ?_ (fun _ => ?_))
   | exact ih0 _ _ _ _ _ _ _ _
   | exact spec_GoodScene.mono _ _
   | exact spec_SpotOf.mono _ _ _
   | exact spec_l4Back.mono _ _ _ _ _
   | exact spec_l4Join.mono _ _ _ _ _ _ _ _ _
   | exact spec_l4Where.mono _ _ _ | exact LeO.none _ | refine LeO.ite ?_ ?_ | refine LeO.bind ?_ (fun _ => ?_)
def spec_Hang.T9 : Bool × List (List Nat × List Nat) := (true, [([], []), ([], []), ([], []), ([], []), ([2, 3], [2, 3]), ([4], [4]), ([5], [5]), ([], []), ([], []), ([8], [8]), ([], []), ([10], [10]), ([], []), ([12], [12]), ([], []), ([14], [14]), ([6, 7, 9, 11, 13, 15], [6, 7, 9, 11, 13, 15]), ([0, 1, 0, 1, 2, 3, 4, 5, 6, 7, 8, 9, 10, 11, 12, 13, 14, 15, 16], [0, 1]), ([17, 16, 0, 1, 2, 3, 4, 5, 6, 7, 8, 9, 10, 11, 12, 13, 14, 15, 16], [16, 17])])
def spec_Hang.B9 : List Nat := [0, 0, 0, 0, 12, 28, 60, 0, 0, 256, 0, 1024, 0, 4096, 0, 16384, 65532, 131071, 262143]
theorem spec_Hang.tab9 : rtab .any (opsOf Try.f10 9) = spec_Hang.T9 := by kernel_rfl
theorem spec_Hang.bits9 : waitsOk spec_Hang.T9.2 spec_Hang.B9 = true := by kernel_rfl
set_option maxHeartbeats 8000000 in
set_option maxRecDepth 100000 in
theorem spec_Hang.calls (k : Nat) (A0 : Option Addr) (c0 : Nat) (l0 : List (S36)) (a1 : Int) (a2 : Int) (r1 : List (S36)) (r2 : Bool) (w : World) (hr0 : Kd.C k36 w A0 l0.length l0) (hc0 : l0.length ≤ c0) (h : spec_Hang.f k l0 a1 a2 = some (r1, r2)) :
  Calls Try.prog 10 #[.slice A0 l0.length c0, .int .i64 a1, .int .i64 a2] w fun e w' => ∃ v0_ : Value, e = .returned (.tuple #[v0_, .bool r2]) ∧ Kd.R k36 36 w' w.heap.size (fun _ => True) v0_ r1 ∧ Below w.heap.size w w' := by
 have hu24 := Try.underlying24
 have hu36 := Try.underlying36
 have HR0 := Aside0.mk hr0
 have HC0 := Aside0.mk hc0
 clear hr0 hc0
 have HB := Aside0.mk (Below.refl w.heap.size w)
 have H : ((spec_SpotOf.f k l0 a1).bind fun bt413 => (if bt413.2.2.2.2 = true then ((spec_l1In.f a2 (-1) (wrap64 (a1 - 1))).bind fun t419 => (spec_Hang.j0 k l0 a1 a2 (!t419) bt413.1 bt413.2.1 bt413.2.2.1 bt413.2.2.2.1)) else (spec_Hang.j0 k l0 a1 a2 true bt413.1 bt413.2.1 bt413.2.2.1 bt413.2.2.2.1))) = some (r1, r2) := h
 clear h
 replace H := Option.bind_eq_some_iff.mp H
 obtain ⟨⟨t413, t414, t415, t416, t417⟩, A40, H⟩ := H
 replace H : (if t417 = true then ((spec_l1In.f a2 (-1) (wrap64 (a1 - 1))).bind fun t419 => (spec_Hang.j0 k l0 a1 a2 (!t419) t413 t414 t415 t416)) else (spec_Hang.j0 k l0 a1 a2 true t413 t414 t415 t416)) = some (r1, r2) := H
 have A4 := Aside0.mk A40
 clear A40
 have HC5 := Aside0.mk H
 clear H
 go_enter Try.func10, Try.ntmps10
 go_upto_region 2 with (first | ((with_reducible refine gate_callee (f := 25) rfl ?_); refine goesL_ (some 17) rfl rfl Try.func25 (by kernel_rfl) rfl #[.slice A0 l0.length c0, .int .i64 a1] rfl aE ?_; (with_reducible refine (spec_SpotOf.calls k _ _ l0 a1 t413 t414 t415 t416 t417 _ ?side1 ?side2 A4.out).mono ?_); (case side1 => repeat (first | exact HR0.out | (with_reducible refine Kd.C_alloc ?_ _) | (with_reducible refine Kd.C_drewN ?_ _) | (with_reducible refine Kd.C_drew ?_))); (case side2 => exact HC0.out); rintro e w6 ⟨rfl, hb⟩; refine ⟨_, rfl, ?_⟩; replace HB := bH (lU) hb; (try clear hb)) | ((with_reducible refine gate_dst (N := 8) rfl ?_); refine box_event rfl (N := 8) rfl (cs := #[.int .i64 0, .int .i64 0, .int .i64 0, .bool false]) (t := 24) sE ?_; intro gb418 hg w7 hbox hb; have BK418 := Aside0.mk hbox; have GW418 := gS w hg (lU); have GE418 := gS w hg (lU); replace HB := bH (lU) hb; clear hb hbox hg; have hcz8_0 := cz BK418 0 (.int .i64 0); have hcz8_1 := cz BK418 1 (.int .i64 0); have hcz8_2 := cz BK418 2 (.int .i64 0); have hcz8_3 := cz BK418 3 (.bool false); have hfz8_0 := fz BK418 0; have hfz8_1 := fz BK418 1; have hfz8_2 := fz BK418 2; have hfz8_3 := fz BK418 3) | ((with_reducible refine gate_store (t := 24) (p := 8) rfl ?_); refine store_event (t := 24) (p := 8) (v := ?vo_w9) (w1 := ((((w7.setCell ⟨gb418, 0, none⟩ (.int .i64 t413)).setCell ⟨gb418, 1, none⟩ (.int .i64 t414)).setCell ⟨gb418, 2, none⟩ (.int .i64 t415)).setCell ⟨gb418, 3, none⟩ (.bool t416))) ?hg ?ho ?hn ?hr ?_; (case ho => rfl); (case hg => rfl); (case hn => rfl); (case hr => first | (go_simp; done) | (go_simp; rfl) | (have hq0_ := (blk_cell BK418.out 0).trans (show _ = some _ from rfl); have hf0_ := blk_frozen BK418.out 0; have hq1_ := (blk_cell BK418.out 1).trans (show _ = some _ from rfl); have hf1_ := blk_frozen BK418.out 1; have hq2_ := (blk_cell BK418.out 2).trans (show _ = some _ from rfl); have hf2_ := blk_frozen BK418.out 2; have hq3_ := (blk_cell BK418.out 3).trans (show _ = some _ from rfl); have hf3_ := blk_frozen BK418.out 3; first | (go_simp; done) | (go_simp; rfl))); intro w9 hw; replace BK418 : Aside0 (w9.heap[gb418]? = some (.cells #[.int .i64 t413, .int .i64 t414, .int .i64 t415, .bool t416] 24 (0, 0))) := ⟨(by rw [hw]; exact (by refine bU ?_; refine blk_put (cs := #[.int .i64 t413, .int .i64 t414, .int .i64 t415, .bool false]) ?_ 3 _ rfl; refine bU ?_; refine blk_put (cs := #[.int .i64 t413, .int .i64 t414, .int .i64 0, .bool false]) ?_ 2 _ rfl; refine bU ?_; refine blk_put (cs := #[.int .i64 t413, .int .i64 0, .int .i64 0, .bool false]) ?_ 1 _ rfl; refine bU ?_; refine blk_put (cs := #[.int .i64 0, .int .i64 0, .int .i64 0, .bool false]) ?_ 0 _ rfl; refine bU ?_; exact BK418.out))⟩; replace HB : Aside0 (Below w.heap.size w w9) := ⟨(by rw [hw]; exact (lV1 GE418))⟩; clear hw))
 (try simp only [Act.put, List.setIfInBounds_toArray, List.set_cons_zero, List.set_cons_succ])
 go_cut [28] (fun v28 wc => ∃ (kq : Nat) (x28_4 : Bool), v28 = .bool x28_4 ∧ Aside0 (spec_Hang.j0 kq l0 a1 a2 x28_4 t413 t414 t415 t416 = some (r1, r2)) ∧ Aside0 (kq ≤ k) ∧ Aside0 (wc.heap[gb418]? = some (.cells #[.int .i64 t413, .int .i64 t414, .int .i64 t415, .bool t416] 24 (0, 0))) ∧ Aside0 (Below w.heap.size w wc))
 case first =>
  have H := HC5.out
  clear HC5
  by_cases c10 : t417 = true
  ·subst c10
   have H1 : ((spec_l1In.f a2 (-1) (wrap64 (a1 - 1))).bind fun t419 => (spec_Hang.j0 k l0 a1 a2 (!t419) t413 t414 t415 t416)) = some (r1, r2) := by rw [if_pos rfl] at H; exact H
   clear H
   have H := H1
   clear H1
   replace H := Option.bind_eq_some_iff.mp H
   obtain ⟨t419, A110, H⟩ := H
   replace H : (spec_Hang.j0 k l0 a1 a2 (!t419) t413 t414 t415 t416) = some (r1, r2) := H
   have A11 := Aside0.mk A110
   clear A110
   have H' := Aside0.mk H
   clear H
   go_wp2_with (first | (go_at_call 26; (with_reducible refine (spec_l1In.calls a2 (-1) (wrap64 (a1 - 1)) t419 _ A11.out).mono ?_); rintro e w' ⟨rfl, ⟨nd, rfl⟩⟩))
   go_meet
   case rel => exact ⟨_, (!t419), tE, H', ⟨by first | omega | exact Nat.le_refl _⟩, ⟨by refine bU ?_; exact BK418.out⟩, ⟨by repeat (first | (with_reducible first | exact HB.out | apply below_alloc | apply pw_below_drewN | apply below_drew1 | refine below_set ?_ GE418.out) | exact HB.out)⟩⟩
  ·replace c10 := Bool.eq_false_iff.mpr c10
   subst c10
   have H1 : (spec_Hang.j0 k l0 a1 a2 true t413 t414 t415 t416) = some (r1, r2) := by rw [if_neg (show ¬ (false = true) by decide)] at H; exact H
   clear H
   have H := H1
   clear H1
   have H' := Aside0.mk H
   clear H
   go_wp2
   go_meet
   case rel => exact ⟨_, (true), tE, H', ⟨by first | omega | exact Nat.le_refl _⟩, ⟨by refine bU ?_; exact BK418.out⟩, ⟨by repeat (first | (with_reducible first | exact HB.out | apply below_alloc | apply pw_below_drewN | apply below_drew1 | refine below_set ?_ GE418.out) | exact HB.out)⟩⟩
 case rest =>
  clear HC5
  try clear c1
  try clear q1
  try clear c2
  try clear p2
  try clear q2
  try clear q3
  try clear hf3
  try clear p6
  try clear c10
  try clear hcz8_0
  try clear hcz8_1
  try clear hcz8_2
  try clear hcz8_3
  try clear hfz8_0
  try clear hfz8_1
  try clear hfz8_2
  try clear hfz8_3
  obtain ⟨kq, x28_4, rfl, HA, HJ4, BK418, HB⟩ := hcut
  cases kq with
  | zero => exact absurd HA.out (by simp [spec_Hang.j0])
  | succ kj4 =>
   have H := HA.out
   clear HA
   simp only [spec_Hang.j0] at H
   by_cases c12 : x28_4 = true
   ·subst c12
    have H1 : (some (([] : List (S36)), false)) = some (r1, r2) := by rw [if_pos rfl] at H; exact H
    clear H
    have H := H1
    clear H1
    simp only [Option.some.injEq, Prod.mk.injEq] at H
    obtain ⟨rfl, rfl⟩ := H
    go_wp2
    go_ret2
    exact ⟨_, eE, by first | exact Kd.R_nil _ _ _ _ _ | exact Kd.N_nil _ _ _ _ _ | exact Kd.V_nil _ _ _ _ _ | exact Kd.Q_nil _ _ _ _ _ | exact Kd.S_nil _ _ _ _ _, lV1 GE418⟩
   ·replace c12 := Bool.eq_false_iff.mpr c12
    subst c12
    have H1 : ((spec_l4Where.f kj4 l0 a2).bind fun bt420 => (if bt420.2.2.2.2 = true then ((spec_l4Back.f kj4 bt420.1 bt420.2.1 bt420.2.2.1 bt420.2.2.2.1).bind fun bt426 => ((spec_l4Join.f kj4 bt426.1 bt426.2.1 bt426.2.2.1 bt426.2.2.2 t413 t414 t415 t416).bind fun bt430 => ((some (([] : List (S36)) : List (S36))).bind fun y435 => (if y435.length + l0.length < 2513169434916 then ((some (y435 ++ l0 : List (S36))).bind fun y438 => (if 0 ≤ a1 then (if a1 < (l0.length : Int) then (if a1 < (y438.length : Int) then ((some (y438.set (a1 : Int).toNat (⟨(rd_T36 l0 a1).f0, a2, bt430.1, bt430.2.1, bt430.2.2.1, bt430.2.2.2⟩ : S36) : List (S36))).bind fun y442 => ((spec_GoodScene.f kj4 y442).bind fun t443 => (if t443 = true then (some (y442, true)) else (some (([] : List (S36)), false))))) else (none)) else (none)) else (none))) else (none))))) else (some (([] : List (S36)), false)))) = some (r1, r2) := by rw [if_neg (show ¬ (false = true) by decide)] at H; exact H
    clear H
    have H := H1
    clear H1
    replace H := Option.bind_eq_some_iff.mp H
    obtain ⟨⟨t420, t421, t422, t423, t424⟩, A130, H⟩ := H
    replace H : (if t424 = true then ((spec_l4Back.f kj4 t420 t421 t422 t423).bind fun bt426 => ((spec_l4Join.f kj4 bt426.1 bt426.2.1 bt426.2.2.1 bt426.2.2.2 t413 t414 t415 t416).bind fun bt430 => ((some (([] : List (S36)) : List (S36))).bind fun y435 => (if y435.length + l0.length < 2513169434916 then ((some (y435 ++ l0 : List (S36))).bind fun y438 => (if 0 ≤ a1 then (if a1 < (l0.length : Int) then (if a1 < (y438.length : Int) then ((some (y438.set (a1 : Int).toNat (⟨(rd_T36 l0 a1).f0, a2, bt430.1, bt430.2.1, bt430.2.2.1, bt430.2.2.2⟩ : S36) : List (S36))).bind fun y442 => ((spec_GoodScene.f kj4 y442).bind fun t443 => (if t443 = true then (some (y442, true)) else (some (([] : List (S36)), false))))) else (none)) else (none)) else (none))) else (none))))) else (some (([] : List (S36)), false))) = some (r1, r2) := H
    have A13 := Aside0.mk A130
    clear A130
    by_cases c14 : t424 = true
    ·subst c14
     have H1 : ((spec_l4Back.f kj4 t420 t421 t422 t423).bind fun bt426 => ((spec_l4Join.f kj4 bt426.1 bt426.2.1 bt426.2.2.1 bt426.2.2.2 t413 t414 t415 t416).bind fun bt430 => ((some (([] : List (S36)) : List (S36))).bind fun y435 => (if y435.length + l0.length < 2513169434916 then ((some (y435 ++ l0 : List (S36))).bind fun y438 => (if 0 ≤ a1 then (if a1 < (l0.length : Int) then (if a1 < (y438.length : Int) then ((some (y438.set (a1 : Int).toNat (⟨(rd_T36 l0 a1).f0, a2, bt430.1, bt430.2.1, bt430.2.2.1, bt430.2.2.2⟩ : S36) : List (S36))).bind fun y442 => ((spec_GoodScene.f kj4 y442).bind fun t443 => (if t443 = true then (some (y442, true)) else (some (([] : List (S36)), false))))) else (none)) else (none)) else (none))) else (none))))) = some (r1, r2) := by rw [if_pos rfl] at H; exact H
     clear H
     have H := H1
     clear H1
     replace H := Option.bind_eq_some_iff.mp H
     obtain ⟨⟨t426, t427, t428, t429⟩, A150, H⟩ := H
     replace H : ((spec_l4Join.f kj4 t426 t427 t428 t429 t413 t414 t415 t416).bind fun bt430 => ((some (([] : List (S36)) : List (S36))).bind fun y435 => (if y435.length + l0.length < 2513169434916 then ((some (y435 ++ l0 : List (S36))).bind fun y438 => (if 0 ≤ a1 then (if a1 < (l0.length : Int) then (if a1 < (y438.length : Int) then ((some (y438.set (a1 : Int).toNat (⟨(rd_T36 l0 a1).f0, a2, bt430.1, bt430.2.1, bt430.2.2.1, bt430.2.2.2⟩ : S36) : List (S36))).bind fun y442 => ((spec_GoodScene.f kj4 y442).bind fun t443 => (if t443 = true then (some (y442, true)) else (some (([] : List (S36)), false))))) else (none)) else (none)) else (none))) else (none)))) = some (r1, r2) := H
     have A15 := Aside0.mk A150
     clear A150
     replace H := Option.bind_eq_some_iff.mp H
     obtain ⟨⟨t430, t431, t432, t433⟩, A160, H⟩ := H
     replace H : ((some (([] : List (S36)) : List (S36))).bind fun y435 => (if y435.length + l0.length < 2513169434916 then ((some (y435 ++ l0 : List (S36))).bind fun y438 => (if 0 ≤ a1 then (if a1 < (l0.length : Int) then (if a1 < (y438.length : Int) then ((some (y438.set (a1 : Int).toNat (⟨(rd_T36 l0 a1).f0, a2, t430, t431, t432, t433⟩ : S36) : List (S36))).bind fun y442 => ((spec_GoodScene.f kj4 y442).bind fun t443 => (if t443 = true then (some (y442, true)) else (some (([] : List (S36)), false))))) else (none)) else (none)) else (none))) else (none))) = some (r1, r2) := H
     have A16 := Aside0.mk A160
     clear A160
     obtain ⟨y435, hy435⟩ : ∃ y_ : List (S36), y_ = (([] : List (S36))) := ⟨_, rfl⟩
     replace H : (if y435.length + l0.length < 2513169434916 then ((some (y435 ++ l0 : List (S36))).bind fun y438 => (if 0 ≤ a1 then (if a1 < (l0.length : Int) then (if a1 < (y438.length : Int) then ((some (y438.set (a1 : Int).toNat (⟨(rd_T36 l0 a1).f0, a2, t430, t431, t432, t433⟩ : S36) : List (S36))).bind fun y442 => ((spec_GoodScene.f kj4 y442).bind fun t443 => (if t443 = true then (some (y442, true)) else (some (([] : List (S36)), false))))) else (none)) else (none)) else (none))) else (none)) = some (r1, r2) := by first | (rw [hy435]; with_reducible exact H) | (have H2_ := (Option.bind_some _ _).symm.trans H; rw [hy435]; with_reducible exact H2_) | (have H2_ := (Option.bind_some _ _).symm.trans H; with_reducible exact H2_) | with_reducible exact H | (rw [hy435]; exact H) | exact H
     have Ny435 := Aside0.mk hy435
     clear hy435
     by_cases c17 : y435.length + l0.length < 2513169434916
     ·rw [if_pos c17] at H
      have LMc17 := Aside0.mk c17
      clear c17
      obtain ⟨y438, hy438⟩ : ∃ y_ : List (S36), y_ = (y435 ++ l0) := ⟨_, rfl⟩
      replace H : (if 0 ≤ a1 then (if a1 < (l0.length : Int) then (if a1 < (y438.length : Int) then ((some (y438.set (a1 : Int).toNat (⟨(rd_T36 l0 a1).f0, a2, t430, t431, t432, t433⟩ : S36) : List (S36))).bind fun y442 => ((spec_GoodScene.f kj4 y442).bind fun t443 => (if t443 = true then (some (y442, true)) else (some (([] : List (S36)), false))))) else (none)) else (none)) else (none)) = some (r1, r2) := by first | (rw [hy438]; with_reducible exact H) | (have H2_ := (Option.bind_some _ _).symm.trans H; rw [hy438]; with_reducible exact H2_) | (have H2_ := (Option.bind_some _ _).symm.trans H; with_reducible exact H2_) | with_reducible exact H | (rw [hy438]; exact H) | exact H
      have Ny438 := Aside0.mk hy438
      clear hy438
      by_cases c18 : 0 ≤ a1
      ·rw [if_pos c18] at H
       have c18b0 : decide (0 ≤ a1) = true := decide_eq_true c18
       clear c18
       by_cases c19 : a1 < (l0.length : Int)
       ·rw [if_pos c19] at H
        have c19b0 : decide (a1 < (l0.length : Int)) = true := decide_eq_true c19
        clear c19
        by_cases c20 : a1 < (y438.length : Int)
        ·rw [if_pos c20] at H
         have c20b0 : decide (a1 < (y438.length : Int)) = true := decide_eq_true c20
         clear c20
         obtain ⟨y442, hy442⟩ : ∃ y_ : List (S36), y_ = (y438.set (a1 : Int).toNat (⟨(rd_T36 l0 a1).f0, a2, t430, t431, t432, t433⟩ : S36)) := ⟨_, rfl⟩
         replace H : ((spec_GoodScene.f kj4 y442).bind fun t443 => (if t443 = true then (some (y442, true)) else (some (([] : List (S36)), false)))) = some (r1, r2) := by first | (rw [hy442]; with_reducible exact H) | (have H2_ := (Option.bind_some _ _).symm.trans H; rw [hy442]; with_reducible exact H2_) | (have H2_ := (Option.bind_some _ _).symm.trans H; with_reducible exact H2_) | with_reducible exact H | (rw [hy442]; exact H) | exact H
         have Ny442 := Aside0.mk hy442
         clear hy442
         replace H := Option.bind_eq_some_iff.mp H
         obtain ⟨t443, A220, H⟩ := H
         replace H : (if t443 = true then (some (y442, true)) else (some (([] : List (S36)), false))) = some (r1, r2) := H
         have A22 := Aside0.mk A220
         clear A220
         by_cases c23 : t443 = true
         ·subst c23
          have H1 : (some (y442, true)) = some (r1, r2) := by rw [if_pos rfl] at H; exact H
          clear H
          have H := H1
          clear H1
          simp only [Option.some.injEq, Prod.mk.injEq] at H
          obtain ⟨rfl, rfl⟩ := H
          try go_wp2_with (first | ((with_reducible refine gate_callee (f := 27) rfl ?_); refine goesL_ (some 32) rfl rfl Try.func27 (by kernel_rfl) rfl #[.slice A0 l0.length c0, .int .i64 a2] rfl aE ?_; (with_reducible refine (spec_l4Where.calls kj4 _ _ l0 a2 t420 t421 t422 t423 true _ ?side1 ?side2 A13.out).mono ?_); (case side1 => exact cU (Kd.C_below HR0.out HB.out)); (case side2 => exact HC0.out); rintro e w24 ⟨rfl, hb⟩; refine ⟨_, rfl, ?_⟩; replace BK418 := bB (bV BK418) hb; replace HB := bH (lV1 GE418) hb; (try clear hb)) | ((with_reducible refine gate_dst (N := 10) rfl ?_); refine box_event rfl (N := 10) rfl (cs := #[.int .i64 0, .int .i64 0, .int .i64 0, .bool false]) (t := 24) sE ?_; intro gb425 hg w25 hbox hb; have BK425 := Aside0.mk hbox; have GW425 := gS w hg (lV1 GE418); have GE425 := gS w hg (lV1 GE418); replace HB := bH (lV1 GE418) hb; have NB418_425 := nL hg (bV BK418); have NB425_418 := nG hg (bV BK418); replace BK418 := bB (bV BK418) hb; clear hb hbox hg; have hnb26 := NB425_418.out; have hnc26 := NB418_425.out; have hcz27_0 := cz BK425 0 (.int .i64 0); have hcz27_1 := cz BK425 1 (.int .i64 0); have hcz27_2 := cz BK425 2 (.int .i64 0); have hcz27_3 := cz BK425 3 (.bool false); have hfz27_0 := fz BK425 0; have hfz27_1 := fz BK425 1; have hfz27_2 := fz BK425 2; have hfz27_3 := fz BK425 3) | ((with_reducible refine gate_store (t := 24) (p := 10) rfl ?_); refine store_event (t := 24) (p := 10) (v := ?vo_w28) (w1 := ((((w25.setCell ⟨gb425, 0, none⟩ (.int .i64 t420)).setCell ⟨gb425, 1, none⟩ (.int .i64 t421)).setCell ⟨gb425, 2, none⟩ (.int .i64 t422)).setCell ⟨gb425, 3, none⟩ (.bool t423))) ?hg ?ho ?hn ?hr ?_; (case ho => rfl); (case hg => rfl); (case hn => rfl); (case hr => first | (go_simp; done) | (go_simp; rfl) | (have hq0_ := (blk_cell BK425.out 0).trans (show _ = some _ from rfl); have hf0_ := blk_frozen BK425.out 0; have hq1_ := (blk_cell BK425.out 1).trans (show _ = some _ from rfl); have hf1_ := blk_frozen BK425.out 1; have hq2_ := (blk_cell BK425.out 2).trans (show _ = some _ from rfl); have hf2_ := blk_frozen BK425.out 2; have hq3_ := (blk_cell BK425.out 3).trans (show _ = some _ from rfl); have hf3_ := blk_frozen BK425.out 3; first | (go_simp; done) | (go_simp; rfl))); intro w28 hw; replace BK418 : Aside0 (w28.heap[gb418]? = some (.cells #[.int .i64 t413, .int .i64 t414, .int .i64 t415, .bool t416] 24 (0, 0))) := ⟨(by rw [hw]; exact (bG NB418_425 BK418))⟩; replace BK425 : Aside0 (w28.heap[gb425]? = some (.cells #[.int .i64 t420, .int .i64 t421, .int .i64 t422, .bool t423] 24 (0, 0))) := ⟨(by rw [hw]; exact (by refine bU ?_; refine blk_put (cs := #[.int .i64 t420, .int .i64 t421, .int .i64 t422, .bool false]) ?_ 3 _ rfl; refine bU ?_; refine blk_put (cs := #[.int .i64 t420, .int .i64 t421, .int .i64 0, .bool false]) ?_ 2 _ rfl; refine bU ?_; refine blk_put (cs := #[.int .i64 t420, .int .i64 0, .int .i64 0, .bool false]) ?_ 1 _ rfl; refine bU ?_; refine blk_put (cs := #[.int .i64 0, .int .i64 0, .int .i64 0, .bool false]) ?_ 0 _ rfl; refine bU ?_; exact BK425.out))⟩; replace HB : Aside0 (Below w.heap.size w w28) := ⟨(by rw [hw]; exact (lV2 GE418 GE425))⟩; clear hw))
          replace BK418 := Aside0.mk (blk_drew BK418.out)
          replace BK425 := Aside0.mk (blk_drew BK425.out)
          replace HB := Aside0.mk (below_drew1 HB.out)
          refine start_ (n := 6) (S := fun w' => w'.cell? ⟨gb425, 0, none⟩ = some (.int .i64 t420) ∧ w'.cell? ⟨gb425, 1, none⟩ = some (.int .i64 t421) ∧ w'.cell? ⟨gb425, 2, none⟩ = some (.int .i64 t422) ∧ w'.cell? ⟨gb425, 3, none⟩ = some (.bool t423) ∧ w'.cell? ⟨gb418, 0, none⟩ = some (.int .i64 t413) ∧ w'.cell? ⟨gb418, 1, none⟩ = some (.int .i64 t414) ∧ w'.cell? ⟨gb418, 2, none⟩ = some (.int .i64 t415) ∧ w'.cell? ⟨gb418, 3, none⟩ = some (.bool t416)) (ds := []) #[false, false, false, false, false, false] (by kernel_rfl) rfl rfl ⟨cz BK425 0 _, cz BK425 1 _, cz BK425 2 _, cz BK425 3 _, cz BK418 0 _, cz BK418 1 _, cz BK418 2 _, cz BK418 3 _⟩ (fun hHeld => ?_)
          generalize w28.drew = w29 at BK418 BK425 HB hHeld ⊢
          refine take_ (i := 0) (N := some 37) (v := ?_) (a' := ?_) (bz 6 1) rfl rfl (by kernel_rfl) (fun _ _ _ h => h) (Or.inl ⟨by rfl, ?_⟩) hHeld ?_ ?_
          rotate_left
          ·rintro w' ⟨s0, s1, s2, s3, s4, s5, s6, s7⟩
           go_simp
           with_reducible rfl
          rotate_left
          ·simp only [Act.put, List.setIfInBounds_toArray, List.set_cons_zero, List.set_cons_succ, i64_w, i32_w]
           rfl
          refine take_ (i := 2) (N := some 39) (v := ?_) (a' := ?_) (bz 6 5) rfl rfl (by kernel_rfl) (fun _ _ _ h => h) (Or.inl ⟨by rfl, ?_⟩) hHeld ?_ ?_
          rotate_left
          ·rintro w' ⟨s0, s1, s2, s3, s4, s5, s6, s7⟩
           go_simp
           with_reducible rfl
          rotate_left
          ·simp only [Act.put, List.setIfInBounds_toArray, List.set_cons_zero, List.set_cons_succ, i64_w, i32_w]
           rfl
          refine join_ (σ := Nat) 1 #[true, true, true, true, true, false] (fun s_ => [(38, .agg #[.int .i64 t426, .int .i64 t427, .int .i64 t428, .bool t429]), (40, .agg #[.int .i64 t430, .int .i64 t431, .int .i64 t432, .bool t433]), (12, .pointer (some ⟨s_, 0, none⟩))]) (fun s_ w' => (w'.cell? ⟨gb425, 0, none⟩ = some (.int .i64 t420) ∧ w'.cell? ⟨gb425, 1, none⟩ = some (.int .i64 t421) ∧ w'.cell? ⟨gb425, 2, none⟩ = some (.int .i64 t422) ∧ w'.cell? ⟨gb425, 3, none⟩ = some (.bool t423) ∧ w'.cell? ⟨gb418, 0, none⟩ = some (.int .i64 t413) ∧ w'.cell? ⟨gb418, 1, none⟩ = some (.int .i64 t414) ∧ w'.cell? ⟨gb418, 2, none⟩ = some (.int .i64 t415) ∧ w'.cell? ⟨gb418, 3, none⟩ = some (.bool t416)) ∧ (w'.heap[gb418]? = some (.cells #[.int .i64 t413, .int .i64 t414, .int .i64 t415, .bool t416] 24 (0, 0))) ∧ (w'.heap[gb425]? = some (.cells #[.int .i64 t420, .int .i64 t421, .int .i64 t422, .bool t423] 24 (0, 0))) ∧ (w'.heap[s_]? = some (.cells #[.int .i64 0, .int .i64 0, .int .i64 0, .bool false] 24 (0, 0))) ∧ (w.heap.size ≤ s_) ∧ (w.heap.size ≤ s_) ∧ (gb418 ≠ s_) ∧ (s_ ≠ gb418) ∧ (gb425 ≠ s_) ∧ (s_ ≠ gb425) ∧ (Below w.heap.size w w')) ?_ ?_
          rotate_left
          ·intro hCont
           refine two_ (i := 1) (j := 4) (Ni := some 38) (Nj := some 12) #[true, true, true, false, false, false] #[true, false, true, false, true, false] rfl rfl rfl rfl (by kernel_rfl) (by decide) (by decide) (fun K hK => ?_) (fun K hK => ?_)
           ·skip
            refine goes_ Try.func16 (by kernel_rfl) rfl #[.agg #[.int .i64 t420, .int .i64 t421, .int .i64 t422, .bool t423]] (by rfl) rfl rfl aE ?_
            with_reducible refine (spec_l4Back.calls kj4 t420 t421 t422 t423 t426 t427 t428 t429 _ A15.out).mono ?_
            rintro e w30 ⟨rfl, hb⟩
            refine ⟨_, rfl, ?_⟩
            replace BK418 := bB (bV BK418) hb
            replace BK425 := bB (bV BK425) hb
            replace HB := bH (lV2 GE418 GE425) hb
            (try clear hb)
            (try clear hb2)
            (try clear hk)
            (try clear hi)
            refine hK.out _ _ ⟨cz BK425 0 _, cz BK425 1 _, cz BK425 2 _, cz BK425 3 _, cz BK418 0 _, cz BK418 1 _, cz BK418 2 _, cz BK418 3 _⟩ (fun hHeld => ?_)
            clear hK K
            refine norm_ (a' := ?_) ?_ ?_
            rotate_left
            ·show Act.put _ (some 38) _ = _
             simp only [Act.put, List.setIfInBounds_toArray, List.set_cons_zero, List.set_cons_succ, i64_w, i32_w]
             rfl
            refine two_ (i := 3) (j := 4) (Ni := some 40) (Nj := some 12) #[true, true, true, true, false, false] #[true, true, true, false, true, false] rfl rfl rfl rfl (by kernel_rfl) (by decide) (by decide) (fun K hK => ?_) (fun K hK => ?_)
            ·skip
             refine goes_ Try.func28 (by kernel_rfl) rfl #[.agg #[.int .i64 t426, .int .i64 t427, .int .i64 t428, .bool t429], .agg #[.int .i64 t413, .int .i64 t414, .int .i64 t415, .bool t416]] (by rfl) rfl rfl aE ?_
             with_reducible refine (spec_l4Join.calls kj4 t426 t427 t428 t429 t413 t414 t415 t416 t430 t431 t432 t433 _ A16.out).mono ?_
             rintro e w31 ⟨rfl, hb⟩
             refine ⟨_, rfl, ?_⟩
             replace BK418 := bB (bV BK418) hb
             replace BK425 := bB (bV BK425) hb
             replace HB := bH (lV2 GE418 GE425) hb
             (try clear hb)
             (try clear hb2)
             (try clear hk)
             (try clear hi)
             refine hK.out _ _ ⟨cz BK425 0 _, cz BK425 1 _, cz BK425 2 _, cz BK425 3 _, cz BK418 0 _, cz BK418 1 _, cz BK418 2 _, cz BK418 3 _⟩ (fun hHeld => ?_)
             clear hK K
             refine norm_ (a' := ?_) ?_ ?_
             rotate_left
             ·show Act.put _ (some 40) _ = _
              simp only [Act.put, List.setIfInBounds_toArray, List.set_cons_zero, List.set_cons_succ, i64_w, i32_w]
              rfl
             refine one_ (i := 4) (N := some 12) (bz 6 31) rfl rfl (by kernel_rfl) (by decide) (fun K hK => ?_)
             refine box_step ?hg (N := 12) ?hd (cs := #[.int .i64 0, .int .i64 0, .int .i64 0, .bool false]) (t := 24) ?hr ?_; (case hd => rfl); (case hg => rfl); (case hr => exact sE)
             intro gb434 hg w32 hbox hb
             have BK434 := Aside0.mk hbox
             have GW434 := gS w hg (lV2 GE418 GE425)
             have GE434 := gS w hg (lV2 GE418 GE425)
             replace HB := bH (lV2 GE418 GE425) hb
             have NB418_434 := nL hg (bV BK418)
             have NB434_418 := nG hg (bV BK418)
             replace BK418 := bB (bV BK418) hb
             have NB425_434 := nL hg (bV BK425)
             have NB434_425 := nG hg (bV BK425)
             replace BK425 := bB (bV BK425) hb
             clear hb hbox hg
             refine hK.out _ _ ⟨cz BK425 0 _, cz BK425 1 _, cz BK425 2 _, cz BK425 3 _, cz BK418 0 _, cz BK418 1 _, cz BK418 2 _, cz BK418 3 _⟩ (fun hHeld => ?_)
             clear hK K
             refine norm_ (a' := ?_) ?_ ?_
             rotate_left
             ·show Act.put _ (some 12) _ = _
              simp only [Act.put, List.setIfInBounds_toArray, List.set_cons_zero, List.set_cons_succ, i64_w, i32_w]
              rfl
             exact norm_ (by simp only [putAll, Act.put, List.setIfInBounds_toArray, List.set_cons_zero, List.set_cons_succ]) (hCont (gb434) _ ⟨hHeld, (bV BK418), (bV BK425), (bV BK434), GW434.out, GE434.out, NB418_434.out, NB434_418.out, NB425_434.out, NB434_425.out, (lV3 GE418 GE425 GE434)⟩)
            ·skip
             refine box_step ?hg (N := 12) ?hd (cs := #[.int .i64 0, .int .i64 0, .int .i64 0, .bool false]) (t := 24) ?hr ?_; (case hd => rfl); (case hg => rfl); (case hr => exact sE)
             intro gb434 hg w31 hbox hb
             have BK434 := Aside0.mk hbox
             have GW434 := gS w hg (lV2 GE418 GE425)
             have GE434 := gS w hg (lV2 GE418 GE425)
             replace HB := bH (lV2 GE418 GE425) hb
             have NB418_434 := nL hg (bV BK418)
             have NB434_418 := nG hg (bV BK418)
             replace BK418 := bB (bV BK418) hb
             have NB425_434 := nL hg (bV BK425)
             have NB434_425 := nG hg (bV BK425)
             replace BK425 := bB (bV BK425) hb
             clear hb hbox hg
             refine hK.out _ _ ⟨cz BK425 0 _, cz BK425 1 _, cz BK425 2 _, cz BK425 3 _, cz BK418 0 _, cz BK418 1 _, cz BK418 2 _, cz BK418 3 _⟩ (fun hHeld => ?_)
             clear hK K
             refine norm_ (a' := ?_) ?_ ?_
             rotate_left
             ·show Act.put _ (some 12) _ = _
              simp only [Act.put, List.setIfInBounds_toArray, List.set_cons_zero, List.set_cons_succ, i64_w, i32_w]
              rfl
             refine one_ (i := 3) (N := some 40) (bz 6 31) rfl rfl (by kernel_rfl) (by decide) (fun K hK => ?_)
             refine goes_ Try.func28 (by kernel_rfl) rfl #[.agg #[.int .i64 t426, .int .i64 t427, .int .i64 t428, .bool t429], .agg #[.int .i64 t413, .int .i64 t414, .int .i64 t415, .bool t416]] (by rfl) rfl rfl aE ?_
             with_reducible refine (spec_l4Join.calls kj4 t426 t427 t428 t429 t413 t414 t415 t416 t430 t431 t432 t433 _ A16.out).mono ?_
             rintro e w32 ⟨rfl, hb⟩
             refine ⟨_, rfl, ?_⟩
             replace BK418 := bB (bV BK418) hb
             replace BK425 := bB (bV BK425) hb
             replace BK434 := bB (bV BK434) hb
             replace HB := bH (lV3 GE418 GE425 GE434) hb
             (try clear hb)
             (try clear hb2)
             (try clear hk)
             (try clear hi)
             refine hK.out _ _ ⟨cz BK425 0 _, cz BK425 1 _, cz BK425 2 _, cz BK425 3 _, cz BK418 0 _, cz BK418 1 _, cz BK418 2 _, cz BK418 3 _⟩ (fun hHeld => ?_)
             clear hK K
             refine norm_ (a' := ?_) ?_ ?_
             rotate_left
             ·show Act.put _ (some 40) _ = _
              simp only [Act.put, List.setIfInBounds_toArray, List.set_cons_zero, List.set_cons_succ, i64_w, i32_w]
              rfl
             exact norm_ (by simp only [putAll, Act.put, List.setIfInBounds_toArray, List.set_cons_zero, List.set_cons_succ]) (hCont (gb434) _ ⟨hHeld, (bV BK418), (bV BK425), (bV BK434), GW434.out, GE434.out, NB418_434.out, NB434_418.out, NB425_434.out, NB434_425.out, (lV3 GE418 GE425 GE434)⟩)
           ·skip
            refine box_step ?hg (N := 12) ?hd (cs := #[.int .i64 0, .int .i64 0, .int .i64 0, .bool false]) (t := 24) ?hr ?_; (case hd => rfl); (case hg => rfl); (case hr => exact sE)
            intro gb434 hg w30 hbox hb
            have BK434 := Aside0.mk hbox
            have GW434 := gS w hg (lV2 GE418 GE425)
            have GE434 := gS w hg (lV2 GE418 GE425)
            replace HB := bH (lV2 GE418 GE425) hb
            have NB418_434 := nL hg (bV BK418)
            have NB434_418 := nG hg (bV BK418)
            replace BK418 := bB (bV BK418) hb
            have NB425_434 := nL hg (bV BK425)
            have NB434_425 := nG hg (bV BK425)
            replace BK425 := bB (bV BK425) hb
            clear hb hbox hg
            refine hK.out _ _ ⟨cz BK425 0 _, cz BK425 1 _, cz BK425 2 _, cz BK425 3 _, cz BK418 0 _, cz BK418 1 _, cz BK418 2 _, cz BK418 3 _⟩ (fun hHeld => ?_)
            clear hK K
            refine norm_ (a' := ?_) ?_ ?_
            rotate_left
            ·show Act.put _ (some 12) _ = _
             simp only [Act.put, List.setIfInBounds_toArray, List.set_cons_zero, List.set_cons_succ, i64_w, i32_w]
             rfl
            refine one_ (i := 1) (N := some 38) (bz 6 23) rfl rfl (by kernel_rfl) (by decide) (fun K hK => ?_)
            refine goes_ Try.func16 (by kernel_rfl) rfl #[.agg #[.int .i64 t420, .int .i64 t421, .int .i64 t422, .bool t423]] (by rfl) rfl rfl aE ?_
            with_reducible refine (spec_l4Back.calls kj4 t420 t421 t422 t423 t426 t427 t428 t429 _ A15.out).mono ?_
            rintro e w31 ⟨rfl, hb⟩
            refine ⟨_, rfl, ?_⟩
            replace BK418 := bB (bV BK418) hb
            replace BK425 := bB (bV BK425) hb
            replace BK434 := bB (bV BK434) hb
            replace HB := bH (lV3 GE418 GE425 GE434) hb
            (try clear hb)
            (try clear hb2)
            (try clear hk)
            (try clear hi)
            refine hK.out _ _ ⟨cz BK425 0 _, cz BK425 1 _, cz BK425 2 _, cz BK425 3 _, cz BK418 0 _, cz BK418 1 _, cz BK418 2 _, cz BK418 3 _⟩ (fun hHeld => ?_)
            clear hK K
            refine norm_ (a' := ?_) ?_ ?_
            rotate_left
            ·show Act.put _ (some 38) _ = _
             simp only [Act.put, List.setIfInBounds_toArray, List.set_cons_zero, List.set_cons_succ, i64_w, i32_w]
             rfl
            refine one_ (i := 3) (N := some 40) (bz 6 31) rfl rfl (by kernel_rfl) (by decide) (fun K hK => ?_)
            refine goes_ Try.func28 (by kernel_rfl) rfl #[.agg #[.int .i64 t426, .int .i64 t427, .int .i64 t428, .bool t429], .agg #[.int .i64 t413, .int .i64 t414, .int .i64 t415, .bool t416]] (by rfl) rfl rfl aE ?_
            with_reducible refine (spec_l4Join.calls kj4 t426 t427 t428 t429 t413 t414 t415 t416 t430 t431 t432 t433 _ A16.out).mono ?_
            rintro e w32 ⟨rfl, hb⟩
            refine ⟨_, rfl, ?_⟩
            replace BK418 := bB (bV BK418) hb
            replace BK425 := bB (bV BK425) hb
            replace BK434 := bB (bV BK434) hb
            replace HB := bH (lV3 GE418 GE425 GE434) hb
            (try clear hb)
            (try clear hb2)
            (try clear hk)
            (try clear hi)
            refine hK.out _ _ ⟨cz BK425 0 _, cz BK425 1 _, cz BK425 2 _, cz BK425 3 _, cz BK418 0 _, cz BK418 1 _, cz BK418 2 _, cz BK418 3 _⟩ (fun hHeld => ?_)
            clear hK K
            refine norm_ (a' := ?_) ?_ ?_
            rotate_left
            ·show Act.put _ (some 40) _ = _
             simp only [Act.put, List.setIfInBounds_toArray, List.set_cons_zero, List.set_cons_succ, i64_w, i32_w]
             rfl
            exact norm_ (by simp only [putAll, Act.put, List.setIfInBounds_toArray, List.set_cons_zero, List.set_cons_succ]) (hCont (gb434) _ ⟨hHeld, (bV BK418), (bV BK425), (bV BK434), GW434.out, GE434.out, NB418_434.out, NB434_418.out, NB425_434.out, NB434_425.out, (lV3 GE418 GE425 GE434)⟩)
          rintro gb434 w33 ⟨hS_, h0_, h1_, h2_, h3_, h4_, h5_, h6_, h7_, h8_, h9_⟩
          replace BK418 : Aside0 (w33.heap[gb418]? = some (.cells #[.int .i64 t413, .int .i64 t414, .int .i64 t415, .bool t416] 24 (0, 0))) := ⟨h0_⟩
          replace BK425 : Aside0 (w33.heap[gb425]? = some (.cells #[.int .i64 t420, .int .i64 t421, .int .i64 t422, .bool t423] 24 (0, 0))) := ⟨h1_⟩
          have BK434 : Aside0 (w33.heap[gb434]? = some (.cells #[.int .i64 0, .int .i64 0, .int .i64 0, .bool false] 24 (0, 0))) := ⟨h2_⟩
          have GW434 : Aside0 (w.heap.size ≤ gb434) := ⟨h3_⟩
          have GE434 : Aside0 (w.heap.size ≤ gb434) := ⟨h4_⟩
          have NB418_434 : Aside0 (gb418 ≠ gb434) := ⟨h5_⟩
          have NB434_418 : Aside0 (gb434 ≠ gb418) := ⟨h6_⟩
          have NB425_434 : Aside0 (gb425 ≠ gb434) := ⟨h7_⟩
          have NB434_425 : Aside0 (gb434 ≠ gb425) := ⟨h8_⟩
          replace HB : Aside0 (Below w.heap.size w w33) := ⟨h9_⟩
          clear h0_ h1_ h2_ h3_ h4_ h5_ h6_ h7_ h8_ h9_
          have hHeld : w33.cell? ⟨gb425, 0, none⟩ = some (.int .i64 t420) ∧ w33.cell? ⟨gb425, 1, none⟩ = some (.int .i64 t421) ∧ w33.cell? ⟨gb425, 2, none⟩ = some (.int .i64 t422) ∧ w33.cell? ⟨gb425, 3, none⟩ = some (.bool t423) ∧ w33.cell? ⟨gb418, 0, none⟩ = some (.int .i64 t413) ∧ w33.cell? ⟨gb418, 1, none⟩ = some (.int .i64 t414) ∧ w33.cell? ⟨gb418, 2, none⟩ = some (.int .i64 t415) ∧ w33.cell? ⟨gb418, 3, none⟩ = some (.bool t416) := hS_
          refine norm_ (a' := ?_) ?_ ?_
          rotate_left
          ·simp only [putAll, Act.put, List.setIfInBounds_toArray, List.set_cons_zero, List.set_cons_succ]
           rfl
          refine one_ (i := 5) (N := none) (bz 6 63) rfl rfl (by kernel_rfl) (by decide) (fun K hK => ?_)
          have hs34 : w33.cell? ⟨gb434, 0, none⟩ = some (.int .i64 0) := (blk_cell BK434.out 0).trans rfl
          have hfs34 := blk_frozen BK434.out 0
          have hns34_0 := NB418_434.out
          have hns34_1 := NB425_434.out
          have hms34_0 := NB434_418.out
          have hms34_1 := NB434_425.out
          have hs35 : w33.cell? ⟨gb434, 1, none⟩ = some (.int .i64 0) := (blk_cell BK434.out 1).trans rfl
          have hfs35 := blk_frozen BK434.out 1
          have hns35_0 := NB418_434.out
          have hns35_1 := NB425_434.out
          have hms35_0 := NB434_418.out
          have hms35_1 := NB434_425.out
          have hs36 : w33.cell? ⟨gb434, 2, none⟩ = some (.int .i64 0) := (blk_cell BK434.out 2).trans rfl
          have hfs36 := blk_frozen BK434.out 2
          have hns36_0 := NB418_434.out
          have hns36_1 := NB425_434.out
          have hms36_0 := NB434_418.out
          have hms36_1 := NB434_425.out
          have hs37 : w33.cell? ⟨gb434, 3, none⟩ = some (.bool false) := (blk_cell BK434.out 3).trans rfl
          have hfs37 := blk_frozen BK434.out 3
          have hns37_0 := NB418_434.out
          have hns37_1 := NB425_434.out
          have hms37_0 := NB434_418.out
          have hms37_1 := NB434_425.out
          refine skip_ (w1 := ?_) (by rfl) rfl ?_ ?_
          rotate_left
          ·go_simp
           rfl
          refine hK.out _ _ ⟨((cell_far (p := ⟨gb434, _, none⟩) NB425_434.out _).trans (((cell_far (p := ⟨gb434, _, none⟩) NB425_434.out _).trans (((cell_far (p := ⟨gb434, _, none⟩) NB425_434.out _).trans (((cell_far (p := ⟨gb434, _, none⟩) NB425_434.out _).trans (hHeld.1)))))))), ((cell_far (p := ⟨gb434, _, none⟩) NB425_434.out _).trans (((cell_far (p := ⟨gb434, _, none⟩) NB425_434.out _).trans (((cell_far (p := ⟨gb434, _, none⟩) NB425_434.out _).trans (((cell_far (p := ⟨gb434, _, none⟩) NB425_434.out _).trans (hHeld.2.1)))))))), ((cell_far (p := ⟨gb434, _, none⟩) NB425_434.out _).trans (((cell_far (p := ⟨gb434, _, none⟩) NB425_434.out _).trans (((cell_far (p := ⟨gb434, _, none⟩) NB425_434.out _).trans (((cell_far (p := ⟨gb434, _, none⟩) NB425_434.out _).trans (hHeld.2.2.1)))))))), ((cell_far (p := ⟨gb434, _, none⟩) NB425_434.out _).trans (((cell_far (p := ⟨gb434, _, none⟩) NB425_434.out _).trans (((cell_far (p := ⟨gb434, _, none⟩) NB425_434.out _).trans (((cell_far (p := ⟨gb434, _, none⟩) NB425_434.out _).trans (hHeld.2.2.2.1)))))))), ((cell_far (p := ⟨gb434, _, none⟩) NB418_434.out _).trans (((cell_far (p := ⟨gb434, _, none⟩) NB418_434.out _).trans (((cell_far (p := ⟨gb434, _, none⟩) NB418_434.out _).trans (((cell_far (p := ⟨gb434, _, none⟩) NB418_434.out _).trans (hHeld.2.2.2.2.1)))))))), ((cell_far (p := ⟨gb434, _, none⟩) NB418_434.out _).trans (((cell_far (p := ⟨gb434, _, none⟩) NB418_434.out _).trans (((cell_far (p := ⟨gb434, _, none⟩) NB418_434.out _).trans (((cell_far (p := ⟨gb434, _, none⟩) NB418_434.out _).trans (hHeld.2.2.2.2.2.1)))))))), ((cell_far (p := ⟨gb434, _, none⟩) NB418_434.out _).trans (((cell_far (p := ⟨gb434, _, none⟩) NB418_434.out _).trans (((cell_far (p := ⟨gb434, _, none⟩) NB418_434.out _).trans (((cell_far (p := ⟨gb434, _, none⟩) NB418_434.out _).trans (hHeld.2.2.2.2.2.2.1)))))))), ((cell_far (p := ⟨gb434, _, none⟩) NB418_434.out _).trans (((cell_far (p := ⟨gb434, _, none⟩) NB418_434.out _).trans (((cell_far (p := ⟨gb434, _, none⟩) NB418_434.out _).trans (((cell_far (p := ⟨gb434, _, none⟩) NB418_434.out _).trans (hHeld.2.2.2.2.2.2.2))))))))⟩ (fun hHeld => ?_)
          clear hK K
          refine done_ (by kernel_rfl) ?_
          try go_wp2_with (first | ((with_reducible refine gate_dst (N := 41) rfl ?_); refine Kd.R_lit k36 _ 36 ?hg (N := 41) ?hd (xs := ([] : List (S36))) (inner := []) (ok := fun _ => True) (okp := fun _ => True) ?hr ?hp (fun _ hk => hk) trivial (Below.refl _ _) (Nat.le_refl _) (by simp) ?_; (case hd => rfl); (case hg => rfl); (case hr => exact sE); (case hp => exact (Reps.none _ _)); intro v436 w38 ho39 hb hg_ hnew_; clear hg_ hnew_; (first | rw [← Ny435.out] at ho39 | (simp only [Int.reduceToNat] at ho39; rw [← Ny435.out] at ho39)); have HO437 := Aside0.mk (Kd.R_lower ho39 (below_size (lV3 GE418 GE425 GE434))); replace BK418 := bB (bG NB418_434 BK418) hb; replace BK425 := bB (bG NB425_434 BK425) hb; replace BK434 := Aside0.mk (blk_below (g := gb434) (o := .cells #[.int .i64 t430, .int .i64 t431, .int .i64 t432, .bool t433] 24 (0, 0)) (by refine bU ?_; refine blk_put (cs := #[.int .i64 t430, .int .i64 t431, .int .i64 t432, .bool false]) ?_ 3 _ rfl; refine bU ?_; refine blk_put (cs := #[.int .i64 t430, .int .i64 t431, .int .i64 0, .bool false]) ?_ 2 _ rfl; refine bU ?_; refine blk_put (cs := #[.int .i64 t430, .int .i64 0, .int .i64 0, .bool false]) ?_ 1 _ rfl; refine bU ?_; refine blk_put (cs := #[.int .i64 0, .int .i64 0, .int .i64 0, .bool false]) ?_ 0 _ rfl; refine bU ?_; exact BK434.out) hb); replace HB := bH (lV3 GE418 GE425 GE434) hb; clear hb ho39) | ((with_reducible refine gate_builtin (b := .append) (xs := #[.tmp 41, .tmp 42]) rfl ?_); at_builtin; refine Kd.R_append_rows k36 (w0 := w) w.heap.size rfl (.tmp 41) (.tmp 42) 29 36 (.agg #[(.string ⟨#[]⟩), (.int .i64 0), (.int .i64 0), (.int .i64 0), (.int .i64 0), (.bool false)]) 56 rfl Try.underlying29 info36 rfl (by decide) (by omega) v436 y435 l0 _ _ _ (fun _ => True) (fun _ => False) rfl rfl ?aO ?aR (fun _ _ h => h) (fun _ h => h.elim) ?aF ?aB ?aS ?aL ?_; (case aR => repeat (first | exact (Kd.C_below HR0.out HB.out) | exact (Kd.C_drewN (Kd.C_below HR0.out HB.out) _) | exact (Kd.C_drew (Kd.C_below HR0.out HB.out)) | exact (Kd.C_alloc (Kd.C_below HR0.out HB.out) _) | (with_reducible refine Kd.C_alloc ?_ _) | (with_reducible refine Kd.C_drewN ?_ _) | (with_reducible refine Kd.C_drew ?_))); (case aB => exact (lV3 GE418 GE425 GE434)); (case aF => exact (fun _ _ => trivial)); (case aO => exact (rU HO437.out)); (case aS => exact (below_size (lV3 GE418 GE425 GE434))); (case aL => have := LMc17.out; omega); intro v439 w40 ho hb hg hat; rw [← Ny438.out] at ho; replace BK418 := Aside0.mk (blk_grown (g := gb418) (o := .cells #[.int .i64 t413, .int .i64 t414, .int .i64 t415, .bool t416] 24 (0, 0)) (bV BK418) hg (Kd.R_ne HO437.out BK418.out (by decide))); replace BK425 := Aside0.mk (blk_grown (g := gb425) (o := .cells #[.int .i64 t420, .int .i64 t421, .int .i64 t422, .bool t423] 24 (0, 0)) (bV BK425) hg (Kd.R_ne HO437.out BK425.out (by decide))); replace BK434 := Aside0.mk (blk_grown (g := gb434) (o := .cells #[.int .i64 t430, .int .i64 t431, .int .i64 t432, .bool t433] 24 (0, 0)) (bV BK434) hg (Kd.R_ne HO437.out BK434.out (by decide))); replace HB := Aside0.mk hb; have HO440 := Aside0.mk ho; clear HO437; clear ho hb hg hat))
          replace HO440 := Aside0.mk (Kd.R_drew HO440.out)
          replace BK418 := Aside0.mk (blk_drew BK418.out)
          replace BK425 := Aside0.mk (blk_drew BK425.out)
          replace BK434 := Aside0.mk (blk_drew BK434.out)
          replace HB := Aside0.mk (below_drew1 HB.out)
          have p441 : 0 ≤ (a1 : Int) := of_decide_eq_true hE
          have q441 : a1 < (l0.length : Int) := of_decide_eq_true hE
          obtain ⟨ad441, e441, hx441_0, hx441_1, hx441_2, hx441_3, hx441_4, hx441_5⟩ := at_T36 HR0.out a1 p441 q441
          have hw441_5 := hx441_5
          have hw441_4 := hx441_4
          have hw441_3 := hx441_3
          have hw441_2 := hx441_2
          have hw441_1 := hx441_1
          have hw441_0 := hx441_0
          cases e441
          replace hx441_0 := (HB.out.cell (World.block_lt_of_cell? w _ hx441_0)).trans hx441_0
          replace hx441_1 := (HB.out.cell (World.block_lt_of_cell? w _ hx441_1)).trans hx441_1
          replace hx441_2 := (HB.out.cell (World.block_lt_of_cell? w _ hx441_2)).trans hx441_2
          replace hx441_3 := (HB.out.cell (World.block_lt_of_cell? w _ hx441_3)).trans hx441_3
          replace hx441_4 := (HB.out.cell (World.block_lt_of_cell? w _ hx441_4)).trans hx441_4
          replace hx441_5 := (HB.out.cell (World.block_lt_of_cell? w _ hx441_5)).trans hx441_5
          replace p441 := eq_true p441
          replace q441 := eq_true q441
          have p21 : 0 ≤ (a1 : Int) := of_decide_eq_true hE
          have q21 : (a1 : Int) < ((y438.length : Int) : Int) := of_decide_eq_true hE
          obtain ⟨go21, co21, eo21, gb21, gl21, cl21, HG21⟩ := Kd.R_form HO440.out (by omega)
          (first | cases eo21 | (injection eo21 with ea_ en_ ec_; (first | subst ea_ | (injection ea_ with ea_; subst ea_)); subst ec_; clear en_))
          have GB21 := Aside0.mk gb21
          have GG21 := Aside0.mk HG21
          clear gb21 gl21 HG21
          obtain ⟨ce21, hcl21, hM21, hcc21, hfr21⟩ := Kd.R_elem HO440.out z36 (a1 : Int) p21 q21
          obtain rfl := k36_openM hM21
          have hx21_0 : World.cell? _ ⟨go21, (a1 : Int).toNat * 6, none⟩ = some (.string ((rd_T36 y438 a1).f0)) := hcc21 0 _ rfl
          have hx21_1 : World.cell? _ ⟨go21, (a1 : Int).toNat * 6 + 1, none⟩ = some (.int .i64 ((rd_T36 y438 a1).f1)) := hcc21 1 _ rfl
          have hx21_2 : World.cell? _ ⟨go21, (a1 : Int).toNat * 6 + 2, none⟩ = some (.int .i64 ((rd_T36 y438 a1).f2)) := hcc21 2 _ rfl
          have hx21_3 : World.cell? _ ⟨go21, (a1 : Int).toNat * 6 + 3, none⟩ = some (.int .i64 ((rd_T36 y438 a1).f3)) := hcc21 3 _ rfl
          have hx21_4 : World.cell? _ ⟨go21, (a1 : Int).toNat * 6 + 4, none⟩ = some (.int .i64 ((rd_T36 y438 a1).f4)) := hcc21 4 _ rfl
          have hx21_5 : World.cell? _ ⟨go21, (a1 : Int).toNat * 6 + 5, none⟩ = some (.bool ((rd_T36 y438 a1).f5)) := hcc21 5 _ rfl
          have hf21_0 : World.frozen? _ ⟨go21, (a1 : Int).toNat * 6, none⟩ = false := hfr21 0
          have hf21_1 : World.frozen? _ ⟨go21, (a1 : Int).toNat * 6 + 1, none⟩ = false := hfr21 1
          have hf21_2 : World.frozen? _ ⟨go21, (a1 : Int).toNat * 6 + 2, none⟩ = false := hfr21 2
          have hf21_3 : World.frozen? _ ⟨go21, (a1 : Int).toNat * 6 + 3, none⟩ = false := hfr21 3
          have hf21_4 : World.frozen? _ ⟨go21, (a1 : Int).toNat * 6 + 4, none⟩ = false := hfr21 4
          have hf21_5 : World.frozen? _ ⟨go21, (a1 : Int).toNat * 6 + 5, none⟩ = false := hfr21 5
          (try clear hcl21)
          (try clear hcc21)
          (try clear hfr21)
          (try clear hM21)
          replace p21 := eq_true p21
          replace q21 := eq_true q21
          obtain ⟨ce42, hcl42, hM42, hcc42, hfr42⟩ := Kd.R_elem HO440.out z36 (a1 : Int) (of_decide_eq_true hE) (by have h_ : (a1 : Int) < ((y438.length : Int) : Int) := of_decide_eq_true hE; first | exact h_ | (have e_ := (Kd.R_reads' HO440.out).1; omega) | simpa using h_)
          obtain rfl := k36_openM hM42
          have HP42 := (Kd.R_seg HO440.out (a1 : Int) (of_decide_eq_true hE) (by have h_ : (a1 : Int) < ((y438.length : Int) : Int) := of_decide_eq_true hE; first | exact h_ | (have e_ := (Kd.R_reads' HO440.out).1; omega) | simpa using h_) (seg := [.string ((rd_T36 l0 a1).f0), .int .i64 a2, .int .i64 t430, .int .i64 t431, .int .i64 t432, .bool t433]) (j := 0) hcl42 hcc42 (show 6 ≤ 6 from by decide) (x' := (⟨(rd_T36 l0 a1).f0, a2, t430, t431, t432, t433⟩ : S36)) (k36_mkM _ _ _ (⟨(rd_T36 l0 a1).f0, a2, t430, t431, t432, t433⟩ : S36) ) (fun _ hk => hk)).1
          rw [← Ny442.out] at HP42
          have HQ42 := Aside0.mk HP42
          clear hcl42 hcc42 hfr42 hM42 HP42
          refine start_ (n := 19) (S := fun w' => w'.cell? ⟨gb434, 0, none⟩ = some (.int .i64 t430) ∧ w'.cell? ⟨gb434, 1, none⟩ = some (.int .i64 t431) ∧ w'.cell? ⟨gb434, 2, none⟩ = some (.int .i64 t432) ∧ w'.cell? ⟨gb434, 3, none⟩ = some (.bool t433) ∧ w'.cell? (ad441.add ((a1).toNat * 6)) = some (.string ((rd_T36 l0 a1).f0)) ∧ w'.cell? ⟨(ad441.add ((a1).toNat * 6)).block, (ad441.add ((a1).toNat * 6)).off + 1, none⟩ = some (.int .i64 ((rd_T36 l0 a1).f1)) ∧ w'.cell? ⟨(ad441.add ((a1).toNat * 6)).block, (ad441.add ((a1).toNat * 6)).off + 2, none⟩ = some (.int .i64 ((rd_T36 l0 a1).f2)) ∧ w'.cell? ⟨(ad441.add ((a1).toNat * 6)).block, (ad441.add ((a1).toNat * 6)).off + 3, none⟩ = some (.int .i64 ((rd_T36 l0 a1).f3)) ∧ w'.cell? ⟨(ad441.add ((a1).toNat * 6)).block, (ad441.add ((a1).toNat * 6)).off + 4, none⟩ = some (.int .i64 ((rd_T36 l0 a1).f4)) ∧ w'.cell? ⟨(ad441.add ((a1).toNat * 6)).block, (ad441.add ((a1).toNat * 6)).off + 5, none⟩ = some (.bool ((rd_T36 l0 a1).f5))) (ds := [18]) #[false, false, false, false, false, false, false, false, false, false, false, false, false, false, false, false, false, false, false] (by kernel_rfl) rfl rfl ⟨cz BK434 0 _, cz BK434 1 _, cz BK434 2 _, cz BK434 3 _, ((HB.out.cell (World.block_lt_of_cell? w _ hw441_0)).trans hw441_0), ((HB.out.cell (World.block_lt_of_cell? w _ hw441_1)).trans hw441_1), ((HB.out.cell (World.block_lt_of_cell? w _ hw441_2)).trans hw441_2), ((HB.out.cell (World.block_lt_of_cell? w _ hw441_3)).trans hw441_3), ((HB.out.cell (World.block_lt_of_cell? w _ hw441_4)).trans hw441_4), ((HB.out.cell (World.block_lt_of_cell? w _ hw441_5)).trans hw441_5)⟩ (fun hHeld => ?_); refine with_tabW spec_Hang.tab9 spec_Hang.bits9 (fun HT_ HW_ => ?_)
          generalize w40.drew = w41 at HO440 BK418 BK425 BK434 HB GG21 HQ42 hf21_0 hf21_1 hf21_2 hf21_3 hf21_4 hf21_5 hx21_0 hx21_1 hx21_2 hx21_3 hx21_4 hx21_5 hx441_0 hx441_1 hx441_2 hx441_3 hx441_4 hx441_5 hHeld ⊢
          refine pureA 0 44 (bz 19 1) rfl rfl (any_of HT_.out (by kernel_rfl)) ?_
          refine pureA 1 45 (bz 19 3) rfl rfl (any_of HT_.out (by kernel_rfl)) ?_
          refine pureA 2 46 (bz 19 7) rfl rfl (any_of HT_.out (by kernel_rfl)) ?_
          refine pureA 3 47 (bz 19 15) rfl rfl (any_of HT_.out (by kernel_rfl)) ?_
          refine pureA 4 48 (bz 19 31) rfl rfl (any_of HT_.out (by kernel_rfl)) ?_
          refine pureA 5 49 (bz 19 63) rfl rfl (any_of HT_.out (by kernel_rfl)) ?_
          refine pureA 7 51 (bz 19 191) rfl rfl (any_of HT_.out (by kernel_rfl)) ?_
          refine pureA 8 52 (bz 19 447) rfl rfl (any_of HT_.out (by kernel_rfl)) ?_
          refine pureA 10 54 (bz 19 1471) rfl rfl (any_of HT_.out (by kernel_rfl)) ?_
          refine pureA 12 56 (bz 19 5567) rfl rfl (any_of HT_.out (by kernel_rfl)) ?_
          refine pureA 14 58 (bz 19 21951) rfl rfl (any_of HT_.out (by kernel_rfl)) ?_
          refine takeA 6 50 (bz 19 22015) rfl rfl (take_ofW HT_.out HW_.out (by kernel_rfl)) hHeld (by rintro w' ⟨s0, s1, s2, s3, s4, s5, s6, s7, s8, s9⟩; go_simp; with_reducible rfl) ?_
          refine takeA 9 53 (bz 19 22527) rfl rfl (take_ofW HT_.out HW_.out (by kernel_rfl)) hHeld (by rintro w' ⟨s0, s1, s2, s3, s4, s5, s6, s7, s8, s9⟩; go_simp; with_reducible rfl) ?_
          refine takeA 11 55 (bz 19 24575) rfl rfl (take_ofW HT_.out HW_.out (by kernel_rfl)) hHeld (by rintro w' ⟨s0, s1, s2, s3, s4, s5, s6, s7, s8, s9⟩; go_simp; with_reducible rfl) ?_
          refine takeA 13 57 (bz 19 32767) rfl rfl (take_ofW HT_.out HW_.out (by kernel_rfl)) hHeld (by rintro w' ⟨s0, s1, s2, s3, s4, s5, s6, s7, s8, s9⟩; go_simp; with_reducible rfl) ?_
          refine takeA 15 59 (bz 19 65535) rfl rfl (take_ofW HT_.out HW_.out (by kernel_rfl)) hHeld (by rintro w' ⟨s0, s1, s2, s3, s4, s5, s6, s7, s8, s9⟩; go_simp; with_reducible rfl) ?_
          refine pureA 16 60 (bz 19 131071) rfl rfl (any_of HT_.out (by kernel_rfl)) ?_
          refine pureA 17 61 (bz 19 262143) rfl rfl (any_of HT_.out (by kernel_rfl)) ?_
          refine last_ (i := 18) (N := none) (bz 19 524287) rfl rfl (one_of HT_.out (by kernel_rfl)) (by decide) (fun K hK => ?_)
          refine skip_ (w1 := ?_) (by rfl) rfl ?_ ?_
          rotate_left
          ·go_simp
           rfl
          refine hK.out _ _ ?_
          clear hK K
          refine done_ (done_of HT_.out (by kernel_rfl)) ?_
          try go_wp2_with (first | ((with_reducible refine gate_callee (f := 29) rfl ?_); refine goesL_ (some 63) rfl rfl Try.func29 (by kernel_rfl) rfl #[.slice (some ⟨go21, 0, none⟩) y442.length co21] rfl (by (try simp only [List.map_toArray, List.map_cons, List.map_nil]); first | done | (rw [show y442.length = y438.length from (Kd.R_reads' HQ42.out).1.symm] <;> rfl) | rfl | (simp only [List.length_drop, List.length_take]; rfl)) ?_; (with_reducible refine (spec_GoodScene.calls kj4 _ _ y442 true _ ?side1 ?side2 A22.out).mono ?_); (case side1 => refine (Kd.R_reads' (e := 36) (base := w.heap.size) (ok := fun k_ => True) (n := y438.length) (c := co21) ?_).2.2; exact (rU HQ42.out)); (case side2 => rw [show y442.length = y438.length from (Kd.R_reads' HQ42.out).1.symm]; exact (Kd.R_reads' HO440.out).2.1); rintro e w43 ⟨rfl, hb⟩; refine ⟨_, rfl, ?_⟩; replace BK418 := Aside0.mk (blk_below (g := gb418) (o := .cells #[.int .i64 t413, .int .i64 t414, .int .i64 t415, .bool t416] 24 (0, 0)) (by refine bU ?_; refine blk_far ?_ (by have h_ := Kd.R_ne HO440.out BK418.out (by decide); intro e_; exact h_ (by rw [e_]; rfl)) _; refine bU ?_; refine blk_far ?_ (by have h_ := Kd.R_ne HO440.out BK418.out (by decide); intro e_; exact h_ (by rw [e_]; rfl)) _; refine bU ?_; refine blk_far ?_ (by have h_ := Kd.R_ne HO440.out BK418.out (by decide); intro e_; exact h_ (by rw [e_]; rfl)) _; refine bU ?_; refine blk_far ?_ (by have h_ := Kd.R_ne HO440.out BK418.out (by decide); intro e_; exact h_ (by rw [e_]; rfl)) _; refine bU ?_; refine blk_far ?_ (by have h_ := Kd.R_ne HO440.out BK418.out (by decide); intro e_; exact h_ (by rw [e_]; rfl)) _; refine bU ?_; refine blk_far ?_ (by have h_ := Kd.R_ne HO440.out BK418.out (by decide); intro e_; exact h_ (by rw [e_]; rfl)) _; refine bU ?_; exact BK418.out) hb); replace BK425 := Aside0.mk (blk_below (g := gb425) (o := .cells #[.int .i64 t420, .int .i64 t421, .int .i64 t422, .bool t423] 24 (0, 0)) (by refine bU ?_; refine blk_far ?_ (by have h_ := Kd.R_ne HO440.out BK425.out (by decide); intro e_; exact h_ (by rw [e_]; rfl)) _; refine bU ?_; refine blk_far ?_ (by have h_ := Kd.R_ne HO440.out BK425.out (by decide); intro e_; exact h_ (by rw [e_]; rfl)) _; refine bU ?_; refine blk_far ?_ (by have h_ := Kd.R_ne HO440.out BK425.out (by decide); intro e_; exact h_ (by rw [e_]; rfl)) _; refine bU ?_; refine blk_far ?_ (by have h_ := Kd.R_ne HO440.out BK425.out (by decide); intro e_; exact h_ (by rw [e_]; rfl)) _; refine bU ?_; refine blk_far ?_ (by have h_ := Kd.R_ne HO440.out BK425.out (by decide); intro e_; exact h_ (by rw [e_]; rfl)) _; refine bU ?_; refine blk_far ?_ (by have h_ := Kd.R_ne HO440.out BK425.out (by decide); intro e_; exact h_ (by rw [e_]; rfl)) _; refine bU ?_; exact BK425.out) hb); replace BK434 := Aside0.mk (blk_below (g := gb434) (o := .cells #[.int .i64 t430, .int .i64 t431, .int .i64 t432, .bool t433] 24 (0, 0)) (by refine bU ?_; refine blk_far ?_ (by have h_ := Kd.R_ne HO440.out BK434.out (by decide); intro e_; exact h_ (by rw [e_]; rfl)) _; refine bU ?_; refine blk_far ?_ (by have h_ := Kd.R_ne HO440.out BK434.out (by decide); intro e_; exact h_ (by rw [e_]; rfl)) _; refine bU ?_; refine blk_far ?_ (by have h_ := Kd.R_ne HO440.out BK434.out (by decide); intro e_; exact h_ (by rw [e_]; rfl)) _; refine bU ?_; refine blk_far ?_ (by have h_ := Kd.R_ne HO440.out BK434.out (by decide); intro e_; exact h_ (by rw [e_]; rfl)) _; refine bU ?_; refine blk_far ?_ (by have h_ := Kd.R_ne HO440.out BK434.out (by decide); intro e_; exact h_ (by rw [e_]; rfl)) _; refine bU ?_; refine blk_far ?_ (by have h_ := Kd.R_ne HO440.out BK434.out (by decide); intro e_; exact h_ (by rw [e_]; rfl)) _; refine bU ?_; exact BK434.out) hb); replace HO440 := Aside0.mk (Kd.R_below (rU HQ42.out) hb); replace HB := bH (lV9 GB21 GB21 GB21 GB21 GB21 GB21 GE418 GE425 GE434) hb; (try clear hb)))
          go_ret2
          exact ⟨_, eE, by (with_reducible repeat (first | apply Kd.R_alloc | apply Kd.R_drewN | apply Kd.R_drew)); exact HO440.out, lV3 GE418 GE425 GE434⟩
         ·replace c23 := Bool.eq_false_iff.mpr c23
          subst c23
          have H1 : (some (([] : List (S36)), false)) = some (r1, r2) := by rw [if_neg (show ¬ (false = true) by decide)] at H; exact H
          clear H
          have H := H1
          clear H1
          simp only [Option.some.injEq, Prod.mk.injEq] at H
          obtain ⟨rfl, rfl⟩ := H
          try go_wp2_with (first | ((with_reducible refine gate_callee (f := 27) rfl ?_); refine goesL_ (some 32) rfl rfl Try.func27 (by kernel_rfl) rfl #[.slice A0 l0.length c0, .int .i64 a2] rfl aE ?_; (with_reducible refine (spec_l4Where.calls kj4 _ _ l0 a2 t420 t421 t422 t423 true _ ?side1 ?side2 A13.out).mono ?_); (case side1 => exact cU (Kd.C_below HR0.out HB.out)); (case side2 => exact HC0.out); rintro e w44 ⟨rfl, hb⟩; refine ⟨_, rfl, ?_⟩; replace BK418 := bB (bV BK418) hb; replace HB := bH (lV1 GE418) hb; (try clear hb)) | ((with_reducible refine gate_dst (N := 10) rfl ?_); refine box_event rfl (N := 10) rfl (cs := #[.int .i64 0, .int .i64 0, .int .i64 0, .bool false]) (t := 24) sE ?_; intro gb425 hg w45 hbox hb; have BK425 := Aside0.mk hbox; have GW425 := gS w hg (lV1 GE418); have GE425 := gS w hg (lV1 GE418); replace HB := bH (lV1 GE418) hb; have NB418_425 := nL hg (bV BK418); have NB425_418 := nG hg (bV BK418); replace BK418 := bB (bV BK418) hb; clear hb hbox hg; have hnb46 := NB425_418.out; have hnc46 := NB418_425.out; have hcz47_0 := cz BK425 0 (.int .i64 0); have hcz47_1 := cz BK425 1 (.int .i64 0); have hcz47_2 := cz BK425 2 (.int .i64 0); have hcz47_3 := cz BK425 3 (.bool false); have hfz47_0 := fz BK425 0; have hfz47_1 := fz BK425 1; have hfz47_2 := fz BK425 2; have hfz47_3 := fz BK425 3) | ((with_reducible refine gate_store (t := 24) (p := 10) rfl ?_); refine store_event (t := 24) (p := 10) (v := ?vo_w48) (w1 := ((((w45.setCell ⟨gb425, 0, none⟩ (.int .i64 t420)).setCell ⟨gb425, 1, none⟩ (.int .i64 t421)).setCell ⟨gb425, 2, none⟩ (.int .i64 t422)).setCell ⟨gb425, 3, none⟩ (.bool t423))) ?hg ?ho ?hn ?hr ?_; (case ho => rfl); (case hg => rfl); (case hn => rfl); (case hr => first | (go_simp; done) | (go_simp; rfl) | (have hq0_ := (blk_cell BK425.out 0).trans (show _ = some _ from rfl); have hf0_ := blk_frozen BK425.out 0; have hq1_ := (blk_cell BK425.out 1).trans (show _ = some _ from rfl); have hf1_ := blk_frozen BK425.out 1; have hq2_ := (blk_cell BK425.out 2).trans (show _ = some _ from rfl); have hf2_ := blk_frozen BK425.out 2; have hq3_ := (blk_cell BK425.out 3).trans (show _ = some _ from rfl); have hf3_ := blk_frozen BK425.out 3; first | (go_simp; done) | (go_simp; rfl))); intro w48 hw; replace BK418 : Aside0 (w48.heap[gb418]? = some (.cells #[.int .i64 t413, .int .i64 t414, .int .i64 t415, .bool t416] 24 (0, 0))) := ⟨(by rw [hw]; exact (bG NB418_425 BK418))⟩; replace BK425 : Aside0 (w48.heap[gb425]? = some (.cells #[.int .i64 t420, .int .i64 t421, .int .i64 t422, .bool t423] 24 (0, 0))) := ⟨(by rw [hw]; exact (by refine bU ?_; refine blk_put (cs := #[.int .i64 t420, .int .i64 t421, .int .i64 t422, .bool false]) ?_ 3 _ rfl; refine bU ?_; refine blk_put (cs := #[.int .i64 t420, .int .i64 t421, .int .i64 0, .bool false]) ?_ 2 _ rfl; refine bU ?_; refine blk_put (cs := #[.int .i64 t420, .int .i64 0, .int .i64 0, .bool false]) ?_ 1 _ rfl; refine bU ?_; refine blk_put (cs := #[.int .i64 0, .int .i64 0, .int .i64 0, .bool false]) ?_ 0 _ rfl; refine bU ?_; exact BK425.out))⟩; replace HB : Aside0 (Below w.heap.size w w48) := ⟨(by rw [hw]; exact (lV2 GE418 GE425))⟩; clear hw))
          replace BK418 := Aside0.mk (blk_drew BK418.out)
          replace BK425 := Aside0.mk (blk_drew BK425.out)
          replace HB := Aside0.mk (below_drew1 HB.out)
          refine start_ (n := 6) (S := fun w' => w'.cell? ⟨gb425, 0, none⟩ = some (.int .i64 t420) ∧ w'.cell? ⟨gb425, 1, none⟩ = some (.int .i64 t421) ∧ w'.cell? ⟨gb425, 2, none⟩ = some (.int .i64 t422) ∧ w'.cell? ⟨gb425, 3, none⟩ = some (.bool t423) ∧ w'.cell? ⟨gb418, 0, none⟩ = some (.int .i64 t413) ∧ w'.cell? ⟨gb418, 1, none⟩ = some (.int .i64 t414) ∧ w'.cell? ⟨gb418, 2, none⟩ = some (.int .i64 t415) ∧ w'.cell? ⟨gb418, 3, none⟩ = some (.bool t416)) (ds := []) #[false, false, false, false, false, false] (by kernel_rfl) rfl rfl ⟨cz BK425 0 _, cz BK425 1 _, cz BK425 2 _, cz BK425 3 _, cz BK418 0 _, cz BK418 1 _, cz BK418 2 _, cz BK418 3 _⟩ (fun hHeld => ?_)
          generalize w48.drew = w49 at BK418 BK425 HB hHeld ⊢
          refine take_ (i := 0) (N := some 37) (v := ?_) (a' := ?_) (bz 6 1) rfl rfl (by kernel_rfl) (fun _ _ _ h => h) (Or.inl ⟨by rfl, ?_⟩) hHeld ?_ ?_
          rotate_left
          ·rintro w' ⟨s0, s1, s2, s3, s4, s5, s6, s7⟩
           go_simp
           with_reducible rfl
          rotate_left
          ·simp only [Act.put, List.setIfInBounds_toArray, List.set_cons_zero, List.set_cons_succ, i64_w, i32_w]
           rfl
          refine take_ (i := 2) (N := some 39) (v := ?_) (a' := ?_) (bz 6 5) rfl rfl (by kernel_rfl) (fun _ _ _ h => h) (Or.inl ⟨by rfl, ?_⟩) hHeld ?_ ?_
          rotate_left
          ·rintro w' ⟨s0, s1, s2, s3, s4, s5, s6, s7⟩
           go_simp
           with_reducible rfl
          rotate_left
          ·simp only [Act.put, List.setIfInBounds_toArray, List.set_cons_zero, List.set_cons_succ, i64_w, i32_w]
           rfl
          refine join_ (σ := Nat) 1 #[true, true, true, true, true, false] (fun s_ => [(38, .agg #[.int .i64 t426, .int .i64 t427, .int .i64 t428, .bool t429]), (40, .agg #[.int .i64 t430, .int .i64 t431, .int .i64 t432, .bool t433]), (12, .pointer (some ⟨s_, 0, none⟩))]) (fun s_ w' => (w'.cell? ⟨gb425, 0, none⟩ = some (.int .i64 t420) ∧ w'.cell? ⟨gb425, 1, none⟩ = some (.int .i64 t421) ∧ w'.cell? ⟨gb425, 2, none⟩ = some (.int .i64 t422) ∧ w'.cell? ⟨gb425, 3, none⟩ = some (.bool t423) ∧ w'.cell? ⟨gb418, 0, none⟩ = some (.int .i64 t413) ∧ w'.cell? ⟨gb418, 1, none⟩ = some (.int .i64 t414) ∧ w'.cell? ⟨gb418, 2, none⟩ = some (.int .i64 t415) ∧ w'.cell? ⟨gb418, 3, none⟩ = some (.bool t416)) ∧ (w'.heap[gb418]? = some (.cells #[.int .i64 t413, .int .i64 t414, .int .i64 t415, .bool t416] 24 (0, 0))) ∧ (w'.heap[gb425]? = some (.cells #[.int .i64 t420, .int .i64 t421, .int .i64 t422, .bool t423] 24 (0, 0))) ∧ (w'.heap[s_]? = some (.cells #[.int .i64 0, .int .i64 0, .int .i64 0, .bool false] 24 (0, 0))) ∧ (w.heap.size ≤ s_) ∧ (w.heap.size ≤ s_) ∧ (gb418 ≠ s_) ∧ (s_ ≠ gb418) ∧ (gb425 ≠ s_) ∧ (s_ ≠ gb425) ∧ (Below w.heap.size w w')) ?_ ?_
          rotate_left
          ·intro hCont
           refine two_ (i := 1) (j := 4) (Ni := some 38) (Nj := some 12) #[true, true, true, false, false, false] #[true, false, true, false, true, false] rfl rfl rfl rfl (by kernel_rfl) (by decide) (by decide) (fun K hK => ?_) (fun K hK => ?_)
           ·skip
            refine goes_ Try.func16 (by kernel_rfl) rfl #[.agg #[.int .i64 t420, .int .i64 t421, .int .i64 t422, .bool t423]] (by rfl) rfl rfl aE ?_
            with_reducible refine (spec_l4Back.calls kj4 t420 t421 t422 t423 t426 t427 t428 t429 _ A15.out).mono ?_
            rintro e w50 ⟨rfl, hb⟩
            refine ⟨_, rfl, ?_⟩
            replace BK418 := bB (bV BK418) hb
            replace BK425 := bB (bV BK425) hb
            replace HB := bH (lV2 GE418 GE425) hb
            (try clear hb)
            (try clear hb2)
            (try clear hk)
            (try clear hi)
            refine hK.out _ _ ⟨cz BK425 0 _, cz BK425 1 _, cz BK425 2 _, cz BK425 3 _, cz BK418 0 _, cz BK418 1 _, cz BK418 2 _, cz BK418 3 _⟩ (fun hHeld => ?_)
            clear hK K
            refine norm_ (a' := ?_) ?_ ?_
            rotate_left
            ·show Act.put _ (some 38) _ = _
             simp only [Act.put, List.setIfInBounds_toArray, List.set_cons_zero, List.set_cons_succ, i64_w, i32_w]
             rfl
            refine two_ (i := 3) (j := 4) (Ni := some 40) (Nj := some 12) #[true, true, true, true, false, false] #[true, true, true, false, true, false] rfl rfl rfl rfl (by kernel_rfl) (by decide) (by decide) (fun K hK => ?_) (fun K hK => ?_)
            ·skip
             refine goes_ Try.func28 (by kernel_rfl) rfl #[.agg #[.int .i64 t426, .int .i64 t427, .int .i64 t428, .bool t429], .agg #[.int .i64 t413, .int .i64 t414, .int .i64 t415, .bool t416]] (by rfl) rfl rfl aE ?_
             with_reducible refine (spec_l4Join.calls kj4 t426 t427 t428 t429 t413 t414 t415 t416 t430 t431 t432 t433 _ A16.out).mono ?_
             rintro e w51 ⟨rfl, hb⟩
             refine ⟨_, rfl, ?_⟩
             replace BK418 := bB (bV BK418) hb
             replace BK425 := bB (bV BK425) hb
             replace HB := bH (lV2 GE418 GE425) hb
             (try clear hb)
             (try clear hb2)
             (try clear hk)
             (try clear hi)
             refine hK.out _ _ ⟨cz BK425 0 _, cz BK425 1 _, cz BK425 2 _, cz BK425 3 _, cz BK418 0 _, cz BK418 1 _, cz BK418 2 _, cz BK418 3 _⟩ (fun hHeld => ?_)
             clear hK K
             refine norm_ (a' := ?_) ?_ ?_
             rotate_left
             ·show Act.put _ (some 40) _ = _
              simp only [Act.put, List.setIfInBounds_toArray, List.set_cons_zero, List.set_cons_succ, i64_w, i32_w]
              rfl
             refine one_ (i := 4) (N := some 12) (bz 6 31) rfl rfl (by kernel_rfl) (by decide) (fun K hK => ?_)
             refine box_step ?hg (N := 12) ?hd (cs := #[.int .i64 0, .int .i64 0, .int .i64 0, .bool false]) (t := 24) ?hr ?_; (case hd => rfl); (case hg => rfl); (case hr => exact sE)
             intro gb434 hg w52 hbox hb
             have BK434 := Aside0.mk hbox
             have GW434 := gS w hg (lV2 GE418 GE425)
             have GE434 := gS w hg (lV2 GE418 GE425)
             replace HB := bH (lV2 GE418 GE425) hb
             have NB418_434 := nL hg (bV BK418)
             have NB434_418 := nG hg (bV BK418)
             replace BK418 := bB (bV BK418) hb
             have NB425_434 := nL hg (bV BK425)
             have NB434_425 := nG hg (bV BK425)
             replace BK425 := bB (bV BK425) hb
             clear hb hbox hg
             refine hK.out _ _ ⟨cz BK425 0 _, cz BK425 1 _, cz BK425 2 _, cz BK425 3 _, cz BK418 0 _, cz BK418 1 _, cz BK418 2 _, cz BK418 3 _⟩ (fun hHeld => ?_)
             clear hK K
             refine norm_ (a' := ?_) ?_ ?_
             rotate_left
             ·show Act.put _ (some 12) _ = _
              simp only [Act.put, List.setIfInBounds_toArray, List.set_cons_zero, List.set_cons_succ, i64_w, i32_w]
              rfl
             exact norm_ (by simp only [putAll, Act.put, List.setIfInBounds_toArray, List.set_cons_zero, List.set_cons_succ]) (hCont (gb434) _ ⟨hHeld, (bV BK418), (bV BK425), (bV BK434), GW434.out, GE434.out, NB418_434.out, NB434_418.out, NB425_434.out, NB434_425.out, (lV3 GE418 GE425 GE434)⟩)
            ·skip
             refine box_step ?hg (N := 12) ?hd (cs := #[.int .i64 0, .int .i64 0, .int .i64 0, .bool false]) (t := 24) ?hr ?_; (case hd => rfl); (case hg => rfl); (case hr => exact sE)
             intro gb434 hg w51 hbox hb
             have BK434 := Aside0.mk hbox
             have GW434 := gS w hg (lV2 GE418 GE425)
             have GE434 := gS w hg (lV2 GE418 GE425)
             replace HB := bH (lV2 GE418 GE425) hb
             have NB418_434 := nL hg (bV BK418)
             have NB434_418 := nG hg (bV BK418)
             replace BK418 := bB (bV BK418) hb
             have NB425_434 := nL hg (bV BK425)
             have NB434_425 := nG hg (bV BK425)
             replace BK425 := bB (bV BK425) hb
             clear hb hbox hg
             refine hK.out _ _ ⟨cz BK425 0 _, cz BK425 1 _, cz BK425 2 _, cz BK425 3 _, cz BK418 0 _, cz BK418 1 _, cz BK418 2 _, cz BK418 3 _⟩ (fun hHeld => ?_)
             clear hK K
             refine norm_ (a' := ?_) ?_ ?_
             rotate_left
             ·show Act.put _ (some 12) _ = _
              simp only [Act.put, List.setIfInBounds_toArray, List.set_cons_zero, List.set_cons_succ, i64_w, i32_w]
              rfl
             refine one_ (i := 3) (N := some 40) (bz 6 31) rfl rfl (by kernel_rfl) (by decide) (fun K hK => ?_)
             refine goes_ Try.func28 (by kernel_rfl) rfl #[.agg #[.int .i64 t426, .int .i64 t427, .int .i64 t428, .bool t429], .agg #[.int .i64 t413, .int .i64 t414, .int .i64 t415, .bool t416]] (by rfl) rfl rfl aE ?_
             with_reducible refine (spec_l4Join.calls kj4 t426 t427 t428 t429 t413 t414 t415 t416 t430 t431 t432 t433 _ A16.out).mono ?_
             rintro e w52 ⟨rfl, hb⟩
             refine ⟨_, rfl, ?_⟩
             replace BK418 := bB (bV BK418) hb
             replace BK425 := bB (bV BK425) hb
             replace BK434 := bB (bV BK434) hb
             replace HB := bH (lV3 GE418 GE425 GE434) hb
             (try clear hb)
             (try clear hb2)
             (try clear hk)
             (try clear hi)
             refine hK.out _ _ ⟨cz BK425 0 _, cz BK425 1 _, cz BK425 2 _, cz BK425 3 _, cz BK418 0 _, cz BK418 1 _, cz BK418 2 _, cz BK418 3 _⟩ (fun hHeld => ?_)
             clear hK K
             refine norm_ (a' := ?_) ?_ ?_
             rotate_left
             ·show Act.put _ (some 40) _ = _
              simp only [Act.put, List.setIfInBounds_toArray, List.set_cons_zero, List.set_cons_succ, i64_w, i32_w]
              rfl
             exact norm_ (by simp only [putAll, Act.put, List.setIfInBounds_toArray, List.set_cons_zero, List.set_cons_succ]) (hCont (gb434) _ ⟨hHeld, (bV BK418), (bV BK425), (bV BK434), GW434.out, GE434.out, NB418_434.out, NB434_418.out, NB425_434.out, NB434_425.out, (lV3 GE418 GE425 GE434)⟩)
           ·skip
            refine box_step ?hg (N := 12) ?hd (cs := #[.int .i64 0, .int .i64 0, .int .i64 0, .bool false]) (t := 24) ?hr ?_; (case hd => rfl); (case hg => rfl); (case hr => exact sE)
            intro gb434 hg w50 hbox hb
            have BK434 := Aside0.mk hbox
            have GW434 := gS w hg (lV2 GE418 GE425)
            have GE434 := gS w hg (lV2 GE418 GE425)
            replace HB := bH (lV2 GE418 GE425) hb
            have NB418_434 := nL hg (bV BK418)
            have NB434_418 := nG hg (bV BK418)
            replace BK418 := bB (bV BK418) hb
            have NB425_434 := nL hg (bV BK425)
            have NB434_425 := nG hg (bV BK425)
            replace BK425 := bB (bV BK425) hb
            clear hb hbox hg
            refine hK.out _ _ ⟨cz BK425 0 _, cz BK425 1 _, cz BK425 2 _, cz BK425 3 _, cz BK418 0 _, cz BK418 1 _, cz BK418 2 _, cz BK418 3 _⟩ (fun hHeld => ?_)
            clear hK K
            refine norm_ (a' := ?_) ?_ ?_
            rotate_left
            ·show Act.put _ (some 12) _ = _
             simp only [Act.put, List.setIfInBounds_toArray, List.set_cons_zero, List.set_cons_succ, i64_w, i32_w]
             rfl
            refine one_ (i := 1) (N := some 38) (bz 6 23) rfl rfl (by kernel_rfl) (by decide) (fun K hK => ?_)
            refine goes_ Try.func16 (by kernel_rfl) rfl #[.agg #[.int .i64 t420, .int .i64 t421, .int .i64 t422, .bool t423]] (by rfl) rfl rfl aE ?_
            with_reducible refine (spec_l4Back.calls kj4 t420 t421 t422 t423 t426 t427 t428 t429 _ A15.out).mono ?_
            rintro e w51 ⟨rfl, hb⟩
            refine ⟨_, rfl, ?_⟩
            replace BK418 := bB (bV BK418) hb
            replace BK425 := bB (bV BK425) hb
            replace BK434 := bB (bV BK434) hb
            replace HB := bH (lV3 GE418 GE425 GE434) hb
            (try clear hb)
            (try clear hb2)
            (try clear hk)
            (try clear hi)
            refine hK.out _ _ ⟨cz BK425 0 _, cz BK425 1 _, cz BK425 2 _, cz BK425 3 _, cz BK418 0 _, cz BK418 1 _, cz BK418 2 _, cz BK418 3 _⟩ (fun hHeld => ?_)
            clear hK K
            refine norm_ (a' := ?_) ?_ ?_
            rotate_left
            ·show Act.put _ (some 38) _ = _
             simp only [Act.put, List.setIfInBounds_toArray, List.set_cons_zero, List.set_cons_succ, i64_w, i32_w]
             rfl
            refine one_ (i := 3) (N := some 40) (bz 6 31) rfl rfl (by kernel_rfl) (by decide) (fun K hK => ?_)
            refine goes_ Try.func28 (by kernel_rfl) rfl #[.agg #[.int .i64 t426, .int .i64 t427, .int .i64 t428, .bool t429], .agg #[.int .i64 t413, .int .i64 t414, .int .i64 t415, .bool t416]] (by rfl) rfl rfl aE ?_
            with_reducible refine (spec_l4Join.calls kj4 t426 t427 t428 t429 t413 t414 t415 t416 t430 t431 t432 t433 _ A16.out).mono ?_
            rintro e w52 ⟨rfl, hb⟩
            refine ⟨_, rfl, ?_⟩
            replace BK418 := bB (bV BK418) hb
            replace BK425 := bB (bV BK425) hb
            replace BK434 := bB (bV BK434) hb
            replace HB := bH (lV3 GE418 GE425 GE434) hb
            (try clear hb)
            (try clear hb2)
            (try clear hk)
            (try clear hi)
            refine hK.out _ _ ⟨cz BK425 0 _, cz BK425 1 _, cz BK425 2 _, cz BK425 3 _, cz BK418 0 _, cz BK418 1 _, cz BK418 2 _, cz BK418 3 _⟩ (fun hHeld => ?_)
            clear hK K
            refine norm_ (a' := ?_) ?_ ?_
            rotate_left
            ·show Act.put _ (some 40) _ = _
             simp only [Act.put, List.setIfInBounds_toArray, List.set_cons_zero, List.set_cons_succ, i64_w, i32_w]
             rfl
            exact norm_ (by simp only [putAll, Act.put, List.setIfInBounds_toArray, List.set_cons_zero, List.set_cons_succ]) (hCont (gb434) _ ⟨hHeld, (bV BK418), (bV BK425), (bV BK434), GW434.out, GE434.out, NB418_434.out, NB434_418.out, NB425_434.out, NB434_425.out, (lV3 GE418 GE425 GE434)⟩)
          rintro gb434 w53 ⟨hS_, h0_, h1_, h2_, h3_, h4_, h5_, h6_, h7_, h8_, h9_⟩
          replace BK418 : Aside0 (w53.heap[gb418]? = some (.cells #[.int .i64 t413, .int .i64 t414, .int .i64 t415, .bool t416] 24 (0, 0))) := ⟨h0_⟩
          replace BK425 : Aside0 (w53.heap[gb425]? = some (.cells #[.int .i64 t420, .int .i64 t421, .int .i64 t422, .bool t423] 24 (0, 0))) := ⟨h1_⟩
          have BK434 : Aside0 (w53.heap[gb434]? = some (.cells #[.int .i64 0, .int .i64 0, .int .i64 0, .bool false] 24 (0, 0))) := ⟨h2_⟩
          have GW434 : Aside0 (w.heap.size ≤ gb434) := ⟨h3_⟩
          have GE434 : Aside0 (w.heap.size ≤ gb434) := ⟨h4_⟩
          have NB418_434 : Aside0 (gb418 ≠ gb434) := ⟨h5_⟩
          have NB434_418 : Aside0 (gb434 ≠ gb418) := ⟨h6_⟩
          have NB425_434 : Aside0 (gb425 ≠ gb434) := ⟨h7_⟩
          have NB434_425 : Aside0 (gb434 ≠ gb425) := ⟨h8_⟩
          replace HB : Aside0 (Below w.heap.size w w53) := ⟨h9_⟩
          clear h0_ h1_ h2_ h3_ h4_ h5_ h6_ h7_ h8_ h9_
          have hHeld : w53.cell? ⟨gb425, 0, none⟩ = some (.int .i64 t420) ∧ w53.cell? ⟨gb425, 1, none⟩ = some (.int .i64 t421) ∧ w53.cell? ⟨gb425, 2, none⟩ = some (.int .i64 t422) ∧ w53.cell? ⟨gb425, 3, none⟩ = some (.bool t423) ∧ w53.cell? ⟨gb418, 0, none⟩ = some (.int .i64 t413) ∧ w53.cell? ⟨gb418, 1, none⟩ = some (.int .i64 t414) ∧ w53.cell? ⟨gb418, 2, none⟩ = some (.int .i64 t415) ∧ w53.cell? ⟨gb418, 3, none⟩ = some (.bool t416) := hS_
          refine norm_ (a' := ?_) ?_ ?_
          rotate_left
          ·simp only [putAll, Act.put, List.setIfInBounds_toArray, List.set_cons_zero, List.set_cons_succ]
           rfl
          refine one_ (i := 5) (N := none) (bz 6 63) rfl rfl (by kernel_rfl) (by decide) (fun K hK => ?_)
          have hs54 : w53.cell? ⟨gb434, 0, none⟩ = some (.int .i64 0) := (blk_cell BK434.out 0).trans rfl
          have hfs54 := blk_frozen BK434.out 0
          have hns54_0 := NB418_434.out
          have hns54_1 := NB425_434.out
          have hms54_0 := NB434_418.out
          have hms54_1 := NB434_425.out
          have hs55 : w53.cell? ⟨gb434, 1, none⟩ = some (.int .i64 0) := (blk_cell BK434.out 1).trans rfl
          have hfs55 := blk_frozen BK434.out 1
          have hns55_0 := NB418_434.out
          have hns55_1 := NB425_434.out
          have hms55_0 := NB434_418.out
          have hms55_1 := NB434_425.out
          have hs56 : w53.cell? ⟨gb434, 2, none⟩ = some (.int .i64 0) := (blk_cell BK434.out 2).trans rfl
          have hfs56 := blk_frozen BK434.out 2
          have hns56_0 := NB418_434.out
          have hns56_1 := NB425_434.out
          have hms56_0 := NB434_418.out
          have hms56_1 := NB434_425.out
          have hs57 : w53.cell? ⟨gb434, 3, none⟩ = some (.bool false) := (blk_cell BK434.out 3).trans rfl
          have hfs57 := blk_frozen BK434.out 3
          have hns57_0 := NB418_434.out
          have hns57_1 := NB425_434.out
          have hms57_0 := NB434_418.out
          have hms57_1 := NB434_425.out
          refine skip_ (w1 := ?_) (by rfl) rfl ?_ ?_
          rotate_left
          ·go_simp
           rfl
          refine hK.out _ _ ⟨((cell_far (p := ⟨gb434, _, none⟩) NB425_434.out _).trans (((cell_far (p := ⟨gb434, _, none⟩) NB425_434.out _).trans (((cell_far (p := ⟨gb434, _, none⟩) NB425_434.out _).trans (((cell_far (p := ⟨gb434, _, none⟩) NB425_434.out _).trans (hHeld.1)))))))), ((cell_far (p := ⟨gb434, _, none⟩) NB425_434.out _).trans (((cell_far (p := ⟨gb434, _, none⟩) NB425_434.out _).trans (((cell_far (p := ⟨gb434, _, none⟩) NB425_434.out _).trans (((cell_far (p := ⟨gb434, _, none⟩) NB425_434.out _).trans (hHeld.2.1)))))))), ((cell_far (p := ⟨gb434, _, none⟩) NB425_434.out _).trans (((cell_far (p := ⟨gb434, _, none⟩) NB425_434.out _).trans (((cell_far (p := ⟨gb434, _, none⟩) NB425_434.out _).trans (((cell_far (p := ⟨gb434, _, none⟩) NB425_434.out _).trans (hHeld.2.2.1)))))))), ((cell_far (p := ⟨gb434, _, none⟩) NB425_434.out _).trans (((cell_far (p := ⟨gb434, _, none⟩) NB425_434.out _).trans (((cell_far (p := ⟨gb434, _, none⟩) NB425_434.out _).trans (((cell_far (p := ⟨gb434, _, none⟩) NB425_434.out _).trans (hHeld.2.2.2.1)))))))), ((cell_far (p := ⟨gb434, _, none⟩) NB418_434.out _).trans (((cell_far (p := ⟨gb434, _, none⟩) NB418_434.out _).trans (((cell_far (p := ⟨gb434, _, none⟩) NB418_434.out _).trans (((cell_far (p := ⟨gb434, _, none⟩) NB418_434.out _).trans (hHeld.2.2.2.2.1)))))))), ((cell_far (p := ⟨gb434, _, none⟩) NB418_434.out _).trans (((cell_far (p := ⟨gb434, _, none⟩) NB418_434.out _).trans (((cell_far (p := ⟨gb434, _, none⟩) NB418_434.out _).trans (((cell_far (p := ⟨gb434, _, none⟩) NB418_434.out _).trans (hHeld.2.2.2.2.2.1)))))))), ((cell_far (p := ⟨gb434, _, none⟩) NB418_434.out _).trans (((cell_far (p := ⟨gb434, _, none⟩) NB418_434.out _).trans (((cell_far (p := ⟨gb434, _, none⟩) NB418_434.out _).trans (((cell_far (p := ⟨gb434, _, none⟩) NB418_434.out _).trans (hHeld.2.2.2.2.2.2.1)))))))), ((cell_far (p := ⟨gb434, _, none⟩) NB418_434.out _).trans (((cell_far (p := ⟨gb434, _, none⟩) NB418_434.out _).trans (((cell_far (p := ⟨gb434, _, none⟩) NB418_434.out _).trans (((cell_far (p := ⟨gb434, _, none⟩) NB418_434.out _).trans (hHeld.2.2.2.2.2.2.2))))))))⟩ (fun hHeld => ?_)
          clear hK K
          refine done_ (by kernel_rfl) ?_
          try go_wp2_with (first | ((with_reducible refine gate_dst (N := 41) rfl ?_); refine Kd.R_lit k36 _ 36 ?hg (N := 41) ?hd (xs := ([] : List (S36))) (inner := []) (ok := fun _ => True) (okp := fun _ => True) ?hr ?hp (fun _ hk => hk) trivial (Below.refl _ _) (Nat.le_refl _) (by simp) ?_; (case hd => rfl); (case hg => rfl); (case hr => exact sE); (case hp => exact (Reps.none _ _)); intro v436 w58 ho59 hb hg_ hnew_; clear hg_ hnew_; (first | rw [← Ny435.out] at ho59 | (simp only [Int.reduceToNat] at ho59; rw [← Ny435.out] at ho59)); have HO437 := Aside0.mk (Kd.R_lower ho59 (below_size (lV3 GE418 GE425 GE434))); replace BK418 := bB (bG NB418_434 BK418) hb; replace BK425 := bB (bG NB425_434 BK425) hb; replace BK434 := Aside0.mk (blk_below (g := gb434) (o := .cells #[.int .i64 t430, .int .i64 t431, .int .i64 t432, .bool t433] 24 (0, 0)) (by refine bU ?_; refine blk_put (cs := #[.int .i64 t430, .int .i64 t431, .int .i64 t432, .bool false]) ?_ 3 _ rfl; refine bU ?_; refine blk_put (cs := #[.int .i64 t430, .int .i64 t431, .int .i64 0, .bool false]) ?_ 2 _ rfl; refine bU ?_; refine blk_put (cs := #[.int .i64 t430, .int .i64 0, .int .i64 0, .bool false]) ?_ 1 _ rfl; refine bU ?_; refine blk_put (cs := #[.int .i64 0, .int .i64 0, .int .i64 0, .bool false]) ?_ 0 _ rfl; refine bU ?_; exact BK434.out) hb); replace HB := bH (lV3 GE418 GE425 GE434) hb; clear hb ho59) | ((with_reducible refine gate_builtin (b := .append) (xs := #[.tmp 41, .tmp 42]) rfl ?_); at_builtin; refine Kd.R_append_rows k36 (w0 := w) w.heap.size rfl (.tmp 41) (.tmp 42) 29 36 (.agg #[(.string ⟨#[]⟩), (.int .i64 0), (.int .i64 0), (.int .i64 0), (.int .i64 0), (.bool false)]) 56 rfl Try.underlying29 info36 rfl (by decide) (by omega) v436 y435 l0 _ _ _ (fun _ => True) (fun _ => False) rfl rfl ?aO ?aR (fun _ _ h => h) (fun _ h => h.elim) ?aF ?aB ?aS ?aL ?_; (case aR => repeat (first | exact (Kd.C_below HR0.out HB.out) | exact (Kd.C_drewN (Kd.C_below HR0.out HB.out) _) | exact (Kd.C_drew (Kd.C_below HR0.out HB.out)) | exact (Kd.C_alloc (Kd.C_below HR0.out HB.out) _) | (with_reducible refine Kd.C_alloc ?_ _) | (with_reducible refine Kd.C_drewN ?_ _) | (with_reducible refine Kd.C_drew ?_))); (case aB => exact (lV3 GE418 GE425 GE434)); (case aF => exact (fun _ _ => trivial)); (case aO => exact (rU HO437.out)); (case aS => exact (below_size (lV3 GE418 GE425 GE434))); (case aL => have := LMc17.out; omega); intro v439 w60 ho hb hg hat; rw [← Ny438.out] at ho; replace BK418 := Aside0.mk (blk_grown (g := gb418) (o := .cells #[.int .i64 t413, .int .i64 t414, .int .i64 t415, .bool t416] 24 (0, 0)) (bV BK418) hg (Kd.R_ne HO437.out BK418.out (by decide))); replace BK425 := Aside0.mk (blk_grown (g := gb425) (o := .cells #[.int .i64 t420, .int .i64 t421, .int .i64 t422, .bool t423] 24 (0, 0)) (bV BK425) hg (Kd.R_ne HO437.out BK425.out (by decide))); replace BK434 := Aside0.mk (blk_grown (g := gb434) (o := .cells #[.int .i64 t430, .int .i64 t431, .int .i64 t432, .bool t433] 24 (0, 0)) (bV BK434) hg (Kd.R_ne HO437.out BK434.out (by decide))); replace HB := Aside0.mk hb; have HO440 := Aside0.mk ho; clear HO437; clear ho hb hg hat))
          replace HO440 := Aside0.mk (Kd.R_drew HO440.out)
          replace BK418 := Aside0.mk (blk_drew BK418.out)
          replace BK425 := Aside0.mk (blk_drew BK425.out)
          replace BK434 := Aside0.mk (blk_drew BK434.out)
          replace HB := Aside0.mk (below_drew1 HB.out)
          have p441 : 0 ≤ (a1 : Int) := of_decide_eq_true hE
          have q441 : a1 < (l0.length : Int) := of_decide_eq_true hE
          obtain ⟨ad441, e441, hx441_0, hx441_1, hx441_2, hx441_3, hx441_4, hx441_5⟩ := at_T36 HR0.out a1 p441 q441
          have hw441_5 := hx441_5
          have hw441_4 := hx441_4
          have hw441_3 := hx441_3
          have hw441_2 := hx441_2
          have hw441_1 := hx441_1
          have hw441_0 := hx441_0
          cases e441
          replace hx441_0 := (HB.out.cell (World.block_lt_of_cell? w _ hx441_0)).trans hx441_0
          replace hx441_1 := (HB.out.cell (World.block_lt_of_cell? w _ hx441_1)).trans hx441_1
          replace hx441_2 := (HB.out.cell (World.block_lt_of_cell? w _ hx441_2)).trans hx441_2
          replace hx441_3 := (HB.out.cell (World.block_lt_of_cell? w _ hx441_3)).trans hx441_3
          replace hx441_4 := (HB.out.cell (World.block_lt_of_cell? w _ hx441_4)).trans hx441_4
          replace hx441_5 := (HB.out.cell (World.block_lt_of_cell? w _ hx441_5)).trans hx441_5
          replace p441 := eq_true p441
          replace q441 := eq_true q441
          have p21 : 0 ≤ (a1 : Int) := of_decide_eq_true hE
          have q21 : (a1 : Int) < ((y438.length : Int) : Int) := of_decide_eq_true hE
          obtain ⟨go21, co21, eo21, gb21, gl21, cl21, HG21⟩ := Kd.R_form HO440.out (by omega)
          (first | cases eo21 | (injection eo21 with ea_ en_ ec_; (first | subst ea_ | (injection ea_ with ea_; subst ea_)); subst ec_; clear en_))
          have GB21 := Aside0.mk gb21
          have GG21 := Aside0.mk HG21
          clear gb21 gl21 HG21
          obtain ⟨ce21, hcl21, hM21, hcc21, hfr21⟩ := Kd.R_elem HO440.out z36 (a1 : Int) p21 q21
          obtain rfl := k36_openM hM21
          have hx21_0 : World.cell? _ ⟨go21, (a1 : Int).toNat * 6, none⟩ = some (.string ((rd_T36 y438 a1).f0)) := hcc21 0 _ rfl
          have hx21_1 : World.cell? _ ⟨go21, (a1 : Int).toNat * 6 + 1, none⟩ = some (.int .i64 ((rd_T36 y438 a1).f1)) := hcc21 1 _ rfl
          have hx21_2 : World.cell? _ ⟨go21, (a1 : Int).toNat * 6 + 2, none⟩ = some (.int .i64 ((rd_T36 y438 a1).f2)) := hcc21 2 _ rfl
          have hx21_3 : World.cell? _ ⟨go21, (a1 : Int).toNat * 6 + 3, none⟩ = some (.int .i64 ((rd_T36 y438 a1).f3)) := hcc21 3 _ rfl
          have hx21_4 : World.cell? _ ⟨go21, (a1 : Int).toNat * 6 + 4, none⟩ = some (.int .i64 ((rd_T36 y438 a1).f4)) := hcc21 4 _ rfl
          have hx21_5 : World.cell? _ ⟨go21, (a1 : Int).toNat * 6 + 5, none⟩ = some (.bool ((rd_T36 y438 a1).f5)) := hcc21 5 _ rfl
          have hf21_0 : World.frozen? _ ⟨go21, (a1 : Int).toNat * 6, none⟩ = false := hfr21 0
          have hf21_1 : World.frozen? _ ⟨go21, (a1 : Int).toNat * 6 + 1, none⟩ = false := hfr21 1
          have hf21_2 : World.frozen? _ ⟨go21, (a1 : Int).toNat * 6 + 2, none⟩ = false := hfr21 2
          have hf21_3 : World.frozen? _ ⟨go21, (a1 : Int).toNat * 6 + 3, none⟩ = false := hfr21 3
          have hf21_4 : World.frozen? _ ⟨go21, (a1 : Int).toNat * 6 + 4, none⟩ = false := hfr21 4
          have hf21_5 : World.frozen? _ ⟨go21, (a1 : Int).toNat * 6 + 5, none⟩ = false := hfr21 5
          (try clear hcl21)
          (try clear hcc21)
          (try clear hfr21)
          (try clear hM21)
          replace p21 := eq_true p21
          replace q21 := eq_true q21
          obtain ⟨ce62, hcl62, hM62, hcc62, hfr62⟩ := Kd.R_elem HO440.out z36 (a1 : Int) (of_decide_eq_true hE) (by have h_ : (a1 : Int) < ((y438.length : Int) : Int) := of_decide_eq_true hE; first | exact h_ | (have e_ := (Kd.R_reads' HO440.out).1; omega) | simpa using h_)
          obtain rfl := k36_openM hM62
          have HP62 := (Kd.R_seg HO440.out (a1 : Int) (of_decide_eq_true hE) (by have h_ : (a1 : Int) < ((y438.length : Int) : Int) := of_decide_eq_true hE; first | exact h_ | (have e_ := (Kd.R_reads' HO440.out).1; omega) | simpa using h_) (seg := [.string ((rd_T36 l0 a1).f0), .int .i64 a2, .int .i64 t430, .int .i64 t431, .int .i64 t432, .bool t433]) (j := 0) hcl62 hcc62 (show 6 ≤ 6 from by decide) (x' := (⟨(rd_T36 l0 a1).f0, a2, t430, t431, t432, t433⟩ : S36)) (k36_mkM _ _ _ (⟨(rd_T36 l0 a1).f0, a2, t430, t431, t432, t433⟩ : S36) ) (fun _ hk => hk)).1
          rw [← Ny442.out] at HP62
          have HQ62 := Aside0.mk HP62
          clear hcl62 hcc62 hfr62 hM62 HP62
          refine start_ (n := 19) (S := fun w' => w'.cell? ⟨gb434, 0, none⟩ = some (.int .i64 t430) ∧ w'.cell? ⟨gb434, 1, none⟩ = some (.int .i64 t431) ∧ w'.cell? ⟨gb434, 2, none⟩ = some (.int .i64 t432) ∧ w'.cell? ⟨gb434, 3, none⟩ = some (.bool t433) ∧ w'.cell? (ad441.add ((a1).toNat * 6)) = some (.string ((rd_T36 l0 a1).f0)) ∧ w'.cell? ⟨(ad441.add ((a1).toNat * 6)).block, (ad441.add ((a1).toNat * 6)).off + 1, none⟩ = some (.int .i64 ((rd_T36 l0 a1).f1)) ∧ w'.cell? ⟨(ad441.add ((a1).toNat * 6)).block, (ad441.add ((a1).toNat * 6)).off + 2, none⟩ = some (.int .i64 ((rd_T36 l0 a1).f2)) ∧ w'.cell? ⟨(ad441.add ((a1).toNat * 6)).block, (ad441.add ((a1).toNat * 6)).off + 3, none⟩ = some (.int .i64 ((rd_T36 l0 a1).f3)) ∧ w'.cell? ⟨(ad441.add ((a1).toNat * 6)).block, (ad441.add ((a1).toNat * 6)).off + 4, none⟩ = some (.int .i64 ((rd_T36 l0 a1).f4)) ∧ w'.cell? ⟨(ad441.add ((a1).toNat * 6)).block, (ad441.add ((a1).toNat * 6)).off + 5, none⟩ = some (.bool ((rd_T36 l0 a1).f5))) (ds := [18]) #[false, false, false, false, false, false, false, false, false, false, false, false, false, false, false, false, false, false, false] (by kernel_rfl) rfl rfl ⟨cz BK434 0 _, cz BK434 1 _, cz BK434 2 _, cz BK434 3 _, ((HB.out.cell (World.block_lt_of_cell? w _ hw441_0)).trans hw441_0), ((HB.out.cell (World.block_lt_of_cell? w _ hw441_1)).trans hw441_1), ((HB.out.cell (World.block_lt_of_cell? w _ hw441_2)).trans hw441_2), ((HB.out.cell (World.block_lt_of_cell? w _ hw441_3)).trans hw441_3), ((HB.out.cell (World.block_lt_of_cell? w _ hw441_4)).trans hw441_4), ((HB.out.cell (World.block_lt_of_cell? w _ hw441_5)).trans hw441_5)⟩ (fun hHeld => ?_); refine with_tabW spec_Hang.tab9 spec_Hang.bits9 (fun HT_ HW_ => ?_)
          generalize w60.drew = w61 at HO440 BK418 BK425 BK434 HB GG21 HQ62 hf21_0 hf21_1 hf21_2 hf21_3 hf21_4 hf21_5 hx21_0 hx21_1 hx21_2 hx21_3 hx21_4 hx21_5 hx441_0 hx441_1 hx441_2 hx441_3 hx441_4 hx441_5 hHeld ⊢
          refine pureA 0 44 (bz 19 1) rfl rfl (any_of HT_.out (by kernel_rfl)) ?_
          refine pureA 1 45 (bz 19 3) rfl rfl (any_of HT_.out (by kernel_rfl)) ?_
          refine pureA 2 46 (bz 19 7) rfl rfl (any_of HT_.out (by kernel_rfl)) ?_
          refine pureA 3 47 (bz 19 15) rfl rfl (any_of HT_.out (by kernel_rfl)) ?_
          refine pureA 4 48 (bz 19 31) rfl rfl (any_of HT_.out (by kernel_rfl)) ?_
          refine pureA 5 49 (bz 19 63) rfl rfl (any_of HT_.out (by kernel_rfl)) ?_
          refine pureA 7 51 (bz 19 191) rfl rfl (any_of HT_.out (by kernel_rfl)) ?_
          refine pureA 8 52 (bz 19 447) rfl rfl (any_of HT_.out (by kernel_rfl)) ?_
          refine pureA 10 54 (bz 19 1471) rfl rfl (any_of HT_.out (by kernel_rfl)) ?_
          refine pureA 12 56 (bz 19 5567) rfl rfl (any_of HT_.out (by kernel_rfl)) ?_
          refine pureA 14 58 (bz 19 21951) rfl rfl (any_of HT_.out (by kernel_rfl)) ?_
          refine takeA 6 50 (bz 19 22015) rfl rfl (take_ofW HT_.out HW_.out (by kernel_rfl)) hHeld (by rintro w' ⟨s0, s1, s2, s3, s4, s5, s6, s7, s8, s9⟩; go_simp; with_reducible rfl) ?_
          refine takeA 9 53 (bz 19 22527) rfl rfl (take_ofW HT_.out HW_.out (by kernel_rfl)) hHeld (by rintro w' ⟨s0, s1, s2, s3, s4, s5, s6, s7, s8, s9⟩; go_simp; with_reducible rfl) ?_
          refine takeA 11 55 (bz 19 24575) rfl rfl (take_ofW HT_.out HW_.out (by kernel_rfl)) hHeld (by rintro w' ⟨s0, s1, s2, s3, s4, s5, s6, s7, s8, s9⟩; go_simp; with_reducible rfl) ?_
          refine takeA 13 57 (bz 19 32767) rfl rfl (take_ofW HT_.out HW_.out (by kernel_rfl)) hHeld (by rintro w' ⟨s0, s1, s2, s3, s4, s5, s6, s7, s8, s9⟩; go_simp; with_reducible rfl) ?_
          refine takeA 15 59 (bz 19 65535) rfl rfl (take_ofW HT_.out HW_.out (by kernel_rfl)) hHeld (by rintro w' ⟨s0, s1, s2, s3, s4, s5, s6, s7, s8, s9⟩; go_simp; with_reducible rfl) ?_
          refine pureA 16 60 (bz 19 131071) rfl rfl (any_of HT_.out (by kernel_rfl)) ?_
          refine pureA 17 61 (bz 19 262143) rfl rfl (any_of HT_.out (by kernel_rfl)) ?_
          refine last_ (i := 18) (N := none) (bz 19 524287) rfl rfl (one_of HT_.out (by kernel_rfl)) (by decide) (fun K hK => ?_)
          refine skip_ (w1 := ?_) (by rfl) rfl ?_ ?_
          rotate_left
          ·go_simp
           rfl
          refine hK.out _ _ ?_
          clear hK K
          refine done_ (done_of HT_.out (by kernel_rfl)) ?_
          try go_wp2_with (first | ((with_reducible refine gate_callee (f := 29) rfl ?_); refine goesL_ (some 63) rfl rfl Try.func29 (by kernel_rfl) rfl #[.slice (some ⟨go21, 0, none⟩) y442.length co21] rfl (by (try simp only [List.map_toArray, List.map_cons, List.map_nil]); first | done | (rw [show y442.length = y438.length from (Kd.R_reads' HQ62.out).1.symm] <;> rfl) | rfl | (simp only [List.length_drop, List.length_take]; rfl)) ?_; (with_reducible refine (spec_GoodScene.calls kj4 _ _ y442 false _ ?side1 ?side2 A22.out).mono ?_); (case side1 => refine (Kd.R_reads' (e := 36) (base := w.heap.size) (ok := fun k_ => True) (n := y438.length) (c := co21) ?_).2.2; exact (rU HQ62.out)); (case side2 => rw [show y442.length = y438.length from (Kd.R_reads' HQ62.out).1.symm]; exact (Kd.R_reads' HO440.out).2.1); rintro e w63 ⟨rfl, hb⟩; refine ⟨_, rfl, ?_⟩; replace BK418 := Aside0.mk (blk_below (g := gb418) (o := .cells #[.int .i64 t413, .int .i64 t414, .int .i64 t415, .bool t416] 24 (0, 0)) (by refine bU ?_; refine blk_far ?_ (by have h_ := Kd.R_ne HO440.out BK418.out (by decide); intro e_; exact h_ (by rw [e_]; rfl)) _; refine bU ?_; refine blk_far ?_ (by have h_ := Kd.R_ne HO440.out BK418.out (by decide); intro e_; exact h_ (by rw [e_]; rfl)) _; refine bU ?_; refine blk_far ?_ (by have h_ := Kd.R_ne HO440.out BK418.out (by decide); intro e_; exact h_ (by rw [e_]; rfl)) _; refine bU ?_; refine blk_far ?_ (by have h_ := Kd.R_ne HO440.out BK418.out (by decide); intro e_; exact h_ (by rw [e_]; rfl)) _; refine bU ?_; refine blk_far ?_ (by have h_ := Kd.R_ne HO440.out BK418.out (by decide); intro e_; exact h_ (by rw [e_]; rfl)) _; refine bU ?_; refine blk_far ?_ (by have h_ := Kd.R_ne HO440.out BK418.out (by decide); intro e_; exact h_ (by rw [e_]; rfl)) _; refine bU ?_; exact BK418.out) hb); replace BK425 := Aside0.mk (blk_below (g := gb425) (o := .cells #[.int .i64 t420, .int .i64 t421, .int .i64 t422, .bool t423] 24 (0, 0)) (by refine bU ?_; refine blk_far ?_ (by have h_ := Kd.R_ne HO440.out BK425.out (by decide); intro e_; exact h_ (by rw [e_]; rfl)) _; refine bU ?_; refine blk_far ?_ (by have h_ := Kd.R_ne HO440.out BK425.out (by decide); intro e_; exact h_ (by rw [e_]; rfl)) _; refine bU ?_; refine blk_far ?_ (by have h_ := Kd.R_ne HO440.out BK425.out (by decide); intro e_; exact h_ (by rw [e_]; rfl)) _; refine bU ?_; refine blk_far ?_ (by have h_ := Kd.R_ne HO440.out BK425.out (by decide); intro e_; exact h_ (by rw [e_]; rfl)) _; refine bU ?_; refine blk_far ?_ (by have h_ := Kd.R_ne HO440.out BK425.out (by decide); intro e_; exact h_ (by rw [e_]; rfl)) _; refine bU ?_; refine blk_far ?_ (by have h_ := Kd.R_ne HO440.out BK425.out (by decide); intro e_; exact h_ (by rw [e_]; rfl)) _; refine bU ?_; exact BK425.out) hb); replace BK434 := Aside0.mk (blk_below (g := gb434) (o := .cells #[.int .i64 t430, .int .i64 t431, .int .i64 t432, .bool t433] 24 (0, 0)) (by refine bU ?_; refine blk_far ?_ (by have h_ := Kd.R_ne HO440.out BK434.out (by decide); intro e_; exact h_ (by rw [e_]; rfl)) _; refine bU ?_; refine blk_far ?_ (by have h_ := Kd.R_ne HO440.out BK434.out (by decide); intro e_; exact h_ (by rw [e_]; rfl)) _; refine bU ?_; refine blk_far ?_ (by have h_ := Kd.R_ne HO440.out BK434.out (by decide); intro e_; exact h_ (by rw [e_]; rfl)) _; refine bU ?_; refine blk_far ?_ (by have h_ := Kd.R_ne HO440.out BK434.out (by decide); intro e_; exact h_ (by rw [e_]; rfl)) _; refine bU ?_; refine blk_far ?_ (by have h_ := Kd.R_ne HO440.out BK434.out (by decide); intro e_; exact h_ (by rw [e_]; rfl)) _; refine bU ?_; refine blk_far ?_ (by have h_ := Kd.R_ne HO440.out BK434.out (by decide); intro e_; exact h_ (by rw [e_]; rfl)) _; refine bU ?_; exact BK434.out) hb); replace HO440 := Aside0.mk (Kd.R_below (rU HQ62.out) hb); replace HB := bH (lV9 GB21 GB21 GB21 GB21 GB21 GB21 GE418 GE425 GE434) hb; (try clear hb)))
          go_ret2
          exact ⟨_, eE, by first | exact Kd.R_nil _ _ _ _ _ | exact Kd.N_nil _ _ _ _ _ | exact Kd.V_nil _ _ _ _ _ | exact Kd.Q_nil _ _ _ _ _ | exact Kd.S_nil _ _ _ _ _, lV3 GE418 GE425 GE434⟩
        ·rw [if_neg c20] at H
         exact absurd H (by simp)
       ·rw [if_neg c19] at H
        exact absurd H (by simp)
      ·rw [if_neg c18] at H
       exact absurd H (by simp)
     ·rw [if_neg c17] at H
      exact absurd H (by simp)
    ·replace c14 := Bool.eq_false_iff.mpr c14
     subst c14
     have H1 : (some (([] : List (S36)), false)) = some (r1, r2) := by rw [if_neg (show ¬ (false = true) by decide)] at H; exact H
     clear H
     have H := H1
     clear H1
     simp only [Option.some.injEq, Prod.mk.injEq] at H
     obtain ⟨rfl, rfl⟩ := H
     go_wp2_with (first | ((with_reducible refine gate_callee (f := 27) rfl ?_); refine goesL_ (some 32) rfl rfl Try.func27 (by kernel_rfl) rfl #[.slice A0 l0.length c0, .int .i64 a2] rfl aE ?_; (with_reducible refine (spec_l4Where.calls kj4 _ _ l0 a2 t420 t421 t422 t423 false _ ?side1 ?side2 A13.out).mono ?_); (case side1 => exact cU (Kd.C_below HR0.out HB.out)); (case side2 => exact HC0.out); rintro e w64 ⟨rfl, hb⟩; refine ⟨_, rfl, ?_⟩; replace BK418 := bB (bV BK418) hb; replace HB := bH (lV1 GE418) hb; (try clear hb)) | ((with_reducible refine gate_dst (N := 10) rfl ?_); refine box_event rfl (N := 10) rfl (cs := #[.int .i64 0, .int .i64 0, .int .i64 0, .bool false]) (t := 24) sE ?_; intro gb425 hg w65 hbox hb; have BK425 := Aside0.mk hbox; have GW425 := gS w hg (lV1 GE418); have GE425 := gS w hg (lV1 GE418); replace HB := bH (lV1 GE418) hb; have NB418_425 := nL hg (bV BK418); have NB425_418 := nG hg (bV BK418); replace BK418 := bB (bV BK418) hb; clear hb hbox hg; have hnb66 := NB425_418.out; have hnc66 := NB418_425.out; have hcz67_0 := cz BK425 0 (.int .i64 0); have hcz67_1 := cz BK425 1 (.int .i64 0); have hcz67_2 := cz BK425 2 (.int .i64 0); have hcz67_3 := cz BK425 3 (.bool false); have hfz67_0 := fz BK425 0; have hfz67_1 := fz BK425 1; have hfz67_2 := fz BK425 2; have hfz67_3 := fz BK425 3) | ((with_reducible refine gate_store (t := 24) (p := 10) rfl ?_); refine store_event (t := 24) (p := 10) (v := ?vo_w68) (w1 := ((((w65.setCell ⟨gb425, 0, none⟩ (.int .i64 t420)).setCell ⟨gb425, 1, none⟩ (.int .i64 t421)).setCell ⟨gb425, 2, none⟩ (.int .i64 t422)).setCell ⟨gb425, 3, none⟩ (.bool t423))) ?hg ?ho ?hn ?hr ?_; (case ho => rfl); (case hg => rfl); (case hn => rfl); (case hr => first | (go_simp; done) | (go_simp; rfl) | (have hq0_ := (blk_cell BK425.out 0).trans (show _ = some _ from rfl); have hf0_ := blk_frozen BK425.out 0; have hq1_ := (blk_cell BK425.out 1).trans (show _ = some _ from rfl); have hf1_ := blk_frozen BK425.out 1; have hq2_ := (blk_cell BK425.out 2).trans (show _ = some _ from rfl); have hf2_ := blk_frozen BK425.out 2; have hq3_ := (blk_cell BK425.out 3).trans (show _ = some _ from rfl); have hf3_ := blk_frozen BK425.out 3; first | (go_simp; done) | (go_simp; rfl))); intro w68 hw; replace BK418 : Aside0 (w68.heap[gb418]? = some (.cells #[.int .i64 t413, .int .i64 t414, .int .i64 t415, .bool t416] 24 (0, 0))) := ⟨(by rw [hw]; exact (bG NB418_425 BK418))⟩; replace BK425 : Aside0 (w68.heap[gb425]? = some (.cells #[.int .i64 t420, .int .i64 t421, .int .i64 t422, .bool t423] 24 (0, 0))) := ⟨(by rw [hw]; exact (by refine bU ?_; refine blk_put (cs := #[.int .i64 t420, .int .i64 t421, .int .i64 t422, .bool false]) ?_ 3 _ rfl; refine bU ?_; refine blk_put (cs := #[.int .i64 t420, .int .i64 t421, .int .i64 0, .bool false]) ?_ 2 _ rfl; refine bU ?_; refine blk_put (cs := #[.int .i64 t420, .int .i64 0, .int .i64 0, .bool false]) ?_ 1 _ rfl; refine bU ?_; refine blk_put (cs := #[.int .i64 0, .int .i64 0, .int .i64 0, .bool false]) ?_ 0 _ rfl; refine bU ?_; exact BK425.out))⟩; replace HB : Aside0 (Below w.heap.size w w68) := ⟨(by rw [hw]; exact (lV2 GE418 GE425))⟩; clear hw))
     go_ret2
     exact ⟨_, eE, by first | exact Kd.R_nil _ _ _ _ _ | exact Kd.N_nil _ _ _ _ _ | exact Kd.V_nil _ _ _ _ _ | exact Kd.Q_nil _ _ _ _ _ | exact Kd.S_nil _ _ _ _ _, lV2 GE418 GE425⟩
end Go.Proofs.Ytmmgmbmjlbdpnaa.PFnPlaced
namespace Go.Proofs.Ytmmgmbmjlbdpnaa.PFnPlaced
open Go.RowKit Go.Proofs.YtmmgmbmjlbdpnaaW.PrintWords Go.Proofs.YtmmgmbmjlbdpnaaW.PrintLast Go.Proofs.YtmmgmbmjlbdpnaaW.PrintMore
attribute [local go_sem] max2_int min2_int max_two min_two max_three min_three max_four min_four   -- for this text's walks alone
set_option linter.unusedVariables false
set_option linter.unusedSimpArgs false
def impl_SpotOf.f (k : Nat) (l0 : List (S36)) (a1 : Int) : Option (Int × Int × Int × Bool × Bool) := (impl_isNode.f k l0 a1).bind fun t445 => (if t445 = true then ((impl_spotOf.f k l0 a1).bind fun bt446 => (some (bt446.1, bt446.2.1, bt446.2.2.1, bt446.2.2.2.1, bt446.2.2.2.2))) else (some (0, 0, 0, false, false)))
theorem impl_SpotOf.mono : ∀ a0 a1 k, LeO (impl_SpotOf.f k a0 a1) (impl_SpotOf.f (k + 1) a0 a1) := by
 intro a0 a1 k
 unfold impl_SpotOf.f
 repeat' first
   | (with_reducible exact impl_isNode.mono _ _ _)
   | (with_reducible exact impl_spotOf.mono _ _ _)
   | (with_reducible first | exact LeO.refl _ | exact LeO.none _ | refine LeO.ite ?_ ?_ | refine LeO.bind ?_ (fun _ => ?_))
   | exact impl_isNode.mono _ _ _
   | exact impl_spotOf.mono _ _ _ | exact LeO.none _ | refine LeO.ite ?_ ?_ | refine LeO.bind ?_ (fun _ => ?_)
set_option maxHeartbeats 8000000 in
set_option maxRecDepth 100000 in
theorem impl_SpotOf.calls (k : Nat) (A0 : Option Addr) (c0 : Nat) (l0 : List (S36)) (a1 : Int) (r1 : Int) (r2 : Int) (r3 : Int) (r4 : Bool) (r5 : Bool) (w : World) (hr0 : Kd.C k36 w A0 l0.length l0) (hc0 : l0.length ≤ c0) (h : impl_SpotOf.f k l0 a1 = some (r1, r2, r3, r4, r5)) :
  Calls Try.prog 11 #[.slice A0 l0.length c0, .int .i64 a1] w fun e w' => e = .returned (.tuple #[.agg #[.int .i64 r1, .int .i64 r2, .int .i64 r3, .bool r4], .bool r5]) ∧ Below w.heap.size w w' := by
 have hu24 := Try.underlying24
 have HR0 := Aside0.mk hr0
 have HC0 := Aside0.mk hc0
 clear hr0 hc0
 have HB := Aside0.mk (Below.refl w.heap.size w)
 have H : ((impl_isNode.f k l0 a1).bind fun t445 => (if t445 = true then ((impl_spotOf.f k l0 a1).bind fun bt446 => (some (bt446.1, bt446.2.1, bt446.2.2.1, bt446.2.2.2.1, bt446.2.2.2.2))) else (some (0, 0, 0, false, false)))) = some (r1, r2, r3, r4, r5) := h
 clear h
 replace H := Option.bind_eq_some_iff.mp H
 obtain ⟨t445, A30, H⟩ := H
 replace H : (if t445 = true then ((impl_spotOf.f k l0 a1).bind fun bt446 => (some (bt446.1, bt446.2.1, bt446.2.2.1, bt446.2.2.2.1, bt446.2.2.2.2))) else (some (0, 0, 0, false, false))) = some (r1, r2, r3, r4, r5) := H
 have A3 := Aside0.mk A30
 clear A30
 by_cases c4 : t445 = true
 ·subst c4
  have H1 : ((impl_spotOf.f k l0 a1).bind fun bt446 => (some (bt446.1, bt446.2.1, bt446.2.2.1, bt446.2.2.2.1, bt446.2.2.2.2))) = some (r1, r2, r3, r4, r5) := by rw [if_pos rfl] at H; exact H
  clear H
  have H := H1
  clear H1
  replace H := Option.bind_eq_some_iff.mp H
  obtain ⟨⟨t446, t447, t448, t449, t450⟩, A50, H⟩ := H
  replace H : (some (t446, t447, t448, t449, t450)) = some (r1, r2, r3, r4, r5) := H
  have A5 := Aside0.mk A50
  clear A50
  simp only [Option.some.injEq, Prod.mk.injEq] at H
  obtain ⟨rfl, rfl, rfl, rfl, rfl⟩ := H
  go_enter Try.func11, Try.ntmps11
  go_wp2_with (first | ((with_reducible refine gate_dst (N := 4) rfl ?_); refine box_event rfl (N := 4) rfl (cs := #[.int .i64 0, .int .i64 0, .int .i64 0, .bool false]) (t := 24) sE ?_; intro gb444 hg w6 hbox hb; have BK444 := Aside0.mk hbox; have GW444 := gS w hg (lU); have GE444 := gS w hg (lU); replace HB := bH (lU) hb; clear hb hbox hg) | ((with_reducible refine gate_callee (f := 20) rfl ?_); refine goesL_ (some 8) rfl rfl Try.func20 (by kernel_rfl) rfl #[.slice A0 l0.length c0, .int .i64 a1] rfl aE ?_; (with_reducible refine (impl_isNode.calls k _ _ l0 a1 true _ ?side1 ?side2 A3.out).mono ?_); (case side1 => exact cU (Kd.C_below HR0.out HB.out)); (case side2 => exact HC0.out); rintro e w7 ⟨rfl, hb⟩; refine ⟨_, rfl, ?_⟩; replace BK444 := bB (bV BK444) hb; replace HB := bH (lV1 GE444) hb; (try clear hb)) | ((with_reducible refine gate_callee (f := 22) rfl ?_); refine goesL_ (some 13) rfl rfl Try.func22 (by kernel_rfl) rfl #[.slice A0 l0.length c0, .int .i64 a1] rfl aE ?_; (with_reducible refine (impl_spotOf.calls k _ _ l0 a1 t446 t447 t448 t449 t450 _ ?side1 ?side2 A5.out).mono ?_); (case side1 => exact cU (Kd.C_below HR0.out HB.out)); (case side2 => exact HC0.out); rintro e w8 ⟨rfl, hb⟩; refine ⟨_, rfl, ?_⟩; replace BK444 := bB (bV BK444) hb; replace HB := bH (lV1 GE444) hb; (try clear hb); have hcz9_0 := cz BK444 0 (.int .i64 0); have hcz9_1 := cz BK444 1 (.int .i64 0); have hcz9_2 := cz BK444 2 (.int .i64 0); have hcz9_3 := cz BK444 3 (.bool false); have hfz9_0 := fz BK444 0; have hfz9_1 := fz BK444 1; have hfz9_2 := fz BK444 2; have hfz9_3 := fz BK444 3) | ((with_reducible refine gate_store (t := 24) (p := 4) rfl ?_); refine store_event (t := 24) (p := 4) (v := ?vo_w10) (w1 := ((((w8.setCell ⟨gb444, 0, none⟩ (.int .i64 t446)).setCell ⟨gb444, 1, none⟩ (.int .i64 t447)).setCell ⟨gb444, 2, none⟩ (.int .i64 t448)).setCell ⟨gb444, 3, none⟩ (.bool t449))) ?hg ?ho ?hn ?hr ?_; (case ho => rfl); (case hg => rfl); (case hn => rfl); (case hr => first | (go_simp; done) | (go_simp; rfl) | (have hq0_ := (blk_cell BK444.out 0).trans (show _ = some _ from rfl); have hf0_ := blk_frozen BK444.out 0; have hq1_ := (blk_cell BK444.out 1).trans (show _ = some _ from rfl); have hf1_ := blk_frozen BK444.out 1; have hq2_ := (blk_cell BK444.out 2).trans (show _ = some _ from rfl); have hf2_ := blk_frozen BK444.out 2; have hq3_ := (blk_cell BK444.out 3).trans (show _ = some _ from rfl); have hf3_ := blk_frozen BK444.out 3; first | (go_simp; done) | (go_simp; rfl))); intro w10 hw; replace BK444 : Aside0 (w10.heap[gb444]? = some (.cells #[.int .i64 t446, .int .i64 t447, .int .i64 t448, .bool t449] 24 (0, 0))) := ⟨(by rw [hw]; exact (by refine bU ?_; refine blk_put (cs := #[.int .i64 t446, .int .i64 t447, .int .i64 t448, .bool false]) ?_ 3 _ rfl; refine bU ?_; refine blk_put (cs := #[.int .i64 t446, .int .i64 t447, .int .i64 0, .bool false]) ?_ 2 _ rfl; refine bU ?_; refine blk_put (cs := #[.int .i64 t446, .int .i64 0, .int .i64 0, .bool false]) ?_ 1 _ rfl; refine bU ?_; refine blk_put (cs := #[.int .i64 0, .int .i64 0, .int .i64 0, .bool false]) ?_ 0 _ rfl; refine bU ?_; exact BK444.out))⟩; replace HB : Aside0 (Below w.heap.size w w10) := ⟨(by rw [hw]; exact (lV1 GE444))⟩; clear hw))
  refine bodyPost_ret (results_ct rfl _ _ gb444 24 #[.int .i64 t446, .int .i64 t447, .int .i64 t448, .bool t449] (0, 0) _ rfl (bV BK444) Try.underlying24 rfl (by kernel_rfl)) rfl ?_
  exact ⟨eE, lV1 GE444⟩
 ·replace c4 := Bool.eq_false_iff.mpr c4
  subst c4
  have H1 : (some (0, 0, 0, false, false)) = some (r1, r2, r3, r4, r5) := by rw [if_neg (show ¬ (false = true) by decide)] at H; exact H
  clear H
  have H := H1
  clear H1
  simp only [Option.some.injEq, Prod.mk.injEq] at H
  obtain ⟨rfl, rfl, rfl, rfl, rfl⟩ := H
  go_enter Try.func11, Try.ntmps11
  go_wp2_with (first | ((with_reducible refine gate_dst (N := 4) rfl ?_); refine box_event rfl (N := 4) rfl (cs := #[.int .i64 0, .int .i64 0, .int .i64 0, .bool false]) (t := 24) sE ?_; intro gb444 hg w11 hbox hb; have BK444 := Aside0.mk hbox; have GW444 := gS w hg (lU); have GE444 := gS w hg (lU); replace HB := bH (lU) hb; clear hb hbox hg) | ((with_reducible refine gate_callee (f := 20) rfl ?_); refine goesL_ (some 8) rfl rfl Try.func20 (by kernel_rfl) rfl #[.slice A0 l0.length c0, .int .i64 a1] rfl aE ?_; (with_reducible refine (impl_isNode.calls k _ _ l0 a1 false _ ?side1 ?side2 A3.out).mono ?_); (case side1 => exact cU (Kd.C_below HR0.out HB.out)); (case side2 => exact HC0.out); rintro e w12 ⟨rfl, hb⟩; refine ⟨_, rfl, ?_⟩; replace BK444 := bB (bV BK444) hb; replace HB := bH (lV1 GE444) hb; (try clear hb); have hcz13_0 := cz BK444 0 (.int .i64 0); have hcz13_1 := cz BK444 1 (.int .i64 0); have hcz13_2 := cz BK444 2 (.int .i64 0); have hcz13_3 := cz BK444 3 (.bool false); have hfz13_0 := fz BK444 0; have hfz13_1 := fz BK444 1; have hfz13_2 := fz BK444 2; have hfz13_3 := fz BK444 3) | ((with_reducible refine gate_store (t := 24) (p := 4) rfl ?_); refine store_event (t := 24) (p := 4) (v := ?vo_w14) (w1 := ((((w12.setCell ⟨gb444, 0, none⟩ (.int .i64 0)).setCell ⟨gb444, 1, none⟩ (.int .i64 0)).setCell ⟨gb444, 2, none⟩ (.int .i64 0)).setCell ⟨gb444, 3, none⟩ (.bool false))) ?hg ?ho ?hn ?hr ?_; (case ho => rfl); (case hg => rfl); (case hn => rfl); (case hr => first | (go_simp; done) | (go_simp; rfl) | (have hq0_ := (blk_cell BK444.out 0).trans (show _ = some _ from rfl); have hf0_ := blk_frozen BK444.out 0; have hq1_ := (blk_cell BK444.out 1).trans (show _ = some _ from rfl); have hf1_ := blk_frozen BK444.out 1; have hq2_ := (blk_cell BK444.out 2).trans (show _ = some _ from rfl); have hf2_ := blk_frozen BK444.out 2; have hq3_ := (blk_cell BK444.out 3).trans (show _ = some _ from rfl); have hf3_ := blk_frozen BK444.out 3; first | (go_simp; done) | (go_simp; rfl))); intro w14 hw; replace BK444 : Aside0 (w14.heap[gb444]? = some (.cells #[.int .i64 0, .int .i64 0, .int .i64 0, .bool false] 24 (0, 0))) := ⟨(by rw [hw]; exact (by refine bU ?_; refine blk_put (cs := #[.int .i64 0, .int .i64 0, .int .i64 0, .bool false]) ?_ 3 _ rfl; refine bU ?_; refine blk_put (cs := #[.int .i64 0, .int .i64 0, .int .i64 0, .bool false]) ?_ 2 _ rfl; refine bU ?_; refine blk_put (cs := #[.int .i64 0, .int .i64 0, .int .i64 0, .bool false]) ?_ 1 _ rfl; refine bU ?_; refine blk_put (cs := #[.int .i64 0, .int .i64 0, .int .i64 0, .bool false]) ?_ 0 _ rfl; refine bU ?_; exact BK444.out))⟩; replace HB : Aside0 (Below w.heap.size w w14) := ⟨(by rw [hw]; exact (lV1 GE444))⟩; clear hw))
  refine bodyPost_ret (results_ct rfl _ _ gb444 24 #[.int .i64 0, .int .i64 0, .int .i64 0, .bool false] (0, 0) _ rfl (bV BK444) Try.underlying24 rfl (by kernel_rfl)) rfl ?_
  exact ⟨eE, lV1 GE444⟩
end Go.Proofs.Ytmmgmbmjlbdpnaa.PFnPlaced
