/- Texts of the row of the law FnExactAddTimer, laid together. -/
import Derived.Test.YtjmcahjcgfflgaaZFnExactAddTimer3
namespace Go.Proofs.Ytjmcahjcgfflgaa.PFnExactAddTimer
open Go.RowKit Go.Proofs.YtjmcahjcgfflgaaW.PrintWords Go.Proofs.YtjmcahjcgfflgaaW.PrintLast Go.Proofs.YtjmcahjcgfflgaaW.PrintMore
attribute [local go_sem] max2_int min2_int max_two min_two max_three min_three max_four min_four   -- for this text's walks alone
set_option linter.unusedVariables false
set_option linter.unusedSimpArgs false
mutual
def spec_AddTimer.l0 : Nat → List (S34) → Bool → List (S34) → Int → Int → Int → List (S34) → Int → Int → Int → Int → Option (Int × (List (S34)) × Bool)
 | 0, _, _, _, _, _, _, _, _, _, _, _ => none
 | k + 1, x6, x7, x16, x17, x18, x116000, x116001, x117000, x117001, x117002, x117003 => if x18 < x17 then (if 0 ≤ x18 then (if x18 < (x16.length : Int) then (if x7 = true then (spec_AddTimer.j1 k x6 x7 x16 x17 x18 false x116000 x116001 x117000 x117001 x117002 x117003 ((rd_T34 x16 x18).f0) ((rd_T34 x16 x18).f1) ((rd_T34 x16 x18).f2) ((rd_T34 x16 x18).f3)) else (spec_AddTimer.j1 k x6 x7 x16 x17 x18 (decide (((rd_T34 x16 x18).f0) ≥ x117000)) x116000 x116001 x117000 x117001 x117002 x117003 ((rd_T34 x16 x18).f0) ((rd_T34 x16 x18).f1) ((rd_T34 x16 x18).f2) ((rd_T34 x16 x18).f3))) else (none)) else (none)) else (if x7 = true then ((spec_GoodClock.f k x116000 x6).bind fun t131 => (if t131 = true then (some (x116000, x6, true)) else (some (0, ([] : List (S34)), false)))) else (if x6.length < 4398046511104 then ((some (x6 ++ [(⟨x117000, x117001, x117002, x117003⟩ : S34)] : List (S34))).bind fun y132 => ((spec_GoodClock.f k x116000 y132).bind fun t136 => (if t136 = true then (some (x116000, y132, true)) else (some (0, ([] : List (S34)), false))))) else (none)))
def spec_AddTimer.j1 : Nat → List (S34) → Bool → List (S34) → Int → Int → Bool → Int → List (S34) → Int → Int → Int → Int → Int → Int → Int → Int → Option (Int × (List (S34)) × Bool)
 | 0, _, _, _, _, _, _, _, _, _, _, _, _, _, _, _, _ => none
 | k + 1, x6, x7, x16, x17, x18, x30, x116000, x116001, x117000, x117001, x117002, x117003, x121000, x121001, x121002, x121003 => if x30 = true then (if x6.length < 4398046511104 then ((some (x6 ++ [(⟨x117000, x117001, x117002, x117003⟩ : S34)] : List (S34))).bind fun y121 => (if x121000 = x117000 then (spec_AddTimer.l0 k y121 true x16 x17 (wrap64 (x18 + 1)) x116000 x116001 x117000 x117001 x117002 x117003) else (if y121.length < 4398046511104 then (spec_AddTimer.l0 k (y121 ++ [(⟨x121000, x121001, x121002, x121003⟩ : S34)]) true x16 x17 (wrap64 (x18 + 1)) x116000 x116001 x117000 x117001 x117002 x117003) else (none)))) else (none)) else (if x121000 = x117000 then (spec_AddTimer.l0 k x6 x7 x16 x17 (wrap64 (x18 + 1)) x116000 x116001 x117000 x117001 x117002 x117003) else (if x6.length < 4398046511104 then (spec_AddTimer.l0 k (x6 ++ [(⟨x121000, x121001, x121002, x121003⟩ : S34)]) x7 x16 x17 (wrap64 (x18 + 1)) x116000 x116001 x117000 x117001 x117002 x117003) else (none)))
end
def spec_AddTimer.f (k : Nat) (a0_0 : Int) (l0_1 : List (S34)) (a1_0 : Int) (a1_1 : Int) (a1_2 : Int) (a1_3 : Int) : Option (Int × (List (S34)) × Bool) := (spec_GoodClock.f k a0_0 l0_1).bind fun t118 => (if t118 = true then (spec_AddTimer.l0 k ([] : List (S34)) false l0_1 (l0_1.length : Int) 0 a0_0 l0_1 a1_0 a1_1 a1_2 a1_3) else (some (0, ([] : List (S34)), false)))
theorem spec_AddTimer.mono_l : ∀ k, (∀ y0 y1 y2 y3 y4 y5 y6 y7 y8 y9 y10, LeO (spec_AddTimer.l0 k y0 y1 y2 y3 y4 y5 y6 y7 y8 y9 y10) (spec_AddTimer.l0 (k + 1) y0 y1 y2 y3 y4 y5 y6 y7 y8 y9 y10)) ∧ (∀ y0 y1 y2 y3 y4 y5 y6 y7 y8 y9 y10 y11 y12 y13 y14 y15, LeO (spec_AddTimer.j1 k y0 y1 y2 y3 y4 y5 y6 y7 y8 y9 y10 y11 y12 y13 y14 y15) (spec_AddTimer.j1 (k + 1) y0 y1 y2 y3 y4 y5 y6 y7 y8 y9 y10 y11 y12 y13 y14 y15))
 | 0 => ⟨fun _ _ _ _ _ _ _ _ _ _ _ r h => by simp [spec_AddTimer.l0] at h, fun _ _ _ _ _ _ _ _ _ _ _ _ _ _ _ _ r h => by simp [spec_AddTimer.j1] at h⟩
 | k + 1 => by
  obtain ⟨ih0, ih1⟩ := spec_AddTimer.mono_l k
  refine ⟨?_, ?_⟩
  ·intro y0 y1 y2 y3 y4 y5 y6 y7 y8 y9 y10
   unfold spec_AddTimer.l0
   repeat' first
   | (with_reducible exact ih0 _ _ _ _ _ _ _ _ _ _ _)
   | (with_reducible exact ih1 _ _ _ _ _ _ _ _ _ _ _ _ _ _ _ _)
   | (with_reducible exact spec_GoodClock.mono _ _ _)
   | (with_reducible exact LeO.refl _)
   | (with_reducible exact LeO.none _)
   | (with_reducible refine LeO.ite ?_ ?_)
   | (with_reducible refine LeO.bind ?_ (fun _ => ?_))
   | exact ih0 _ _ _ _ _ _ _ _ _ _ _
   | exact ih1 _ _ _ _ _ _ _ _ _ _ _ _ _ _ _ _
   | exact spec_GoodClock.mono _ _ _
   | exact LeO.none _
   | refine LeO.ite ?_ ?_
   | refine LeO.bind ?_ (fun _ => ?_)
  ·intro y0 y1 y2 y3 y4 y5 y6 y7 y8 y9 y10 y11 y12 y13 y14 y15
   unfold spec_AddTimer.j1
   repeat' first
   | (with_reducible exact ih0 _ _ _ _ _ _ _ _ _ _ _)
   | (with_reducible exact ih1 _ _ _ _ _ _ _ _ _ _ _ _ _ _ _ _)
   | (with_reducible exact spec_GoodClock.mono _ _ _)
   | (with_reducible exact LeO.refl _)
   | (with_reducible exact LeO.none _)
   | (with_reducible refine LeO.ite ?_ ?_)
   | (with_reducible refine LeO.bind ?_ (fun _ => ?_))
   | exact ih0 _ _ _ _ _ _ _ _ _ _ _
   | exact ih1 _ _ _ _ _ _ _ _ _ _ _ _ _ _ _ _
   | exact spec_GoodClock.mono _ _ _
   | exact LeO.none _
   | refine LeO.ite ?_ ?_
   | refine LeO.bind ?_ (fun _ => ?_)
theorem spec_AddTimer.mono : ∀ a0 a1 a2 a3 a4 a5 k, LeO (spec_AddTimer.f k a0 a1 a2 a3 a4 a5) (spec_AddTimer.f (k + 1) a0 a1 a2 a3 a4 a5) := by
 intro a0 a1 a2 a3 a4 a5 k
 obtain ⟨ih0, ih1⟩ := spec_AddTimer.mono_l k
 unfold spec_AddTimer.f
 repeat' first
   | (with_reducible exact ih0 _ _ _ _ _ _ _ _ _ _ _)
   | (with_reducible exact ih1 _ _ _ _ _ _ _ _ _ _ _ _ _ _ _ _)
   | (with_reducible exact spec_GoodClock.mono _ _ _)
   | (with_reducible exact LeO.refl _)
   | (with_reducible exact LeO.none _)
   | (with_reducible refine LeO.ite ?_ ?_)
   | (with_reducible refine LeO.bind ?_ (fun _ => ?_))
   | exact ih0 _ _ _ _ _ _ _ _ _ _ _
   | exact ih1 _ _ _ _ _ _ _ _ _ _ _ _ _ _ _ _
   | exact spec_GoodClock.mono _ _ _
   | exact LeO.none _
   | refine LeO.ite ?_ ?_
   | refine LeO.bind ?_ (fun _ => ?_)
set_option maxHeartbeats 8000000 in
set_option maxRecDepth 100000 in
theorem spec_AddTimer.calls (k : Nat) (a0_0 : Int) (A0_1 : Option Addr) (c0_1 : Nat) (l0_1 : List (S34)) (a1_0 : Int) (a1_1 : Int) (a1_2 : Int) (a1_3 : Int) (r1 : Int) (r2 : List (S34)) (r3 : Bool) (w : World) (hr0_1 : Kd.C k34 w A0_1 l0_1.length l0_1) (hc0_1 : l0_1.length ≤ c0_1) (h : spec_AddTimer.f k a0_0 l0_1 a1_0 a1_1 a1_2 a1_3 = some (r1, r2, r3)) :
  Calls Try.prog 7 #[.agg #[.int .i64 a0_0, .slice A0_1 l0_1.length c0_1], .agg #[.int .i64 a1_0, .int .i64 a1_1, .int .i64 a1_2, .int .i64 a1_3]] w fun e w' => ∃ v1_ : Value, e = .returned (.tuple #[.agg #[.int .i64 r1, v1_], .bool r3]) ∧ Kd.R k34 34 w' w.heap.size (fun _ => True) v1_ r2 ∧ Below w.heap.size w w' := by
 have hu30 := Try.underlying30
 have hu34 := Try.underlying34
 have HR0_1 := Aside0.mk hr0_1
 have HC0_1 := Aside0.mk hc0_1
 clear hr0_1 hc0_1
 have HB := Aside0.mk (Below.refl w.heap.size w)
 have H : ((spec_GoodClock.f k a0_0 l0_1).bind fun t118 => (if t118 = true then (spec_AddTimer.l0 k ([] : List (S34)) false l0_1 (l0_1.length : Int) 0 a0_0 l0_1 a1_0 a1_1 a1_2 a1_3) else (some (0, ([] : List (S34)), false)))) = some (r1, r2, r3) := h
 clear h
 replace H := Option.bind_eq_some_iff.mp H
 obtain ⟨t118, A30, H⟩ := H
 replace H : (if t118 = true then (spec_AddTimer.l0 k ([] : List (S34)) false l0_1 (l0_1.length : Int) 0 a0_0 l0_1 a1_0 a1_1 a1_2 a1_3) else (some (0, ([] : List (S34)), false))) = some (r1, r2, r3) := H
 have A3 := Aside0.mk A30
 clear A30
 by_cases c4 : t118 = true
 ·subst c4
  have H1 : (spec_AddTimer.l0 k ([] : List (S34)) false l0_1 (l0_1.length : Int) 0 a0_0 l0_1 a1_0 a1_1 a1_2 a1_3) = some (r1, r2, r3) := by rw [if_pos rfl] at H; exact H
  clear H
  have H := H1
  clear H1
  have H' := Aside0.mk H
  clear H
  go_enter Try.func7, Try.ntmps7
  go_wp2_with (first | ((with_reducible refine gate_dst (N := 2) rfl ?_); refine box_event rfl (N := 2) rfl (cs := #[.int .i64 a0_0, .slice A0_1 l0_1.length c0_1]) (t := 30) sE ?_; intro gb115 hg w5 hbox hb; have BK115 := Aside0.mk hbox; have GW115 := gS w hg (lU); have GE115 := gS w hg (lU); replace HB := bH (lU) hb; clear hb hbox hg) | ((with_reducible refine gate_dst (N := 3) rfl ?_); refine box_event rfl (N := 3) rfl (cs := #[.int .i64 a1_0, .int .i64 a1_1, .int .i64 a1_2, .int .i64 a1_3]) (t := 34) sE ?_; intro gb116 hg w6 hbox hb; have BK116 := Aside0.mk hbox; have GW116 := gS w hg (lV1 GE115); have GE116 := gS w hg (lV1 GE115); replace HB := bH (lV1 GE115) hb; have NB115_116 := nL hg (bV BK115); have NB116_115 := nG hg (bV BK115); replace BK115 := bB (bV BK115) hb; clear hb hbox hg) | ((with_reducible refine gate_dst (N := 4) rfl ?_); refine box_event rfl (N := 4) rfl (cs := #[.int .i64 0, .slice none 0 0]) (t := 30) sE ?_; intro gb117 hg w7 hbox hb; have BK117 := Aside0.mk hbox; have GW117 := gS w hg (lV2 GE115 GE116); have GE117 := gS w hg (lV2 GE115 GE116); replace HB := bH (lV2 GE115 GE116) hb; have NB115_117 := nL hg (bV BK115); have NB117_115 := nG hg (bV BK115); replace BK115 := bB (bV BK115) hb; have NB116_117 := nL hg (bV BK116); have NB117_116 := nG hg (bV BK116); replace BK116 := bB (bV BK116) hb; clear hb hbox hg; have hnb8 := NB115_116.out; have hnc8 := NB116_115.out; have hnb9 := NB115_117.out; have hnc9 := NB117_115.out; have hcz10_0 := cz BK115 0 (.int .i64 a0_0); have hcz10_1 := cz BK115 1 (.slice A0_1 l0_1.length c0_1); have hfz10_0 := fz BK115 0; have hfz10_1 := fz BK115 1) | ((with_reducible refine gate_callee (f := 23) rfl ?_); refine goesL_ (some 12) rfl rfl Try.func23 (by kernel_rfl) rfl #[.agg #[.int .i64 a0_0, .slice A0_1 l0_1.length c0_1]] rfl aE ?_; (with_reducible refine (spec_GoodClock.calls k a0_0 _ _ l0_1 true _ ?side1 ?side2 A3.out).mono ?_); (case side1 => exact cU (Kd.C_below HR0_1.out HB.out)); (case side2 => exact HC0_1.out); rintro e w11 ⟨rfl, hb⟩; refine ⟨_, rfl, ?_⟩; replace BK115 := bB (bV BK115) hb; replace BK116 := bB (bV BK116) hb; replace BK117 := bB (bV BK117) hb; replace HB := bH (lV3 GE115 GE116 GE117) hb; (try clear hb); have hcz12_0 := cz BK115 0 (.int .i64 a0_0); have hcz12_1 := cz BK115 1 (.slice A0_1 l0_1.length c0_1); have hfz12_0 := fz BK115 0; have hfz12_1 := fz BK115 1))
  (try simp only [Act.put, List.setIfInBounds_toArray, List.set_cons_zero, List.set_cons_succ])
  go_loopg [6, 7, 18] k (fun kq v6 v7 v18 w' => ∃ (x6_1 : List (S34)) (x7_1 : Bool) (x18_1 : Int), v7 = .bool x7_1 ∧ v18 = .int .i64 x18_1 ∧ Aside0 (spec_AddTimer.l0 kq x6_1 x7_1 l0_1 (l0_1.length : Int) x18_1 a0_0 l0_1 a1_0 a1_1 a1_2 a1_3 = some (r1, r2, r3)) ∧ Aside0 (kq ≤ k) ∧ Aside0 (Kd.R k34 34 w' w.heap.size (fun k_ => k_ ≠ gb116) v6 x6_1) ∧ Aside0 (w'.heap[gb115]? = some (.cells #[.int .i64 a0_0, (.slice A0_1 l0_1.length c0_1)] 30 (0, 0))) ∧ Aside0 (w'.heap[gb116]? = some (.cells #[.int .i64 a1_0, .int .i64 a1_1, .int .i64 a1_2, .int .i64 a1_3] 34 (0, 0))) ∧ Aside0 (w'.heap[gb117]? = some (.cells #[.int .i64 0, (.slice none 0 0)] 30 (0, 0))) ∧ Aside0 (Below w.heap.size w w'))
  case atStart => exact ⟨(([] : List (S34))), (false), (0), tE, tE, H', ⟨Nat.le_refl _⟩, ⟨by first | exact Kd.R_nil _ _ _ _ _ | exact Kd.N_nil _ _ _ _ _ | exact Kd.V_nil _ _ _ _ _ | exact Kd.Q_nil _ _ _ _ _ | exact Kd.S_nil _ _ _ _ _⟩, ⟨by refine bU ?_; exact BK115.out⟩, ⟨by refine bU ?_; exact BK116.out⟩, ⟨by refine bU ?_; exact BK117.out⟩, ⟨by repeat (first | (with_reducible first | exact HB.out | apply below_alloc | apply pw_below_drewN | apply below_drew1 | refine below_set ?_ GE115.out | refine below_set ?_ GE116.out | refine below_set ?_ GE117.out) | exact HB.out)⟩⟩
  case round =>
   clear H'
   try clear c2
   try clear p2
   try clear c4
   try clear c7
   try clear c8
   try clear c9
   try clear hcz10_0
   try clear hcz10_1
   try clear hcz12_0
   try clear hcz12_1
   try clear hfz10_0
   try clear hfz10_1
   try clear hfz12_0
   try clear hfz12_1
   obtain ⟨x6_1, x7_1, x18_1, rfl, rfl, HA, HK1, HO_6, BK115, BK116, BK117, HB⟩ := hrel
   cases gk with
   | zero => exact absurd HA.out (by simp [spec_AddTimer.l0])
   | succ k1 =>
    have H := HA.out
    clear HA
    simp only [spec_AddTimer.l0] at H
    by_cases c13 : x18_1 < (l0_1.length : Int)
    ·rw [if_pos c13] at H
     have c13b0 : decide (x18_1 < (l0_1.length : Int)) = true := decide_eq_true c13
     clear c13
     by_cases c14 : 0 ≤ x18_1
     ·rw [if_pos c14] at H
      have c14b0 : decide (0 ≤ x18_1) = true := decide_eq_true c14
      clear c14
      by_cases c15 : x18_1 < (l0_1.length : Int)
      ·rw [if_pos c15] at H
       have c15b0 : decide (x18_1 < (l0_1.length : Int)) = true := decide_eq_true c15
       clear c15
       have HC16 := Aside0.mk H
       clear H
       have p119 : 0 ≤ (x18_1 : Int) := of_decide_eq_true hE
       have q119 : x18_1 < (l0_1.length : Int) := of_decide_eq_true hE
       obtain ⟨ad119, e119, hx119_0, hx119_1, hx119_2, hx119_3⟩ := at_T34 HR0_1.out x18_1 p119 q119
       cases e119
       replace hx119_0 := (HB.out.cell (World.block_lt_of_cell? w _ hx119_0)).trans hx119_0
       replace hx119_1 := (HB.out.cell (World.block_lt_of_cell? w _ hx119_1)).trans hx119_1
       replace hx119_2 := (HB.out.cell (World.block_lt_of_cell? w _ hx119_2)).trans hx119_2
       replace hx119_3 := (HB.out.cell (World.block_lt_of_cell? w _ hx119_3)).trans hx119_3
       replace p119 := eq_true p119
       replace q119 := eq_true q119
       go_upto_region 8 with (first | ((with_reducible refine gate_dst (N := 9) rfl ?_); refine box_event rfl (N := 9) rfl (cs := #[.int .i64 0, .int .i64 0, .int .i64 0, .int .i64 0]) (t := 34) sE ?_; intro gb120 hg w17 hbox hb; replace HO_6 := Aside0.mk (Kd.R_below (Kd.R_elderB (rU HO_6.out) gb120 (Nat.le_of_eq hg.symm)) hb); have BK120 := Aside0.mk hbox; have GW120 := gS w hg (lV3 GE115 GE116 GE117); have GE120 := gS w hg (lV3 GE115 GE116 GE117); replace HB := bH (lV3 GE115 GE116 GE117) hb; have NB115_120 := nL hg (bV BK115); have NB120_115 := nG hg (bV BK115); replace BK115 := bB (bV BK115) hb; have NB116_120 := nL hg (bV BK116); have NB120_116 := nG hg (bV BK116); replace BK116 := bB (bV BK116) hb; have NB117_120 := nL hg (bV BK117); have NB120_117 := nG hg (bV BK117); replace BK117 := bB (bV BK117) hb; clear hb hbox hg; have hnb18 := NB120_115.out; have hnc18 := NB115_120.out; have hnb19 := NB120_116.out; have hnc19 := NB116_120.out; have hnb20 := NB120_117.out; have hnc20 := NB117_120.out; have hcz21_0 := cz BK120 0 (.int .i64 0); have hcz21_1 := cz BK120 1 (.int .i64 0); have hcz21_2 := cz BK120 2 (.int .i64 0); have hcz21_3 := cz BK120 3 (.int .i64 0); have hfz21_0 := fz BK120 0; have hfz21_1 := fz BK120 1; have hfz21_2 := fz BK120 2; have hfz21_3 := fz BK120 3) | ((with_reducible refine gate_store (t := 34) (p := 9) rfl ?_); refine store_event (t := 34) (p := 9) (v := ?vo_w22) (w1 := ((((w17.setCell ⟨gb120, 0, none⟩ (.int .i64 ((rd_T34 l0_1 x18_1).f0))).setCell ⟨gb120, 1, none⟩ (.int .i64 ((rd_T34 l0_1 x18_1).f1))).setCell ⟨gb120, 2, none⟩ (.int .i64 ((rd_T34 l0_1 x18_1).f2))).setCell ⟨gb120, 3, none⟩ (.int .i64 ((rd_T34 l0_1 x18_1).f3)))) ?hg ?ho ?hn ?hr ?_; (case ho => rfl); (case hg => rfl); (case hn => rfl); (case hr => first | (go_simp; done) | (go_simp; rfl) | (have hq0_ := (blk_cell BK120.out 0).trans (show _ = some _ from rfl); have hf0_ := blk_frozen BK120.out 0; have hq1_ := (blk_cell BK120.out 1).trans (show _ = some _ from rfl); have hf1_ := blk_frozen BK120.out 1; have hq2_ := (blk_cell BK120.out 2).trans (show _ = some _ from rfl); have hf2_ := blk_frozen BK120.out 2; have hq3_ := (blk_cell BK120.out 3).trans (show _ = some _ from rfl); have hf3_ := blk_frozen BK120.out 3; first | (go_simp; done) | (go_simp; rfl))); intro w22 hw; replace HO_6 : Aside0 (Kd.R k34 34 w22 w.heap.size (fun k_ => k_ ≠ gb116 ∧ k_ ≠ gb120) u6 x6_1) := ⟨(by rw [hw]; exact (by (with_reducible repeat (first | apply Kd.R_alloc | apply Kd.R_drewN | apply Kd.R_drew)); exact Kd.R_mono (Kd.R_far (p := ⟨gb120, 3, none⟩) (Kd.R_far (p := ⟨gb120, 2, none⟩) (Kd.R_far (p := ⟨gb120, 1, none⟩) (Kd.R_far (p := ⟨gb120, 0, none⟩) (Kd.R_mono HO_6.out (fun k_ hk => (⟨hk, hk.2⟩ : _ ∧ k_ ≠ gb120))) (fun _ hk => hk.2) (.int .i64 ((rd_T34 l0_1 x18_1).f0))) (fun _ hk => hk.2) (.int .i64 ((rd_T34 l0_1 x18_1).f1))) (fun _ hk => hk.2) (.int .i64 ((rd_T34 l0_1 x18_1).f2))) (fun _ hk => hk.2) (.int .i64 ((rd_T34 l0_1 x18_1).f3))) (fun _ hk => ⟨hk.1.1, hk.1.2⟩)))⟩; replace BK115 : Aside0 (w22.heap[gb115]? = some (.cells #[.int .i64 a0_0, .slice (some ad119) l0_1.length c0_1] 30 (0, 0))) := ⟨(by rw [hw]; exact (bG NB115_120 BK115))⟩; replace BK116 : Aside0 (w22.heap[gb116]? = some (.cells #[.int .i64 a1_0, .int .i64 a1_1, .int .i64 a1_2, .int .i64 a1_3] 34 (0, 0))) := ⟨(by rw [hw]; exact (bG NB116_120 BK116))⟩; replace BK117 : Aside0 (w22.heap[gb117]? = some (.cells #[.int .i64 0, .slice none 0 0] 30 (0, 0))) := ⟨(by rw [hw]; exact (bG NB117_120 BK117))⟩; replace BK120 : Aside0 (w22.heap[gb120]? = some (.cells #[.int .i64 ((rd_T34 l0_1 x18_1).f0), .int .i64 ((rd_T34 l0_1 x18_1).f1), .int .i64 ((rd_T34 l0_1 x18_1).f2), .int .i64 ((rd_T34 l0_1 x18_1).f3)] 34 (0, 0))) := ⟨(by rw [hw]; exact (by refine bU ?_; refine blk_put (cs := #[.int .i64 ((rd_T34 l0_1 x18_1).f0), .int .i64 ((rd_T34 l0_1 x18_1).f1), .int .i64 ((rd_T34 l0_1 x18_1).f2), .int .i64 0]) ?_ 3 _ rfl; refine bU ?_; refine blk_put (cs := #[.int .i64 ((rd_T34 l0_1 x18_1).f0), .int .i64 ((rd_T34 l0_1 x18_1).f1), .int .i64 0, .int .i64 0]) ?_ 2 _ rfl; refine bU ?_; refine blk_put (cs := #[.int .i64 ((rd_T34 l0_1 x18_1).f0), .int .i64 0, .int .i64 0, .int .i64 0]) ?_ 1 _ rfl; refine bU ?_; refine blk_put (cs := #[.int .i64 0, .int .i64 0, .int .i64 0, .int .i64 0]) ?_ 0 _ rfl; refine bU ?_; exact BK120.out))⟩; replace HB : Aside0 (Below w.heap.size w w22) := ⟨(by rw [hw]; exact (lV4 GE115 GE116 GE117 GE120))⟩; clear hw))
       (try simp only [Act.put, List.setIfInBounds_toArray, List.set_cons_zero, List.set_cons_succ])
       go_cut [30] (fun v30 wc => ∃ (kq : Nat) (x30_15 : Bool), v30 = .bool x30_15 ∧ Aside0 (spec_AddTimer.j1 kq x6_1 x7_1 l0_1 (l0_1.length : Int) x18_1 x30_15 a0_0 l0_1 a1_0 a1_1 a1_2 a1_3 ((rd_T34 l0_1 x18_1).f0) ((rd_T34 l0_1 x18_1).f1) ((rd_T34 l0_1 x18_1).f2) ((rd_T34 l0_1 x18_1).f3) = some (r1, r2, r3)) ∧ Aside0 (kq ≤ k1) ∧ Aside0 (Kd.R k34 34 wc w.heap.size (fun k_ => k_ ≠ gb116 ∧ k_ ≠ gb120) u6 x6_1) ∧ Aside0 (wc.heap[gb115]? = some (.cells #[.int .i64 a0_0, (.slice (some ad119) l0_1.length c0_1)] 30 (0, 0))) ∧ Aside0 (wc.heap[gb116]? = some (.cells #[.int .i64 a1_0, .int .i64 a1_1, .int .i64 a1_2, .int .i64 a1_3] 34 (0, 0))) ∧ Aside0 (wc.heap[gb117]? = some (.cells #[.int .i64 0, (.slice none 0 0)] 30 (0, 0))) ∧ Aside0 (wc.heap[gb120]? = some (.cells #[.int .i64 ((rd_T34 l0_1 x18_1).f0), .int .i64 ((rd_T34 l0_1 x18_1).f1), .int .i64 ((rd_T34 l0_1 x18_1).f2), .int .i64 ((rd_T34 l0_1 x18_1).f3)] 34 (0, 0))) ∧ Aside0 (Below w.heap.size w wc))
       case first =>
        have H := HC16.out
        clear HC16
        by_cases c23 : x7_1 = true
        ·subst c23
         have H1 : (spec_AddTimer.j1 k1 x6_1 true l0_1 (l0_1.length : Int) x18_1 false a0_0 l0_1 a1_0 a1_1 a1_2 a1_3 ((rd_T34 l0_1 x18_1).f0) ((rd_T34 l0_1 x18_1).f1) ((rd_T34 l0_1 x18_1).f2) ((rd_T34 l0_1 x18_1).f3)) = some (r1, r2, r3) := by rw [if_pos rfl] at H; exact H
         clear H
         have H := H1
         clear H1
         have H' := Aside0.mk H
         clear H
         go_wp2
         go_meet
         case rel => exact ⟨_, (false), tE, H', ⟨by have := HK1.out; first | omega | exact Nat.le_refl _⟩, ⟨by (with_reducible repeat (first | apply Kd.R_alloc | apply Kd.R_drewN | apply Kd.R_drew)); exact HO_6.out⟩, ⟨by refine bU ?_; exact BK115.out⟩, ⟨by refine bU ?_; exact BK116.out⟩, ⟨by refine bU ?_; exact BK117.out⟩, ⟨by refine bU ?_; exact BK120.out⟩, ⟨by repeat (first | (with_reducible first | exact HB.out | apply below_alloc | apply pw_below_drewN | apply below_drew1 | refine below_set ?_ GE115.out | refine below_set ?_ GE116.out | refine below_set ?_ GE117.out | refine below_set ?_ GE120.out) | exact HB.out)⟩⟩
        ·replace c23 := Bool.eq_false_iff.mpr c23
         subst c23
         have H1 : (spec_AddTimer.j1 k1 x6_1 false l0_1 (l0_1.length : Int) x18_1 (decide (((rd_T34 l0_1 x18_1).f0) ≥ a1_0)) a0_0 l0_1 a1_0 a1_1 a1_2 a1_3 ((rd_T34 l0_1 x18_1).f0) ((rd_T34 l0_1 x18_1).f1) ((rd_T34 l0_1 x18_1).f2) ((rd_T34 l0_1 x18_1).f3)) = some (r1, r2, r3) := by rw [if_neg (show ¬ (false = true) by decide)] at H; exact H
         clear H
         have H := H1
         clear H1
         have H' := Aside0.mk H
         clear H
         have hnb24 := NB120_115.out
         have hnc24 := NB115_120.out
         have hnb25 := NB120_116.out
         have hnc25 := NB116_120.out
         have hnb26 := NB120_117.out
         have hnc26 := NB117_120.out
         have hcz27_0 := cz BK120 0 (.int .i64 ((rd_T34 l0_1 x18_1).f0))
         have hcz27_1 := cz BK120 1 (.int .i64 ((rd_T34 l0_1 x18_1).f1))
         have hcz27_2 := cz BK120 2 (.int .i64 ((rd_T34 l0_1 x18_1).f2))
         have hcz27_3 := cz BK120 3 (.int .i64 ((rd_T34 l0_1 x18_1).f3))
         have hfz27_0 := fz BK120 0
         have hfz27_1 := fz BK120 1
         have hfz27_2 := fz BK120 2
         have hfz27_3 := fz BK120 3
         have hnb28 := NB116_115.out
         have hnc28 := NB115_116.out
         have hnb29 := NB116_117.out
         have hnc29 := NB117_116.out
         have hcz30_0 := cz BK116 0 (.int .i64 a1_0)
         have hcz30_1 := cz BK116 1 (.int .i64 a1_1)
         have hcz30_2 := cz BK116 2 (.int .i64 a1_2)
         have hcz30_3 := cz BK116 3 (.int .i64 a1_3)
         have hfz30_0 := fz BK116 0
         have hfz30_1 := fz BK116 1
         have hfz30_2 := fz BK116 2
         have hfz30_3 := fz BK116 3
         go_wp2
         go_meet
         case rel => exact ⟨_, (decide (((rd_T34 l0_1 x18_1).f0) ≥ a1_0)), tE, H', ⟨by have := HK1.out; first | omega | exact Nat.le_refl _⟩, ⟨by (with_reducible repeat (first | apply Kd.R_alloc | apply Kd.R_drewN | apply Kd.R_drew)); exact HO_6.out⟩, ⟨by refine bU ?_; exact BK115.out⟩, ⟨by refine bU ?_; exact BK116.out⟩, ⟨by refine bU ?_; exact BK117.out⟩, ⟨by refine bU ?_; exact BK120.out⟩, ⟨by repeat (first | (with_reducible first | exact HB.out | apply below_alloc | apply pw_below_drewN | apply below_drew1 | refine below_set ?_ GE115.out | refine below_set ?_ GE116.out | refine below_set ?_ GE117.out | refine below_set ?_ GE120.out) | exact HB.out)⟩⟩
       case rest =>
        clear HC16
        try clear c1
        try clear p1
        try clear q1
        try clear hx1
        try clear c2
        try clear p2
        try clear q2
        try clear hf2
        try clear q3
        try clear hf3
        try clear c4
        try clear c7
        try clear c8
        try clear c9
        try clear p11
        try clear q11
        try clear hx11
        try clear c13
        try clear c13b0
        try clear c14
        try clear c14b0
        try clear c15
        try clear c15b0
        try clear c18
        try clear c19
        try clear c20
        try clear c23
        try clear c24
        try clear c25
        try clear c26
        try clear c28
        try clear c29
        try clear hcz10_0
        try clear hcz10_1
        try clear hcz12_0
        try clear hcz12_1
        try clear hcz21_0
        try clear hcz21_1
        try clear hcz21_2
        try clear hcz21_3
        try clear hcz27_0
        try clear hcz27_1
        try clear hcz27_2
        try clear hcz27_3
        try clear hcz30_0
        try clear hcz30_1
        try clear hcz30_2
        try clear hcz30_3
        try clear hfz10_0
        try clear hfz10_1
        try clear hfz12_0
        try clear hfz12_1
        try clear hfz21_0
        try clear hfz21_1
        try clear hfz21_2
        try clear hfz21_3
        try clear hfz27_0
        try clear hfz27_1
        try clear hfz27_2
        try clear hfz27_3
        try clear hfz30_0
        try clear hfz30_1
        try clear hfz30_2
        try clear hfz30_3
        try clear hx119_0
        try clear hx119_1
        try clear hx119_2
        try clear hx119_3
        try clear p119
        try clear p2
        try clear q119
        obtain ⟨kq, x30_15, rfl, HA, HJ15, HO_6, BK115, BK116, BK117, BK120, HB⟩ := hcut
        cases kq with
        | zero => exact absurd HA.out (by simp [spec_AddTimer.j1])
        | succ kj15 =>
         have H := HA.out
         clear HA
         simp only [spec_AddTimer.j1] at H
         by_cases c31 : x30_15 = true
         ·subst c31
          have H1 : (if x6_1.length < 4398046511104 then ((some (x6_1 ++ [(⟨a1_0, a1_1, a1_2, a1_3⟩ : S34)] : List (S34))).bind fun y121 => (if ((rd_T34 l0_1 x18_1).f0) = a1_0 then (spec_AddTimer.l0 kj15 y121 true l0_1 (l0_1.length : Int) (wrap64 (x18_1 + 1)) a0_0 l0_1 a1_0 a1_1 a1_2 a1_3) else (if y121.length < 4398046511104 then (spec_AddTimer.l0 kj15 (y121 ++ [(⟨((rd_T34 l0_1 x18_1).f0), ((rd_T34 l0_1 x18_1).f1), ((rd_T34 l0_1 x18_1).f2), ((rd_T34 l0_1 x18_1).f3)⟩ : S34)]) true l0_1 (l0_1.length : Int) (wrap64 (x18_1 + 1)) a0_0 l0_1 a1_0 a1_1 a1_2 a1_3) else (none)))) else (none)) = some (r1, r2, r3) := by rw [if_pos rfl] at H; exact H
          clear H
          have H := H1
          clear H1
          by_cases c32 : x6_1.length < 4398046511104
          ·rw [if_pos c32] at H
           have LMc32 := Aside0.mk c32
           clear c32
           obtain ⟨y121, hy121⟩ : ∃ y_ : List (S34), y_ = (x6_1 ++ [(⟨a1_0, a1_1, a1_2, a1_3⟩ : S34)]) := ⟨_, rfl⟩
           replace H : (if ((rd_T34 l0_1 x18_1).f0) = a1_0 then (spec_AddTimer.l0 kj15 y121 true l0_1 (l0_1.length : Int) (wrap64 (x18_1 + 1)) a0_0 l0_1 a1_0 a1_1 a1_2 a1_3) else (if y121.length < 4398046511104 then (spec_AddTimer.l0 kj15 (y121 ++ [(⟨((rd_T34 l0_1 x18_1).f0), ((rd_T34 l0_1 x18_1).f1), ((rd_T34 l0_1 x18_1).f2), ((rd_T34 l0_1 x18_1).f3)⟩ : S34)]) true l0_1 (l0_1.length : Int) (wrap64 (x18_1 + 1)) a0_0 l0_1 a1_0 a1_1 a1_2 a1_3) else (none))) = some (r1, r2, r3) := by first | (rw [hy121]; with_reducible exact H) | (have H2_ := (Option.bind_some _ _).symm.trans H; rw [hy121]; with_reducible exact H2_) | (have H2_ := (Option.bind_some _ _).symm.trans H; with_reducible exact H2_) | with_reducible exact H | (rw [hy121]; exact H) | exact H
           have Ny121 := Aside0.mk hy121
           clear hy121
           by_cases c33 : ((rd_T34 l0_1 x18_1).f0) = a1_0
           ·rw [if_pos c33] at H
            have c33b0 : (((rd_T34 l0_1 x18_1).f0) == a1_0) = true := beq_iff_eq.mpr c33
            have c33b1 : (((rd_T34 l0_1 x18_1).f0) != a1_0) = false := bne_eq_false_iff_eq.mpr c33
            clear c33
            have H' := Aside0.mk H
            clear H
            have hnb34 := NB116_115.out
            have hnc34 := NB115_116.out
            have hnb35 := NB116_117.out
            have hnc35 := NB117_116.out
            have hnb36 := NB116_120.out
            have hnc36 := NB120_116.out
            have hcz37_0 := cz BK116 0 (.int .i64 a1_0)
            have hcz37_1 := cz BK116 1 (.int .i64 a1_1)
            have hcz37_2 := cz BK116 2 (.int .i64 a1_2)
            have hcz37_3 := cz BK116 3 (.int .i64 a1_3)
            have hfz37_0 := fz BK116 0
            have hfz37_1 := fz BK116 1
            have hfz37_2 := fz BK116 2
            have hfz37_3 := fz BK116 3
            go_wp2_with (first | ((with_reducible refine gate_builtin (b := .append) (xs := #[.tmp 31, .tmp 33]) rfl ?_); at_builtin; refine Kd.R_append k34 (w0 := w) w.heap.size rfl (.tmp 31) (.tmp 33) 28 34 (.agg #[(.int .i64 0), (.int .i64 0), (.int .i64 0), (.int .i64 0)]) 32 rfl Try.underlying28 info34 rfl (by decide) (by omega) u6 x6_1 (⟨a1_0, a1_1, a1_2, a1_3⟩ : S34) [.int .i64 a1_0, .int .i64 a1_1, .int .i64 a1_2, .int .i64 a1_3] (fun k_ => k_ ≠ gb116 ∧ k_ ≠ gb120) (fun _ => False) rfl rfl ?aP (fun _ hk => hk.elim) ?aF ?aO ?aB ?aS ?aL ?_; (case aP => exact k34_mkM _ _ _ (⟨a1_0, a1_1, a1_2, a1_3⟩ : S34)); (case aB => exact (lV4 GE115 GE116 GE117 GE120)); (case aF => exact (fun k_ hk => ⟨Kd.freshB (g := gb116) (o := .cells #[.int .i64 a1_0, .int .i64 a1_1, .int .i64 a1_2, .int .i64 a1_3] 34 (0, 0)) (bV BK116) k_ hk, Kd.freshB (g := gb120) (o := .cells #[.int .i64 ((rd_T34 l0_1 x18_1).f0), .int .i64 ((rd_T34 l0_1 x18_1).f1), .int .i64 ((rd_T34 l0_1 x18_1).f2), .int .i64 ((rd_T34 l0_1 x18_1).f3)] 34 (0, 0)) (bV BK120) k_ hk⟩)); (case aO => exact (rU HO_6.out)); (case aS => exact (below_size (lV4 GE115 GE116 GE117 GE120))); (case aL => have := LMc32.out; omega); intro v122 w38 ho hb hg hat; rw [← Ny121.out] at ho; replace BK115 := Aside0.mk (blk_grown (g := gb115) (o := .cells #[.int .i64 a0_0, .slice (some ad119) l0_1.length c0_1] 30 (0, 0)) (bV BK115) hg (Kd.R_ne HO_6.out BK115.out (by decide))); replace BK116 := Aside0.mk (blk_grown (g := gb116) (o := .cells #[.int .i64 a1_0, .int .i64 a1_1, .int .i64 a1_2, .int .i64 a1_3] 34 (0, 0)) (bV BK116) hg (Kd.R_away HO_6.out (fun _ hk => hk.1))); replace BK117 := Aside0.mk (blk_grown (g := gb117) (o := .cells #[.int .i64 0, .slice none 0 0] 30 (0, 0)) (bV BK117) hg (Kd.R_ne HO_6.out BK117.out (by decide))); replace BK120 := Aside0.mk (blk_grown (g := gb120) (o := .cells #[.int .i64 ((rd_T34 l0_1 x18_1).f0), .int .i64 ((rd_T34 l0_1 x18_1).f1), .int .i64 ((rd_T34 l0_1 x18_1).f2), .int .i64 ((rd_T34 l0_1 x18_1).f3)] 34 (0, 0)) (bV BK120) hg (Kd.R_away HO_6.out (fun _ hk => hk.2))); replace HB := Aside0.mk hb; have HO123 := Aside0.mk ho; clear HO_6; clear ho hb hg hat; have hnb39 := NB120_115.out; have hnc39 := NB115_120.out; have hnb40 := NB120_117.out; have hnc40 := NB117_120.out; have hcz41_0 := cz BK120 0 (.int .i64 ((rd_T34 l0_1 x18_1).f0)); have hcz41_1 := cz BK120 1 (.int .i64 ((rd_T34 l0_1 x18_1).f1)); have hcz41_2 := cz BK120 2 (.int .i64 ((rd_T34 l0_1 x18_1).f2)); have hcz41_3 := cz BK120 3 (.int .i64 ((rd_T34 l0_1 x18_1).f3)); have hfz41_0 := fz BK120 0; have hfz41_1 := fz BK120 1; have hfz41_2 := fz BK120 2; have hfz41_3 := fz BK120 3; have hcz42_0 := cz BK116 0 (.int .i64 a1_0); have hcz42_1 := cz BK116 1 (.int .i64 a1_1); have hcz42_2 := cz BK116 2 (.int .i64 a1_2); have hcz42_3 := cz BK116 3 (.int .i64 a1_3); have hfz42_0 := fz BK116 0; have hfz42_1 := fz BK116 1; have hfz42_2 := fz BK116 2; have hfz42_3 := fz BK116 3))
            go_roundg kj15
            case measure => have := HK1.out; have := HJ15.out; omega
            case rel => exact ⟨(y121), (true), (wrap64 (x18_1 + 1)), tE, tE, H', ⟨by have := HK1.out; have := HJ15.out; omega⟩, ⟨by (with_reducible repeat (first | apply Kd.R_alloc | apply Kd.R_drewN | apply Kd.R_drew)); exact Kd.R_mono HO123.out (fun _ hk => hk.1)⟩, ⟨by refine bU ?_; exact BK115.out⟩, ⟨by refine bU ?_; exact BK116.out⟩, ⟨by refine bU ?_; exact BK117.out⟩, ⟨by repeat (first | (with_reducible first | exact HB.out | apply below_alloc | apply pw_below_drewN | apply below_drew1 | refine below_set ?_ GE115.out | refine below_set ?_ GE116.out | refine below_set ?_ GE117.out | refine below_set ?_ GE120.out) | exact HB.out)⟩⟩
           ·rw [if_neg c33] at H
            have c33b0 : (((rd_T34 l0_1 x18_1).f0) == a1_0) = false := beq_eq_false_iff_ne.mpr c33
            have c33b1 : (((rd_T34 l0_1 x18_1).f0) != a1_0) = true := bne_iff_ne.mpr c33
            by_cases c43 : y121.length < 4398046511104
            ·rw [if_pos c43] at H
             have LMc43 := Aside0.mk c43
             clear c43
             obtain ⟨y124, hy124⟩ : ∃ y_ : List (S34), y_ = (y121 ++ [(⟨((rd_T34 l0_1 x18_1).f0), ((rd_T34 l0_1 x18_1).f1), ((rd_T34 l0_1 x18_1).f2), ((rd_T34 l0_1 x18_1).f3)⟩ : S34)]) := ⟨_, rfl⟩
             replace H : (spec_AddTimer.l0 kj15 y124 true l0_1 (l0_1.length : Int) (wrap64 (x18_1 + 1)) a0_0 l0_1 a1_0 a1_1 a1_2 a1_3) = some (r1, r2, r3) := by first | (rw [hy124]; with_reducible exact H) | (have H2_ := (Option.bind_some _ _).symm.trans H; rw [hy124]; with_reducible exact H2_) | (have H2_ := (Option.bind_some _ _).symm.trans H; with_reducible exact H2_) | with_reducible exact H | (rw [hy124]; exact H) | exact H
             have Ny124 := Aside0.mk hy124
             clear hy124
             have H' := Aside0.mk H
             clear H
             have hnb44 := NB116_115.out
             have hnc44 := NB115_116.out
             have hnb45 := NB116_117.out
             have hnc45 := NB117_116.out
             have hnb46 := NB116_120.out
             have hnc46 := NB120_116.out
             have hcz47_0 := cz BK116 0 (.int .i64 a1_0)
             have hcz47_1 := cz BK116 1 (.int .i64 a1_1)
             have hcz47_2 := cz BK116 2 (.int .i64 a1_2)
             have hcz47_3 := cz BK116 3 (.int .i64 a1_3)
             have hfz47_0 := fz BK116 0
             have hfz47_1 := fz BK116 1
             have hfz47_2 := fz BK116 2
             have hfz47_3 := fz BK116 3
             go_wp2_with (first | ((with_reducible refine gate_builtin (b := .append) (xs := #[.tmp 31, .tmp 33]) rfl ?_); at_builtin; refine Kd.R_append k34 (w0 := w) w.heap.size rfl (.tmp 31) (.tmp 33) 28 34 (.agg #[(.int .i64 0), (.int .i64 0), (.int .i64 0), (.int .i64 0)]) 32 rfl Try.underlying28 info34 rfl (by decide) (by omega) u6 x6_1 (⟨a1_0, a1_1, a1_2, a1_3⟩ : S34) [.int .i64 a1_0, .int .i64 a1_1, .int .i64 a1_2, .int .i64 a1_3] (fun k_ => k_ ≠ gb116 ∧ k_ ≠ gb120) (fun _ => False) rfl rfl ?aP (fun _ hk => hk.elim) ?aF ?aO ?aB ?aS ?aL ?_; (case aP => exact k34_mkM _ _ _ (⟨a1_0, a1_1, a1_2, a1_3⟩ : S34)); (case aB => exact (lV4 GE115 GE116 GE117 GE120)); (case aF => exact (fun k_ hk => ⟨Kd.freshB (g := gb116) (o := .cells #[.int .i64 a1_0, .int .i64 a1_1, .int .i64 a1_2, .int .i64 a1_3] 34 (0, 0)) (bV BK116) k_ hk, Kd.freshB (g := gb120) (o := .cells #[.int .i64 ((rd_T34 l0_1 x18_1).f0), .int .i64 ((rd_T34 l0_1 x18_1).f1), .int .i64 ((rd_T34 l0_1 x18_1).f2), .int .i64 ((rd_T34 l0_1 x18_1).f3)] 34 (0, 0)) (bV BK120) k_ hk⟩)); (case aO => exact (rU HO_6.out)); (case aS => exact (below_size (lV4 GE115 GE116 GE117 GE120))); (case aL => have := LMc32.out; omega); intro v122 w48 ho hb hg hat; rw [← Ny121.out] at ho; replace BK115 := Aside0.mk (blk_grown (g := gb115) (o := .cells #[.int .i64 a0_0, .slice (some ad119) l0_1.length c0_1] 30 (0, 0)) (bV BK115) hg (Kd.R_ne HO_6.out BK115.out (by decide))); replace BK116 := Aside0.mk (blk_grown (g := gb116) (o := .cells #[.int .i64 a1_0, .int .i64 a1_1, .int .i64 a1_2, .int .i64 a1_3] 34 (0, 0)) (bV BK116) hg (Kd.R_away HO_6.out (fun _ hk => hk.1))); replace BK117 := Aside0.mk (blk_grown (g := gb117) (o := .cells #[.int .i64 0, .slice none 0 0] 30 (0, 0)) (bV BK117) hg (Kd.R_ne HO_6.out BK117.out (by decide))); replace BK120 := Aside0.mk (blk_grown (g := gb120) (o := .cells #[.int .i64 ((rd_T34 l0_1 x18_1).f0), .int .i64 ((rd_T34 l0_1 x18_1).f1), .int .i64 ((rd_T34 l0_1 x18_1).f2), .int .i64 ((rd_T34 l0_1 x18_1).f3)] 34 (0, 0)) (bV BK120) hg (Kd.R_away HO_6.out (fun _ hk => hk.2))); replace HB := Aside0.mk hb; have HO123 := Aside0.mk ho; clear HO_6; clear ho hb hg hat; have hnb49 := NB120_115.out; have hnc49 := NB115_120.out; have hnb50 := NB120_117.out; have hnc50 := NB117_120.out; have hcz51_0 := cz BK120 0 (.int .i64 ((rd_T34 l0_1 x18_1).f0)); have hcz51_1 := cz BK120 1 (.int .i64 ((rd_T34 l0_1 x18_1).f1)); have hcz51_2 := cz BK120 2 (.int .i64 ((rd_T34 l0_1 x18_1).f2)); have hcz51_3 := cz BK120 3 (.int .i64 ((rd_T34 l0_1 x18_1).f3)); have hfz51_0 := fz BK120 0; have hfz51_1 := fz BK120 1; have hfz51_2 := fz BK120 2; have hfz51_3 := fz BK120 3; have hcz52_0 := cz BK116 0 (.int .i64 a1_0); have hcz52_1 := cz BK116 1 (.int .i64 a1_1); have hcz52_2 := cz BK116 2 (.int .i64 a1_2); have hcz52_3 := cz BK116 3 (.int .i64 a1_3); have hfz52_0 := fz BK116 0; have hfz52_1 := fz BK116 1; have hfz52_2 := fz BK116 2; have hfz52_3 := fz BK116 3) | ((with_reducible refine gate_builtin (b := .append) (xs := #[.tmp 40, .tmp 42]) rfl ?_); at_builtin; refine Kd.R_append k34 (w0 := w) w.heap.size rfl (.tmp 40) (.tmp 42) 28 34 (.agg #[(.int .i64 0), (.int .i64 0), (.int .i64 0), (.int .i64 0)]) 32 rfl Try.underlying28 info34 rfl (by decide) (by omega) v122 y121 (⟨((rd_T34 l0_1 x18_1).f0), ((rd_T34 l0_1 x18_1).f1), ((rd_T34 l0_1 x18_1).f2), ((rd_T34 l0_1 x18_1).f3)⟩ : S34) [.int .i64 ((rd_T34 l0_1 x18_1).f0), .int .i64 ((rd_T34 l0_1 x18_1).f1), .int .i64 ((rd_T34 l0_1 x18_1).f2), .int .i64 ((rd_T34 l0_1 x18_1).f3)] (fun k_ => k_ ≠ gb116 ∧ k_ ≠ gb120) (fun _ => False) rfl rfl ?aP (fun _ hk => hk.elim) ?aF ?aO ?aB ?aS ?aL ?_; (case aP => exact k34_mkM _ _ _ (⟨((rd_T34 l0_1 x18_1).f0), ((rd_T34 l0_1 x18_1).f1), ((rd_T34 l0_1 x18_1).f2), ((rd_T34 l0_1 x18_1).f3)⟩ : S34)); (case aB => exact (lV4 GE115 GE116 GE117 GE120)); (case aF => exact (fun k_ hk => ⟨Kd.freshB (g := gb116) (o := .cells #[.int .i64 a1_0, .int .i64 a1_1, .int .i64 a1_2, .int .i64 a1_3] 34 (0, 0)) (bV BK116) k_ hk, Kd.freshB (g := gb120) (o := .cells #[.int .i64 ((rd_T34 l0_1 x18_1).f0), .int .i64 ((rd_T34 l0_1 x18_1).f1), .int .i64 ((rd_T34 l0_1 x18_1).f2), .int .i64 ((rd_T34 l0_1 x18_1).f3)] 34 (0, 0)) (bV BK120) k_ hk⟩)); (case aO => exact (rU HO123.out)); (case aS => exact (below_size (lV4 GE115 GE116 GE117 GE120))); (case aL => have := LMc43.out; omega); intro v125 w53 ho hb hg hat; rw [← Ny124.out] at ho; replace BK115 := Aside0.mk (blk_grown (g := gb115) (o := .cells #[.int .i64 a0_0, .slice (some ad119) l0_1.length c0_1] 30 (0, 0)) (bV BK115) hg (Kd.R_ne HO123.out BK115.out (by decide))); replace BK116 := Aside0.mk (blk_grown (g := gb116) (o := .cells #[.int .i64 a1_0, .int .i64 a1_1, .int .i64 a1_2, .int .i64 a1_3] 34 (0, 0)) (bV BK116) hg (Kd.R_away HO123.out (fun _ hk => hk.1))); replace BK117 := Aside0.mk (blk_grown (g := gb117) (o := .cells #[.int .i64 0, .slice none 0 0] 30 (0, 0)) (bV BK117) hg (Kd.R_ne HO123.out BK117.out (by decide))); replace BK120 := Aside0.mk (blk_grown (g := gb120) (o := .cells #[.int .i64 ((rd_T34 l0_1 x18_1).f0), .int .i64 ((rd_T34 l0_1 x18_1).f1), .int .i64 ((rd_T34 l0_1 x18_1).f2), .int .i64 ((rd_T34 l0_1 x18_1).f3)] 34 (0, 0)) (bV BK120) hg (Kd.R_away HO123.out (fun _ hk => hk.2))); replace HB := Aside0.mk hb; have HO126 := Aside0.mk ho; clear HO123; clear ho hb hg hat))
             go_roundg kj15
             case measure => have := HK1.out; have := HJ15.out; omega
             case rel => exact ⟨(y124), (true), (wrap64 (x18_1 + 1)), tE, tE, H', ⟨by have := HK1.out; have := HJ15.out; omega⟩, ⟨by (with_reducible repeat (first | apply Kd.R_alloc | apply Kd.R_drewN | apply Kd.R_drew)); exact Kd.R_mono HO126.out (fun _ hk => hk.1)⟩, ⟨by refine bU ?_; exact BK115.out⟩, ⟨by refine bU ?_; exact BK116.out⟩, ⟨by refine bU ?_; exact BK117.out⟩, ⟨by repeat (first | (with_reducible first | exact HB.out | apply below_alloc | apply pw_below_drewN | apply below_drew1 | refine below_set ?_ GE115.out | refine below_set ?_ GE116.out | refine below_set ?_ GE117.out | refine below_set ?_ GE120.out) | exact HB.out)⟩⟩
            ·rw [if_neg c43] at H
             exact absurd H (by simp)
          ·rw [if_neg c32] at H
           exact absurd H (by simp)
         ·replace c31 := Bool.eq_false_iff.mpr c31
          subst c31
          have H1 : (if ((rd_T34 l0_1 x18_1).f0) = a1_0 then (spec_AddTimer.l0 kj15 x6_1 x7_1 l0_1 (l0_1.length : Int) (wrap64 (x18_1 + 1)) a0_0 l0_1 a1_0 a1_1 a1_2 a1_3) else (if x6_1.length < 4398046511104 then (spec_AddTimer.l0 kj15 (x6_1 ++ [(⟨((rd_T34 l0_1 x18_1).f0), ((rd_T34 l0_1 x18_1).f1), ((rd_T34 l0_1 x18_1).f2), ((rd_T34 l0_1 x18_1).f3)⟩ : S34)]) x7_1 l0_1 (l0_1.length : Int) (wrap64 (x18_1 + 1)) a0_0 l0_1 a1_0 a1_1 a1_2 a1_3) else (none))) = some (r1, r2, r3) := by rw [if_neg (show ¬ (false = true) by decide)] at H; exact H
          clear H
          have H := H1
          clear H1
          by_cases c54 : ((rd_T34 l0_1 x18_1).f0) = a1_0
          ·rw [if_pos c54] at H
           have c54b0 : (((rd_T34 l0_1 x18_1).f0) == a1_0) = true := beq_iff_eq.mpr c54
           have c54b1 : (((rd_T34 l0_1 x18_1).f0) != a1_0) = false := bne_eq_false_iff_eq.mpr c54
           clear c54
           have H' := Aside0.mk H
           clear H
           have hnb55 := NB120_115.out
           have hnc55 := NB115_120.out
           have hnb56 := NB120_116.out
           have hnc56 := NB116_120.out
           have hnb57 := NB120_117.out
           have hnc57 := NB117_120.out
           have hcz58_0 := cz BK120 0 (.int .i64 ((rd_T34 l0_1 x18_1).f0))
           have hcz58_1 := cz BK120 1 (.int .i64 ((rd_T34 l0_1 x18_1).f1))
           have hcz58_2 := cz BK120 2 (.int .i64 ((rd_T34 l0_1 x18_1).f2))
           have hcz58_3 := cz BK120 3 (.int .i64 ((rd_T34 l0_1 x18_1).f3))
           have hfz58_0 := fz BK120 0
           have hfz58_1 := fz BK120 1
           have hfz58_2 := fz BK120 2
           have hfz58_3 := fz BK120 3
           have hnb59 := NB116_115.out
           have hnc59 := NB115_116.out
           have hnb60 := NB116_117.out
           have hnc60 := NB117_116.out
           have hcz61_0 := cz BK116 0 (.int .i64 a1_0)
           have hcz61_1 := cz BK116 1 (.int .i64 a1_1)
           have hcz61_2 := cz BK116 2 (.int .i64 a1_2)
           have hcz61_3 := cz BK116 3 (.int .i64 a1_3)
           have hfz61_0 := fz BK116 0
           have hfz61_1 := fz BK116 1
           have hfz61_2 := fz BK116 2
           have hfz61_3 := fz BK116 3
           go_wp2
           go_roundg kj15
           case measure => have := HK1.out; have := HJ15.out; omega
           case rel => exact ⟨(x6_1), (x7_1), (wrap64 (x18_1 + 1)), tE, tE, H', ⟨by have := HK1.out; have := HJ15.out; omega⟩, ⟨by (with_reducible repeat (first | apply Kd.R_alloc | apply Kd.R_drewN | apply Kd.R_drew)); exact Kd.R_mono HO_6.out (fun _ hk => hk.1)⟩, ⟨by refine bU ?_; exact BK115.out⟩, ⟨by refine bU ?_; exact BK116.out⟩, ⟨by refine bU ?_; exact BK117.out⟩, ⟨by repeat (first | (with_reducible first | exact HB.out | apply below_alloc | apply pw_below_drewN | apply below_drew1 | refine below_set ?_ GE115.out | refine below_set ?_ GE116.out | refine below_set ?_ GE117.out | refine below_set ?_ GE120.out) | exact HB.out)⟩⟩
          ·rw [if_neg c54] at H
           have c54b0 : (((rd_T34 l0_1 x18_1).f0) == a1_0) = false := beq_eq_false_iff_ne.mpr c54
           have c54b1 : (((rd_T34 l0_1 x18_1).f0) != a1_0) = true := bne_iff_ne.mpr c54
           by_cases c62 : x6_1.length < 4398046511104
           ·rw [if_pos c62] at H
            have LMc62 := Aside0.mk c62
            clear c62
            obtain ⟨y127, hy127⟩ : ∃ y_ : List (S34), y_ = (x6_1 ++ [(⟨((rd_T34 l0_1 x18_1).f0), ((rd_T34 l0_1 x18_1).f1), ((rd_T34 l0_1 x18_1).f2), ((rd_T34 l0_1 x18_1).f3)⟩ : S34)]) := ⟨_, rfl⟩
            replace H : (spec_AddTimer.l0 kj15 y127 x7_1 l0_1 (l0_1.length : Int) (wrap64 (x18_1 + 1)) a0_0 l0_1 a1_0 a1_1 a1_2 a1_3) = some (r1, r2, r3) := by first | (rw [hy127]; with_reducible exact H) | (have H2_ := (Option.bind_some _ _).symm.trans H; rw [hy127]; with_reducible exact H2_) | (have H2_ := (Option.bind_some _ _).symm.trans H; with_reducible exact H2_) | with_reducible exact H | (rw [hy127]; exact H) | exact H
            have Ny127 := Aside0.mk hy127
            clear hy127
            have H' := Aside0.mk H
            clear H
            have hnb63 := NB120_115.out
            have hnc63 := NB115_120.out
            have hnb64 := NB120_116.out
            have hnc64 := NB116_120.out
            have hnb65 := NB120_117.out
            have hnc65 := NB117_120.out
            have hcz66_0 := cz BK120 0 (.int .i64 ((rd_T34 l0_1 x18_1).f0))
            have hcz66_1 := cz BK120 1 (.int .i64 ((rd_T34 l0_1 x18_1).f1))
            have hcz66_2 := cz BK120 2 (.int .i64 ((rd_T34 l0_1 x18_1).f2))
            have hcz66_3 := cz BK120 3 (.int .i64 ((rd_T34 l0_1 x18_1).f3))
            have hfz66_0 := fz BK120 0
            have hfz66_1 := fz BK120 1
            have hfz66_2 := fz BK120 2
            have hfz66_3 := fz BK120 3
            have hnb67 := NB116_115.out
            have hnc67 := NB115_116.out
            have hnb68 := NB116_117.out
            have hnc68 := NB117_116.out
            have hcz69_0 := cz BK116 0 (.int .i64 a1_0)
            have hcz69_1 := cz BK116 1 (.int .i64 a1_1)
            have hcz69_2 := cz BK116 2 (.int .i64 a1_2)
            have hcz69_3 := cz BK116 3 (.int .i64 a1_3)
            have hfz69_0 := fz BK116 0
            have hfz69_1 := fz BK116 1
            have hfz69_2 := fz BK116 2
            have hfz69_3 := fz BK116 3
            go_wp2_with (first | ((with_reducible refine gate_builtin (b := .append) (xs := #[.tmp 40, .tmp 42]) rfl ?_); at_builtin; refine Kd.R_append k34 (w0 := w) w.heap.size rfl (.tmp 40) (.tmp 42) 28 34 (.agg #[(.int .i64 0), (.int .i64 0), (.int .i64 0), (.int .i64 0)]) 32 rfl Try.underlying28 info34 rfl (by decide) (by omega) u6 x6_1 (⟨((rd_T34 l0_1 x18_1).f0), ((rd_T34 l0_1 x18_1).f1), ((rd_T34 l0_1 x18_1).f2), ((rd_T34 l0_1 x18_1).f3)⟩ : S34) [.int .i64 ((rd_T34 l0_1 x18_1).f0), .int .i64 ((rd_T34 l0_1 x18_1).f1), .int .i64 ((rd_T34 l0_1 x18_1).f2), .int .i64 ((rd_T34 l0_1 x18_1).f3)] (fun k_ => k_ ≠ gb116 ∧ k_ ≠ gb120) (fun _ => False) rfl rfl ?aP (fun _ hk => hk.elim) ?aF ?aO ?aB ?aS ?aL ?_; (case aP => exact k34_mkM _ _ _ (⟨((rd_T34 l0_1 x18_1).f0), ((rd_T34 l0_1 x18_1).f1), ((rd_T34 l0_1 x18_1).f2), ((rd_T34 l0_1 x18_1).f3)⟩ : S34)); (case aB => exact (lV4 GE115 GE116 GE117 GE120)); (case aF => exact (fun k_ hk => ⟨Kd.freshB (g := gb116) (o := .cells #[.int .i64 a1_0, .int .i64 a1_1, .int .i64 a1_2, .int .i64 a1_3] 34 (0, 0)) (bV BK116) k_ hk, Kd.freshB (g := gb120) (o := .cells #[.int .i64 ((rd_T34 l0_1 x18_1).f0), .int .i64 ((rd_T34 l0_1 x18_1).f1), .int .i64 ((rd_T34 l0_1 x18_1).f2), .int .i64 ((rd_T34 l0_1 x18_1).f3)] 34 (0, 0)) (bV BK120) k_ hk⟩)); (case aO => exact (rU HO_6.out)); (case aS => exact (below_size (lV4 GE115 GE116 GE117 GE120))); (case aL => have := LMc62.out; omega); intro v128 w70 ho hb hg hat; rw [← Ny127.out] at ho; replace BK115 := Aside0.mk (blk_grown (g := gb115) (o := .cells #[.int .i64 a0_0, .slice (some ad119) l0_1.length c0_1] 30 (0, 0)) (bV BK115) hg (Kd.R_ne HO_6.out BK115.out (by decide))); replace BK116 := Aside0.mk (blk_grown (g := gb116) (o := .cells #[.int .i64 a1_0, .int .i64 a1_1, .int .i64 a1_2, .int .i64 a1_3] 34 (0, 0)) (bV BK116) hg (Kd.R_away HO_6.out (fun _ hk => hk.1))); replace BK117 := Aside0.mk (blk_grown (g := gb117) (o := .cells #[.int .i64 0, .slice none 0 0] 30 (0, 0)) (bV BK117) hg (Kd.R_ne HO_6.out BK117.out (by decide))); replace BK120 := Aside0.mk (blk_grown (g := gb120) (o := .cells #[.int .i64 ((rd_T34 l0_1 x18_1).f0), .int .i64 ((rd_T34 l0_1 x18_1).f1), .int .i64 ((rd_T34 l0_1 x18_1).f2), .int .i64 ((rd_T34 l0_1 x18_1).f3)] 34 (0, 0)) (bV BK120) hg (Kd.R_away HO_6.out (fun _ hk => hk.2))); replace HB := Aside0.mk hb; have HO129 := Aside0.mk ho; clear HO_6; clear ho hb hg hat))
            go_roundg kj15
            case measure => have := HK1.out; have := HJ15.out; omega
            case rel => exact ⟨(y127), (x7_1), (wrap64 (x18_1 + 1)), tE, tE, H', ⟨by have := HK1.out; have := HJ15.out; omega⟩, ⟨by (with_reducible repeat (first | apply Kd.R_alloc | apply Kd.R_drewN | apply Kd.R_drew)); exact Kd.R_mono HO129.out (fun _ hk => hk.1)⟩, ⟨by refine bU ?_; exact BK115.out⟩, ⟨by refine bU ?_; exact BK116.out⟩, ⟨by refine bU ?_; exact BK117.out⟩, ⟨by repeat (first | (with_reducible first | exact HB.out | apply below_alloc | apply pw_below_drewN | apply below_drew1 | refine below_set ?_ GE115.out | refine below_set ?_ GE116.out | refine below_set ?_ GE117.out | refine below_set ?_ GE120.out) | exact HB.out)⟩⟩
           ·rw [if_neg c62] at H
            exact absurd H (by simp)
      ·rw [if_neg c15] at H
       exact absurd H (by simp)
     ·rw [if_neg c14] at H
      exact absurd H (by simp)
    ·rw [if_neg c13] at H
     have c13b0 : decide (x18_1 < (l0_1.length : Int)) = false := decide_eq_false c13
     clear c13
     by_cases c71 : x7_1 = true
     ·subst c71
      have H1 : ((spec_GoodClock.f k1 a0_0 x6_1).bind fun t131 => (if t131 = true then (some (a0_0, x6_1, true)) else (some (0, ([] : List (S34)), false)))) = some (r1, r2, r3) := by rw [if_pos rfl] at H; exact H
      clear H
      have H := H1
      clear H1
      replace H := Option.bind_eq_some_iff.mp H
      obtain ⟨t131, A720, H⟩ := H
      replace H : (if t131 = true then (some (a0_0, x6_1, true)) else (some (0, ([] : List (S34)), false))) = some (r1, r2, r3) := H
      have A72 := Aside0.mk A720
      clear A720
      by_cases c73 : t131 = true
      ·subst c73
       have H1 : (some (a0_0, x6_1, true)) = some (r1, r2, r3) := by rw [if_pos rfl] at H; exact H
       clear H
       have H := H1
       clear H1
       simp only [Option.some.injEq, Prod.mk.injEq] at H
       obtain ⟨rfl, rfl, rfl⟩ := H
       have hnb74 := NB115_116.out
       have hnc74 := NB116_115.out
       have hnb75 := NB115_117.out
       have hnc75 := NB117_115.out
       have hcz76_0 := cz BK115 0 (.int .i64 a0_0)
       have hcz76_1 := cz BK115 1 (.slice A0_1 l0_1.length c0_1)
       have hfz76_0 := fz BK115 0
       have hfz76_1 := fz BK115 1
       obtain ⟨Ao77, co77, eo77⟩ := Kd.R_slice HO_6.out
       subst eo77
       go_wp2_with (first | ((with_reducible refine gate_dst (N := 10) rfl ?_); refine box_event rfl (N := 10) rfl (cs := #[.int .i64 0, .slice none 0 0]) (t := 30) sE ?_; intro gb130 hg w78 hbox hb; replace HO_6 := Aside0.mk (Kd.R_below (rU HO_6.out) hb); have BK130 := Aside0.mk hbox; have GW130 := gS w hg (lV3 GE115 GE116 GE117); have GE130 := gS w hg (lV3 GE115 GE116 GE117); replace HB := bH (lV3 GE115 GE116 GE117) hb; have NB115_130 := nL hg (bV BK115); have NB130_115 := nG hg (bV BK115); replace BK115 := bB (bV BK115) hb; have NB116_130 := nL hg (bV BK116); have NB130_116 := nG hg (bV BK116); replace BK116 := bB (bV BK116) hb; have NB117_130 := nL hg (bV BK117); have NB130_117 := nG hg (bV BK117); replace BK117 := bB (bV BK117) hb; clear hb hbox hg; have hnb79 := NB130_115.out; have hnc79 := NB115_130.out; have hnb80 := NB130_116.out; have hnc80 := NB116_130.out; have hnb81 := NB130_117.out; have hnc81 := NB117_130.out; have hcz82_0 := cz BK130 0 (.int .i64 0); have hcz82_1 := cz BK130 1 (.slice none 0 0); have hfz82_0 := fz BK130 0; have hfz82_1 := fz BK130 1) | ((with_reducible refine gate_store (t := 30) (p := 10) rfl ?_); refine store_event (t := 30) (p := 10) (v := ?vo_w83) (w1 := ((w78.setCell ⟨gb130, 0, none⟩ (.int .i64 a0_0)).setCell ⟨gb130, 1, none⟩ (.slice Ao77 x6_1.length co77))) ?hg ?ho ?hn ?hr ?_; (case ho => rfl); (case hg => rfl); (case hn => rfl); (case hr => first | (go_simp; done) | (go_simp; rfl) | (have hq0_ := (blk_cell BK130.out 0).trans (show _ = some _ from rfl); have hf0_ := blk_frozen BK130.out 0; have hq1_ := (blk_cell BK130.out 1).trans (show _ = some _ from rfl); have hf1_ := blk_frozen BK130.out 1; first | (go_simp; done) | (go_simp; rfl))); intro w83 hw; replace HO_6 : Aside0 (Kd.R k34 34 w83 w.heap.size (fun k_ => k_ ≠ gb116) (.slice Ao77 x6_1.length co77) x6_1) := ⟨(by rw [hw]; exact (by (with_reducible repeat (first | apply Kd.R_alloc | apply Kd.R_drewN | apply Kd.R_drew)); exact Kd.R_mono (Kd.R_far (p := ⟨gb130, 1, none⟩) (Kd.R_far (p := ⟨gb130, 0, none⟩) (Kd.R_types HO_6.out BK130.out (by decide)) (fun _ hk => hk.2) (.int .i64 a0_0)) (fun _ hk => hk.2) (.slice Ao77 x6_1.length co77)) (fun _ hk => hk.1)))⟩; replace BK115 : Aside0 (w83.heap[gb115]? = some (.cells #[.int .i64 a0_0, .slice A0_1 l0_1.length c0_1] 30 (0, 0))) := ⟨(by rw [hw]; exact (bG NB115_130 BK115))⟩; replace BK116 : Aside0 (w83.heap[gb116]? = some (.cells #[.int .i64 a1_0, .int .i64 a1_1, .int .i64 a1_2, .int .i64 a1_3] 34 (0, 0))) := ⟨(by rw [hw]; exact (bG NB116_130 BK116))⟩; replace BK117 : Aside0 (w83.heap[gb117]? = some (.cells #[.int .i64 0, .slice none 0 0] 30 (0, 0))) := ⟨(by rw [hw]; exact (bG NB117_130 BK117))⟩; replace BK130 : Aside0 (w83.heap[gb130]? = some (.cells #[.int .i64 a0_0, .slice Ao77 x6_1.length co77] 30 (0, 0))) := ⟨(by rw [hw]; exact (by refine bU ?_; refine blk_put (cs := #[.int .i64 a0_0, .slice none 0 0]) ?_ 1 _ rfl; refine bU ?_; refine blk_put (cs := #[.int .i64 0, .slice none 0 0]) ?_ 0 _ rfl; refine bU ?_; exact BK130.out))⟩; replace HB : Aside0 (Below w.heap.size w w83) := ⟨(by rw [hw]; exact (lV4 GE115 GE116 GE117 GE130))⟩; clear hw; have hcz84_0 := cz BK130 0 (.int .i64 a0_0); have hcz84_1 := cz BK130 1 (.slice Ao77 x6_1.length co77); have hfz84_0 := fz BK130 0; have hfz84_1 := fz BK130 1) | ((with_reducible refine gate_callee (f := 23) rfl ?_); refine goesL_ (some 56) rfl rfl Try.func23 (by kernel_rfl) rfl #[.agg #[.int .i64 a0_0, .slice Ao77 x6_1.length co77]] rfl aE ?_; (with_reducible refine (spec_GoodClock.calls k1 a0_0 _ _ x6_1 true _ ?side1 ?side2 A72.out).mono ?_); (case side1 => exact cU (Kd.R_reads' HO_6.out).2.2); (case side2 => exact (Kd.R_reads' HO_6.out).2.1); rintro e w85 ⟨rfl, hb⟩; refine ⟨_, rfl, ?_⟩; replace HO_6 := Aside0.mk (Kd.R_below (rU HO_6.out) hb); replace BK115 := bB (bV BK115) hb; replace BK116 := bB (bV BK116) hb; replace BK117 := bB (bV BK117) hb; replace BK130 := bB (bV BK130) hb; replace HB := bH (lV4 GE115 GE116 GE117 GE130) hb; (try clear hb); have hcz86_0 := cz BK130 0 (.int .i64 a0_0); have hcz86_1 := cz BK130 1 (.slice Ao77 x6_1.length co77); have hfz86_0 := fz BK130 0; have hfz86_1 := fz BK130 1; have hnb87 := NB117_116.out; have hnc87 := NB116_117.out; have hcz88_0 := cz BK117 0 (.int .i64 0); have hcz88_1 := cz BK117 1 (.slice none 0 0); have hfz88_0 := fz BK117 0; have hfz88_1 := fz BK117 1) | ((with_reducible refine gate_store (t := 30) (p := 4) rfl ?_); refine store_event (t := 30) (p := 4) (v := ?vo_w89) (w1 := ((w85.setCell ⟨gb117, 0, none⟩ (.int .i64 a0_0)).setCell ⟨gb117, 1, none⟩ (.slice Ao77 x6_1.length co77))) ?hg ?ho ?hn ?hr ?_; (case ho => rfl); (case hg => rfl); (case hn => rfl); (case hr => first | (go_simp; done) | (go_simp; rfl) | (have hq0_ := (blk_cell BK117.out 0).trans (show _ = some _ from rfl); have hf0_ := blk_frozen BK117.out 0; have hq1_ := (blk_cell BK117.out 1).trans (show _ = some _ from rfl); have hf1_ := blk_frozen BK117.out 1; first | (go_simp; done) | (go_simp; rfl))); intro w89 hw; replace HO_6 : Aside0 (Kd.R k34 34 w89 w.heap.size (fun k_ => k_ ≠ gb116) (.slice Ao77 x6_1.length co77) x6_1) := ⟨(by rw [hw]; exact (by (with_reducible repeat (first | apply Kd.R_alloc | apply Kd.R_drewN | apply Kd.R_drew)); exact Kd.R_mono (Kd.R_far (p := ⟨gb117, 1, none⟩) (Kd.R_far (p := ⟨gb117, 0, none⟩) (Kd.R_types HO_6.out BK117.out (by decide)) (fun _ hk => hk.2) (.int .i64 a0_0)) (fun _ hk => hk.2) (.slice Ao77 x6_1.length co77)) (fun _ hk => hk.1)))⟩; replace BK115 : Aside0 (w89.heap[gb115]? = some (.cells #[.int .i64 a0_0, .slice A0_1 l0_1.length c0_1] 30 (0, 0))) := ⟨(by rw [hw]; exact (bG NB115_117 BK115))⟩; replace BK116 : Aside0 (w89.heap[gb116]? = some (.cells #[.int .i64 a1_0, .int .i64 a1_1, .int .i64 a1_2, .int .i64 a1_3] 34 (0, 0))) := ⟨(by rw [hw]; exact (bG NB116_117 BK116))⟩; replace BK117 : Aside0 (w89.heap[gb117]? = some (.cells #[.int .i64 a0_0, .slice Ao77 x6_1.length co77] 30 (0, 0))) := ⟨(by rw [hw]; exact (by refine bU ?_; refine blk_put (cs := #[.int .i64 a0_0, .slice none 0 0]) ?_ 1 _ rfl; refine bU ?_; refine blk_put (cs := #[.int .i64 0, .slice none 0 0]) ?_ 0 _ rfl; refine bU ?_; exact BK117.out))⟩; replace BK130 : Aside0 (w89.heap[gb130]? = some (.cells #[.int .i64 a0_0, .slice Ao77 x6_1.length co77] 30 (0, 0))) := ⟨(by rw [hw]; exact (bG NB130_117 BK130))⟩; replace HB : Aside0 (Below w.heap.size w w89) := ⟨(by rw [hw]; exact (lV4 GE115 GE116 GE117 GE130))⟩; clear hw))
       refine bodyPost_ret (results_ct rfl _ _ gb117 30 #[.int .i64 a0_0, .slice Ao77 x6_1.length co77] (0, 0) _ rfl (bV BK117) Try.underlying30 rfl (by kernel_rfl)) rfl ?_
       exact ⟨_, eE, by (with_reducible repeat (first | apply Kd.R_alloc | apply Kd.R_drewN | apply Kd.R_drew)); exact Kd.R_mono HO_6.out (fun _ hk => trivial), lV4 GE115 GE116 GE117 GE130⟩
      ·replace c73 := Bool.eq_false_iff.mpr c73
       subst c73
       have H1 : (some (0, ([] : List (S34)), false)) = some (r1, r2, r3) := by rw [if_neg (show ¬ (false = true) by decide)] at H; exact H
       clear H
       have H := H1
       clear H1
       simp only [Option.some.injEq, Prod.mk.injEq] at H
       obtain ⟨rfl, rfl, rfl⟩ := H
       have hnb90 := NB115_116.out
       have hnc90 := NB116_115.out
       have hnb91 := NB115_117.out
       have hnc91 := NB117_115.out
       have hcz92_0 := cz BK115 0 (.int .i64 a0_0)
       have hcz92_1 := cz BK115 1 (.slice A0_1 l0_1.length c0_1)
       have hfz92_0 := fz BK115 0
       have hfz92_1 := fz BK115 1
       obtain ⟨Ao93, co93, eo93⟩ := Kd.R_slice HO_6.out
       subst eo93
       go_wp2_with (first | ((with_reducible refine gate_dst (N := 10) rfl ?_); refine box_event rfl (N := 10) rfl (cs := #[.int .i64 0, .slice none 0 0]) (t := 30) sE ?_; intro gb130 hg w94 hbox hb; replace HO_6 := Aside0.mk (Kd.R_below (rU HO_6.out) hb); have BK130 := Aside0.mk hbox; have GW130 := gS w hg (lV3 GE115 GE116 GE117); have GE130 := gS w hg (lV3 GE115 GE116 GE117); replace HB := bH (lV3 GE115 GE116 GE117) hb; have NB115_130 := nL hg (bV BK115); have NB130_115 := nG hg (bV BK115); replace BK115 := bB (bV BK115) hb; have NB116_130 := nL hg (bV BK116); have NB130_116 := nG hg (bV BK116); replace BK116 := bB (bV BK116) hb; have NB117_130 := nL hg (bV BK117); have NB130_117 := nG hg (bV BK117); replace BK117 := bB (bV BK117) hb; clear hb hbox hg; have hnb95 := NB130_115.out; have hnc95 := NB115_130.out; have hnb96 := NB130_116.out; have hnc96 := NB116_130.out; have hnb97 := NB130_117.out; have hnc97 := NB117_130.out; have hcz98_0 := cz BK130 0 (.int .i64 0); have hcz98_1 := cz BK130 1 (.slice none 0 0); have hfz98_0 := fz BK130 0; have hfz98_1 := fz BK130 1) | ((with_reducible refine gate_store (t := 30) (p := 10) rfl ?_); refine store_event (t := 30) (p := 10) (v := ?vo_w99) (w1 := ((w94.setCell ⟨gb130, 0, none⟩ (.int .i64 a0_0)).setCell ⟨gb130, 1, none⟩ (.slice Ao93 x6_1.length co93))) ?hg ?ho ?hn ?hr ?_; (case ho => rfl); (case hg => rfl); (case hn => rfl); (case hr => first | (go_simp; done) | (go_simp; rfl) | (have hq0_ := (blk_cell BK130.out 0).trans (show _ = some _ from rfl); have hf0_ := blk_frozen BK130.out 0; have hq1_ := (blk_cell BK130.out 1).trans (show _ = some _ from rfl); have hf1_ := blk_frozen BK130.out 1; first | (go_simp; done) | (go_simp; rfl))); intro w99 hw; replace HO_6 : Aside0 (Kd.R k34 34 w99 w.heap.size (fun k_ => k_ ≠ gb116) (.slice Ao93 x6_1.length co93) x6_1) := ⟨(by rw [hw]; exact (by (with_reducible repeat (first | apply Kd.R_alloc | apply Kd.R_drewN | apply Kd.R_drew)); exact Kd.R_mono (Kd.R_far (p := ⟨gb130, 1, none⟩) (Kd.R_far (p := ⟨gb130, 0, none⟩) (Kd.R_types HO_6.out BK130.out (by decide)) (fun _ hk => hk.2) (.int .i64 a0_0)) (fun _ hk => hk.2) (.slice Ao93 x6_1.length co93)) (fun _ hk => hk.1)))⟩; replace BK115 : Aside0 (w99.heap[gb115]? = some (.cells #[.int .i64 a0_0, .slice A0_1 l0_1.length c0_1] 30 (0, 0))) := ⟨(by rw [hw]; exact (bG NB115_130 BK115))⟩; replace BK116 : Aside0 (w99.heap[gb116]? = some (.cells #[.int .i64 a1_0, .int .i64 a1_1, .int .i64 a1_2, .int .i64 a1_3] 34 (0, 0))) := ⟨(by rw [hw]; exact (bG NB116_130 BK116))⟩; replace BK117 : Aside0 (w99.heap[gb117]? = some (.cells #[.int .i64 0, .slice none 0 0] 30 (0, 0))) := ⟨(by rw [hw]; exact (bG NB117_130 BK117))⟩; replace BK130 : Aside0 (w99.heap[gb130]? = some (.cells #[.int .i64 a0_0, .slice Ao93 x6_1.length co93] 30 (0, 0))) := ⟨(by rw [hw]; exact (by refine bU ?_; refine blk_put (cs := #[.int .i64 a0_0, .slice none 0 0]) ?_ 1 _ rfl; refine bU ?_; refine blk_put (cs := #[.int .i64 0, .slice none 0 0]) ?_ 0 _ rfl; refine bU ?_; exact BK130.out))⟩; replace HB : Aside0 (Below w.heap.size w w99) := ⟨(by rw [hw]; exact (lV4 GE115 GE116 GE117 GE130))⟩; clear hw; have hcz100_0 := cz BK130 0 (.int .i64 a0_0); have hcz100_1 := cz BK130 1 (.slice Ao93 x6_1.length co93); have hfz100_0 := fz BK130 0; have hfz100_1 := fz BK130 1) | ((with_reducible refine gate_callee (f := 23) rfl ?_); refine goesL_ (some 56) rfl rfl Try.func23 (by kernel_rfl) rfl #[.agg #[.int .i64 a0_0, .slice Ao93 x6_1.length co93]] rfl aE ?_; (with_reducible refine (spec_GoodClock.calls k1 a0_0 _ _ x6_1 false _ ?side1 ?side2 A72.out).mono ?_); (case side1 => exact cU (Kd.R_reads' HO_6.out).2.2); (case side2 => exact (Kd.R_reads' HO_6.out).2.1); rintro e w101 ⟨rfl, hb⟩; refine ⟨_, rfl, ?_⟩; replace HO_6 := Aside0.mk (Kd.R_below (rU HO_6.out) hb); replace BK115 := bB (bV BK115) hb; replace BK116 := bB (bV BK116) hb; replace BK117 := bB (bV BK117) hb; replace BK130 := bB (bV BK130) hb; replace HB := bH (lV4 GE115 GE116 GE117 GE130) hb; (try clear hb); have hnb102 := NB117_116.out; have hnc102 := NB116_117.out; have hcz103_0 := cz BK117 0 (.int .i64 0); have hcz103_1 := cz BK117 1 (.slice none 0 0); have hfz103_0 := fz BK117 0; have hfz103_1 := fz BK117 1) | ((with_reducible refine gate_store (t := 30) (p := 4) rfl ?_); refine store_event (t := 30) (p := 4) (v := ?vo_w104) (w1 := ((w101.setCell ⟨gb117, 0, none⟩ (.int .i64 0)).setCell ⟨gb117, 1, none⟩ (.slice none 0 0))) ?hg ?ho ?hn ?hr ?_; (case ho => rfl); (case hg => rfl); (case hn => rfl); (case hr => first | (go_simp; done) | (go_simp; rfl) | (have hq0_ := (blk_cell BK117.out 0).trans (show _ = some _ from rfl); have hf0_ := blk_frozen BK117.out 0; have hq1_ := (blk_cell BK117.out 1).trans (show _ = some _ from rfl); have hf1_ := blk_frozen BK117.out 1; first | (go_simp; done) | (go_simp; rfl))); intro w104 hw; replace HO_6 : Aside0 (Kd.R k34 34 w104 w.heap.size (fun k_ => k_ ≠ gb116) (.slice Ao93 x6_1.length co93) x6_1) := ⟨(by rw [hw]; exact (by (with_reducible repeat (first | apply Kd.R_alloc | apply Kd.R_drewN | apply Kd.R_drew)); exact Kd.R_mono (Kd.R_far (p := ⟨gb117, 1, none⟩) (Kd.R_far (p := ⟨gb117, 0, none⟩) (Kd.R_types HO_6.out BK117.out (by decide)) (fun _ hk => hk.2) (.int .i64 0)) (fun _ hk => hk.2) (.slice none 0 0)) (fun _ hk => hk.1)))⟩; replace BK115 : Aside0 (w104.heap[gb115]? = some (.cells #[.int .i64 a0_0, .slice A0_1 l0_1.length c0_1] 30 (0, 0))) := ⟨(by rw [hw]; exact (bG NB115_117 BK115))⟩; replace BK116 : Aside0 (w104.heap[gb116]? = some (.cells #[.int .i64 a1_0, .int .i64 a1_1, .int .i64 a1_2, .int .i64 a1_3] 34 (0, 0))) := ⟨(by rw [hw]; exact (bG NB116_117 BK116))⟩; replace BK117 : Aside0 (w104.heap[gb117]? = some (.cells #[.int .i64 0, .slice none 0 0] 30 (0, 0))) := ⟨(by rw [hw]; exact (by refine bU ?_; refine blk_put (cs := #[.int .i64 0, .slice none 0 0]) ?_ 1 _ rfl; refine bU ?_; refine blk_put (cs := #[.int .i64 0, .slice none 0 0]) ?_ 0 _ rfl; refine bU ?_; exact BK117.out))⟩; replace BK130 : Aside0 (w104.heap[gb130]? = some (.cells #[.int .i64 a0_0, .slice Ao93 x6_1.length co93] 30 (0, 0))) := ⟨(by rw [hw]; exact (bG NB130_117 BK130))⟩; replace HB : Aside0 (Below w.heap.size w w104) := ⟨(by rw [hw]; exact (lV4 GE115 GE116 GE117 GE130))⟩; clear hw))
       refine bodyPost_ret (results_ct rfl _ _ gb117 30 #[.int .i64 0, .slice none 0 0] (0, 0) _ rfl (bV BK117) Try.underlying30 rfl (by kernel_rfl)) rfl ?_
       exact ⟨_, eE, by first | exact Kd.R_nil _ _ _ _ _ | exact Kd.N_nil _ _ _ _ _ | exact Kd.V_nil _ _ _ _ _ | exact Kd.Q_nil _ _ _ _ _ | exact Kd.S_nil _ _ _ _ _, lV4 GE115 GE116 GE117 GE130⟩
     ·replace c71 := Bool.eq_false_iff.mpr c71
      subst c71
      have H1 : (if x6_1.length < 4398046511104 then ((some (x6_1 ++ [(⟨a1_0, a1_1, a1_2, a1_3⟩ : S34)] : List (S34))).bind fun y132 => ((spec_GoodClock.f k1 a0_0 y132).bind fun t136 => (if t136 = true then (some (a0_0, y132, true)) else (some (0, ([] : List (S34)), false))))) else (none)) = some (r1, r2, r3) := by rw [if_neg (show ¬ (false = true) by decide)] at H; exact H
      clear H
      have H := H1
      clear H1
      by_cases c105 : x6_1.length < 4398046511104
      ·rw [if_pos c105] at H
       have LMc105 := Aside0.mk c105
       clear c105
       obtain ⟨y132, hy132⟩ : ∃ y_ : List (S34), y_ = (x6_1 ++ [(⟨a1_0, a1_1, a1_2, a1_3⟩ : S34)]) := ⟨_, rfl⟩
       replace H : ((spec_GoodClock.f k1 a0_0 y132).bind fun t136 => (if t136 = true then (some (a0_0, y132, true)) else (some (0, ([] : List (S34)), false)))) = some (r1, r2, r3) := by first | (rw [hy132]; with_reducible exact H) | (have H2_ := (Option.bind_some _ _).symm.trans H; rw [hy132]; with_reducible exact H2_) | (have H2_ := (Option.bind_some _ _).symm.trans H; with_reducible exact H2_) | with_reducible exact H | (rw [hy132]; exact H) | exact H
       have Ny132 := Aside0.mk hy132
       clear hy132
       replace H := Option.bind_eq_some_iff.mp H
       obtain ⟨t136, A1060, H⟩ := H
       replace H : (if t136 = true then (some (a0_0, y132, true)) else (some (0, ([] : List (S34)), false))) = some (r1, r2, r3) := H
       have A106 := Aside0.mk A1060
       clear A1060
       by_cases c107 : t136 = true
       ·subst c107
        have H1 : (some (a0_0, y132, true)) = some (r1, r2, r3) := by rw [if_pos rfl] at H; exact H
        clear H
        have H := H1
        clear H1
        simp only [Option.some.injEq, Prod.mk.injEq] at H
        obtain ⟨rfl, rfl, rfl⟩ := H
        have hnb108 := NB116_115.out
        have hnc108 := NB115_116.out
        have hnb109 := NB116_117.out
        have hnc109 := NB117_116.out
        have hcz110_0 := cz BK116 0 (.int .i64 a1_0)
        have hcz110_1 := cz BK116 1 (.int .i64 a1_1)
        have hcz110_2 := cz BK116 2 (.int .i64 a1_2)
        have hcz110_3 := cz BK116 3 (.int .i64 a1_3)
        have hfz110_0 := fz BK116 0
        have hfz110_1 := fz BK116 1
        have hfz110_2 := fz BK116 2
        have hfz110_3 := fz BK116 3
        go_wp2_with (first | ((with_reducible refine gate_builtin (b := .append) (xs := #[.tmp 47, .tmp 49]) rfl ?_); at_builtin; refine Kd.R_append k34 (w0 := w) w.heap.size rfl (.tmp 47) (.tmp 49) 28 34 (.agg #[(.int .i64 0), (.int .i64 0), (.int .i64 0), (.int .i64 0)]) 32 rfl Try.underlying28 info34 rfl (by decide) (by omega) u6 x6_1 (⟨a1_0, a1_1, a1_2, a1_3⟩ : S34) [.int .i64 a1_0, .int .i64 a1_1, .int .i64 a1_2, .int .i64 a1_3] (fun k_ => k_ ≠ gb116) (fun _ => False) rfl rfl ?aP (fun _ hk => hk.elim) ?aF ?aO ?aB ?aS ?aL ?_; (case aP => exact k34_mkM _ _ _ (⟨a1_0, a1_1, a1_2, a1_3⟩ : S34)); (case aB => exact (lV3 GE115 GE116 GE117)); (case aF => exact (fun k_ hk => Kd.freshB (g := gb116) (o := .cells #[.int .i64 a1_0, .int .i64 a1_1, .int .i64 a1_2, .int .i64 a1_3] 34 (0, 0)) (bV BK116) k_ hk)); (case aO => exact (rU HO_6.out)); (case aS => exact (below_size (lV3 GE115 GE116 GE117))); (case aL => have := LMc105.out; omega); intro v133 w111 ho hb hg hat; rw [← Ny132.out] at ho; replace BK115 := Aside0.mk (blk_grown (g := gb115) (o := .cells #[.int .i64 a0_0, .slice A0_1 l0_1.length c0_1] 30 (0, 0)) (bV BK115) hg (Kd.R_ne HO_6.out BK115.out (by decide))); replace BK116 := Aside0.mk (blk_grown (g := gb116) (o := .cells #[.int .i64 a1_0, .int .i64 a1_1, .int .i64 a1_2, .int .i64 a1_3] 34 (0, 0)) (bV BK116) hg (Kd.R_away HO_6.out (fun _ hk => hk))); replace BK117 := Aside0.mk (blk_grown (g := gb117) (o := .cells #[.int .i64 0, .slice none 0 0] 30 (0, 0)) (bV BK117) hg (Kd.R_ne HO_6.out BK117.out (by decide))); replace HB := Aside0.mk hb; have HO134 := Aside0.mk ho; clear HO_6; clear ho hb hg hat; have hnb112 := NB115_117.out; have hnc112 := NB117_115.out; have hcz113_0 := cz BK115 0 (.int .i64 a0_0); have hcz113_1 := cz BK115 1 (.slice A0_1 l0_1.length c0_1); have hfz113_0 := fz BK115 0; have hfz113_1 := fz BK115 1; obtain ⟨Ao114, co114, eo114⟩ := Kd.R_slice HO134.out; subst eo114) | ((with_reducible refine gate_dst (N := 10) rfl ?_); refine box_event rfl (N := 10) rfl (cs := #[.int .i64 0, .slice none 0 0]) (t := 30) sE ?_; intro gb135 hg w115 hbox hb; replace HO134 := Aside0.mk (Kd.R_below (rU HO134.out) hb); have BK135 := Aside0.mk hbox; have GW135 := gS w hg (lV3 GE115 GE116 GE117); have GE135 := gS w hg (lV3 GE115 GE116 GE117); replace HB := bH (lV3 GE115 GE116 GE117) hb; have NB115_135 := nL hg (bV BK115); have NB135_115 := nG hg (bV BK115); replace BK115 := bB (bV BK115) hb; have NB116_135 := nL hg (bV BK116); have NB135_116 := nG hg (bV BK116); replace BK116 := bB (bV BK116) hb; have NB117_135 := nL hg (bV BK117); have NB135_117 := nG hg (bV BK117); replace BK117 := bB (bV BK117) hb; clear hb hbox hg; have hnb116 := NB135_115.out; have hnc116 := NB115_135.out; have hnb117 := NB135_116.out; have hnc117 := NB116_135.out; have hnb118 := NB135_117.out; have hnc118 := NB117_135.out; have hcz119_0 := cz BK135 0 (.int .i64 0); have hcz119_1 := cz BK135 1 (.slice none 0 0); have hfz119_0 := fz BK135 0; have hfz119_1 := fz BK135 1) | ((with_reducible refine gate_store (t := 30) (p := 10) rfl ?_); refine store_event (t := 30) (p := 10) (v := ?vo_w120) (w1 := ((w115.setCell ⟨gb135, 0, none⟩ (.int .i64 a0_0)).setCell ⟨gb135, 1, none⟩ (.slice Ao114 y132.length co114))) ?hg ?ho ?hn ?hr ?_; (case ho => rfl); (case hg => rfl); (case hn => rfl); (case hr => first | (go_simp; done) | (go_simp; rfl) | (have hq0_ := (blk_cell BK135.out 0).trans (show _ = some _ from rfl); have hf0_ := blk_frozen BK135.out 0; have hq1_ := (blk_cell BK135.out 1).trans (show _ = some _ from rfl); have hf1_ := blk_frozen BK135.out 1; first | (go_simp; done) | (go_simp; rfl))); intro w120 hw; replace HO134 : Aside0 (Kd.R k34 34 w120 w.heap.size (fun k_ => k_ ≠ gb116) (.slice Ao114 y132.length co114) y132) := ⟨(by rw [hw]; exact (by (with_reducible repeat (first | apply Kd.R_alloc | apply Kd.R_drewN | apply Kd.R_drew)); exact Kd.R_mono (Kd.R_far (p := ⟨gb135, 1, none⟩) (Kd.R_far (p := ⟨gb135, 0, none⟩) (Kd.R_types HO134.out BK135.out (by decide)) (fun _ hk => hk.2) (.int .i64 a0_0)) (fun _ hk => hk.2) (.slice Ao114 y132.length co114)) (fun _ hk => hk.1)))⟩; replace BK115 : Aside0 (w120.heap[gb115]? = some (.cells #[.int .i64 a0_0, .slice A0_1 l0_1.length c0_1] 30 (0, 0))) := ⟨(by rw [hw]; exact (bG NB115_135 BK115))⟩; replace BK116 : Aside0 (w120.heap[gb116]? = some (.cells #[.int .i64 a1_0, .int .i64 a1_1, .int .i64 a1_2, .int .i64 a1_3] 34 (0, 0))) := ⟨(by rw [hw]; exact (bG NB116_135 BK116))⟩; replace BK117 : Aside0 (w120.heap[gb117]? = some (.cells #[.int .i64 0, .slice none 0 0] 30 (0, 0))) := ⟨(by rw [hw]; exact (bG NB117_135 BK117))⟩; replace BK135 : Aside0 (w120.heap[gb135]? = some (.cells #[.int .i64 a0_0, .slice Ao114 y132.length co114] 30 (0, 0))) := ⟨(by rw [hw]; exact (by refine bU ?_; refine blk_put (cs := #[.int .i64 a0_0, .slice none 0 0]) ?_ 1 _ rfl; refine bU ?_; refine blk_put (cs := #[.int .i64 0, .slice none 0 0]) ?_ 0 _ rfl; refine bU ?_; exact BK135.out))⟩; replace HB : Aside0 (Below w.heap.size w w120) := ⟨(by rw [hw]; exact (lV4 GE115 GE116 GE117 GE135))⟩; clear hw; have hcz121_0 := cz BK135 0 (.int .i64 a0_0); have hcz121_1 := cz BK135 1 (.slice Ao114 y132.length co114); have hfz121_0 := fz BK135 0; have hfz121_1 := fz BK135 1) | ((with_reducible refine gate_callee (f := 23) rfl ?_); refine goesL_ (some 56) rfl rfl Try.func23 (by kernel_rfl) rfl #[.agg #[.int .i64 a0_0, .slice Ao114 y132.length co114]] rfl aE ?_; (with_reducible refine (spec_GoodClock.calls k1 a0_0 _ _ y132 true _ ?side1 ?side2 A106.out).mono ?_); (case side1 => exact cU (Kd.R_reads' HO134.out).2.2); (case side2 => exact (Kd.R_reads' HO134.out).2.1); rintro e w122 ⟨rfl, hb⟩; refine ⟨_, rfl, ?_⟩; replace HO134 := Aside0.mk (Kd.R_below (rU HO134.out) hb); replace BK115 := bB (bV BK115) hb; replace BK116 := bB (bV BK116) hb; replace BK117 := bB (bV BK117) hb; replace BK135 := bB (bV BK135) hb; replace HB := bH (lV4 GE115 GE116 GE117 GE135) hb; (try clear hb); have hcz123_0 := cz BK135 0 (.int .i64 a0_0); have hcz123_1 := cz BK135 1 (.slice Ao114 y132.length co114); have hfz123_0 := fz BK135 0; have hfz123_1 := fz BK135 1; have hcz124_0 := cz BK117 0 (.int .i64 0); have hcz124_1 := cz BK117 1 (.slice none 0 0); have hfz124_0 := fz BK117 0; have hfz124_1 := fz BK117 1) | ((with_reducible refine gate_store (t := 30) (p := 4) rfl ?_); refine store_event (t := 30) (p := 4) (v := ?vo_w125) (w1 := ((w122.setCell ⟨gb117, 0, none⟩ (.int .i64 a0_0)).setCell ⟨gb117, 1, none⟩ (.slice Ao114 y132.length co114))) ?hg ?ho ?hn ?hr ?_; (case ho => rfl); (case hg => rfl); (case hn => rfl); (case hr => first | (go_simp; done) | (go_simp; rfl) | (have hq0_ := (blk_cell BK117.out 0).trans (show _ = some _ from rfl); have hf0_ := blk_frozen BK117.out 0; have hq1_ := (blk_cell BK117.out 1).trans (show _ = some _ from rfl); have hf1_ := blk_frozen BK117.out 1; first | (go_simp; done) | (go_simp; rfl))); intro w125 hw; replace HO134 : Aside0 (Kd.R k34 34 w125 w.heap.size (fun k_ => k_ ≠ gb116) (.slice Ao114 y132.length co114) y132) := ⟨(by rw [hw]; exact (by (with_reducible repeat (first | apply Kd.R_alloc | apply Kd.R_drewN | apply Kd.R_drew)); exact Kd.R_mono (Kd.R_far (p := ⟨gb117, 1, none⟩) (Kd.R_far (p := ⟨gb117, 0, none⟩) (Kd.R_types HO134.out BK117.out (by decide)) (fun _ hk => hk.2) (.int .i64 a0_0)) (fun _ hk => hk.2) (.slice Ao114 y132.length co114)) (fun _ hk => hk.1)))⟩; replace BK115 : Aside0 (w125.heap[gb115]? = some (.cells #[.int .i64 a0_0, .slice A0_1 l0_1.length c0_1] 30 (0, 0))) := ⟨(by rw [hw]; exact (bG NB115_117 BK115))⟩; replace BK116 : Aside0 (w125.heap[gb116]? = some (.cells #[.int .i64 a1_0, .int .i64 a1_1, .int .i64 a1_2, .int .i64 a1_3] 34 (0, 0))) := ⟨(by rw [hw]; exact (bG NB116_117 BK116))⟩; replace BK117 : Aside0 (w125.heap[gb117]? = some (.cells #[.int .i64 a0_0, .slice Ao114 y132.length co114] 30 (0, 0))) := ⟨(by rw [hw]; exact (by refine bU ?_; refine blk_put (cs := #[.int .i64 a0_0, .slice none 0 0]) ?_ 1 _ rfl; refine bU ?_; refine blk_put (cs := #[.int .i64 0, .slice none 0 0]) ?_ 0 _ rfl; refine bU ?_; exact BK117.out))⟩; replace BK135 : Aside0 (w125.heap[gb135]? = some (.cells #[.int .i64 a0_0, .slice Ao114 y132.length co114] 30 (0, 0))) := ⟨(by rw [hw]; exact (bG NB135_117 BK135))⟩; replace HB : Aside0 (Below w.heap.size w w125) := ⟨(by rw [hw]; exact (lV4 GE115 GE116 GE117 GE135))⟩; clear hw))
        refine bodyPost_ret (results_ct rfl _ _ gb117 30 #[.int .i64 a0_0, .slice Ao114 y132.length co114] (0, 0) _ rfl (bV BK117) Try.underlying30 rfl (by kernel_rfl)) rfl ?_
        exact ⟨_, eE, by (with_reducible repeat (first | apply Kd.R_alloc | apply Kd.R_drewN | apply Kd.R_drew)); exact Kd.R_mono HO134.out (fun _ hk => trivial), lV4 GE115 GE116 GE117 GE135⟩
       ·replace c107 := Bool.eq_false_iff.mpr c107
        subst c107
        have H1 : (some (0, ([] : List (S34)), false)) = some (r1, r2, r3) := by rw [if_neg (show ¬ (false = true) by decide)] at H; exact H
        clear H
        have H := H1
        clear H1
        simp only [Option.some.injEq, Prod.mk.injEq] at H
        obtain ⟨rfl, rfl, rfl⟩ := H
        have hnb126 := NB116_115.out
        have hnc126 := NB115_116.out
        have hnb127 := NB116_117.out
        have hnc127 := NB117_116.out
        have hcz128_0 := cz BK116 0 (.int .i64 a1_0)
        have hcz128_1 := cz BK116 1 (.int .i64 a1_1)
        have hcz128_2 := cz BK116 2 (.int .i64 a1_2)
        have hcz128_3 := cz BK116 3 (.int .i64 a1_3)
        have hfz128_0 := fz BK116 0
        have hfz128_1 := fz BK116 1
        have hfz128_2 := fz BK116 2
        have hfz128_3 := fz BK116 3
        go_wp2_with (first | ((with_reducible refine gate_builtin (b := .append) (xs := #[.tmp 47, .tmp 49]) rfl ?_); at_builtin; refine Kd.R_append k34 (w0 := w) w.heap.size rfl (.tmp 47) (.tmp 49) 28 34 (.agg #[(.int .i64 0), (.int .i64 0), (.int .i64 0), (.int .i64 0)]) 32 rfl Try.underlying28 info34 rfl (by decide) (by omega) u6 x6_1 (⟨a1_0, a1_1, a1_2, a1_3⟩ : S34) [.int .i64 a1_0, .int .i64 a1_1, .int .i64 a1_2, .int .i64 a1_3] (fun k_ => k_ ≠ gb116) (fun _ => False) rfl rfl ?aP (fun _ hk => hk.elim) ?aF ?aO ?aB ?aS ?aL ?_; (case aP => exact k34_mkM _ _ _ (⟨a1_0, a1_1, a1_2, a1_3⟩ : S34)); (case aB => exact (lV3 GE115 GE116 GE117)); (case aF => exact (fun k_ hk => Kd.freshB (g := gb116) (o := .cells #[.int .i64 a1_0, .int .i64 a1_1, .int .i64 a1_2, .int .i64 a1_3] 34 (0, 0)) (bV BK116) k_ hk)); (case aO => exact (rU HO_6.out)); (case aS => exact (below_size (lV3 GE115 GE116 GE117))); (case aL => have := LMc105.out; omega); intro v133 w129 ho hb hg hat; rw [← Ny132.out] at ho; replace BK115 := Aside0.mk (blk_grown (g := gb115) (o := .cells #[.int .i64 a0_0, .slice A0_1 l0_1.length c0_1] 30 (0, 0)) (bV BK115) hg (Kd.R_ne HO_6.out BK115.out (by decide))); replace BK116 := Aside0.mk (blk_grown (g := gb116) (o := .cells #[.int .i64 a1_0, .int .i64 a1_1, .int .i64 a1_2, .int .i64 a1_3] 34 (0, 0)) (bV BK116) hg (Kd.R_away HO_6.out (fun _ hk => hk))); replace BK117 := Aside0.mk (blk_grown (g := gb117) (o := .cells #[.int .i64 0, .slice none 0 0] 30 (0, 0)) (bV BK117) hg (Kd.R_ne HO_6.out BK117.out (by decide))); replace HB := Aside0.mk hb; have HO134 := Aside0.mk ho; clear HO_6; clear ho hb hg hat; have hnb130 := NB115_117.out; have hnc130 := NB117_115.out; have hcz131_0 := cz BK115 0 (.int .i64 a0_0); have hcz131_1 := cz BK115 1 (.slice A0_1 l0_1.length c0_1); have hfz131_0 := fz BK115 0; have hfz131_1 := fz BK115 1; obtain ⟨Ao132, co132, eo132⟩ := Kd.R_slice HO134.out; subst eo132) | ((with_reducible refine gate_dst (N := 10) rfl ?_); refine box_event rfl (N := 10) rfl (cs := #[.int .i64 0, .slice none 0 0]) (t := 30) sE ?_; intro gb135 hg w133 hbox hb; replace HO134 := Aside0.mk (Kd.R_below (rU HO134.out) hb); have BK135 := Aside0.mk hbox; have GW135 := gS w hg (lV3 GE115 GE116 GE117); have GE135 := gS w hg (lV3 GE115 GE116 GE117); replace HB := bH (lV3 GE115 GE116 GE117) hb; have NB115_135 := nL hg (bV BK115); have NB135_115 := nG hg (bV BK115); replace BK115 := bB (bV BK115) hb; have NB116_135 := nL hg (bV BK116); have NB135_116 := nG hg (bV BK116); replace BK116 := bB (bV BK116) hb; have NB117_135 := nL hg (bV BK117); have NB135_117 := nG hg (bV BK117); replace BK117 := bB (bV BK117) hb; clear hb hbox hg; have hnb134 := NB135_115.out; have hnc134 := NB115_135.out; have hnb135 := NB135_116.out; have hnc135 := NB116_135.out; have hnb136 := NB135_117.out; have hnc136 := NB117_135.out; have hcz137_0 := cz BK135 0 (.int .i64 0); have hcz137_1 := cz BK135 1 (.slice none 0 0); have hfz137_0 := fz BK135 0; have hfz137_1 := fz BK135 1) | ((with_reducible refine gate_store (t := 30) (p := 10) rfl ?_); refine store_event (t := 30) (p := 10) (v := ?vo_w138) (w1 := ((w133.setCell ⟨gb135, 0, none⟩ (.int .i64 a0_0)).setCell ⟨gb135, 1, none⟩ (.slice Ao132 y132.length co132))) ?hg ?ho ?hn ?hr ?_; (case ho => rfl); (case hg => rfl); (case hn => rfl); (case hr => first | (go_simp; done) | (go_simp; rfl) | (have hq0_ := (blk_cell BK135.out 0).trans (show _ = some _ from rfl); have hf0_ := blk_frozen BK135.out 0; have hq1_ := (blk_cell BK135.out 1).trans (show _ = some _ from rfl); have hf1_ := blk_frozen BK135.out 1; first | (go_simp; done) | (go_simp; rfl))); intro w138 hw; replace HO134 : Aside0 (Kd.R k34 34 w138 w.heap.size (fun k_ => k_ ≠ gb116) (.slice Ao132 y132.length co132) y132) := ⟨(by rw [hw]; exact (by (with_reducible repeat (first | apply Kd.R_alloc | apply Kd.R_drewN | apply Kd.R_drew)); exact Kd.R_mono (Kd.R_far (p := ⟨gb135, 1, none⟩) (Kd.R_far (p := ⟨gb135, 0, none⟩) (Kd.R_types HO134.out BK135.out (by decide)) (fun _ hk => hk.2) (.int .i64 a0_0)) (fun _ hk => hk.2) (.slice Ao132 y132.length co132)) (fun _ hk => hk.1)))⟩; replace BK115 : Aside0 (w138.heap[gb115]? = some (.cells #[.int .i64 a0_0, .slice A0_1 l0_1.length c0_1] 30 (0, 0))) := ⟨(by rw [hw]; exact (bG NB115_135 BK115))⟩; replace BK116 : Aside0 (w138.heap[gb116]? = some (.cells #[.int .i64 a1_0, .int .i64 a1_1, .int .i64 a1_2, .int .i64 a1_3] 34 (0, 0))) := ⟨(by rw [hw]; exact (bG NB116_135 BK116))⟩; replace BK117 : Aside0 (w138.heap[gb117]? = some (.cells #[.int .i64 0, .slice none 0 0] 30 (0, 0))) := ⟨(by rw [hw]; exact (bG NB117_135 BK117))⟩; replace BK135 : Aside0 (w138.heap[gb135]? = some (.cells #[.int .i64 a0_0, .slice Ao132 y132.length co132] 30 (0, 0))) := ⟨(by rw [hw]; exact (by refine bU ?_; refine blk_put (cs := #[.int .i64 a0_0, .slice none 0 0]) ?_ 1 _ rfl; refine bU ?_; refine blk_put (cs := #[.int .i64 0, .slice none 0 0]) ?_ 0 _ rfl; refine bU ?_; exact BK135.out))⟩; replace HB : Aside0 (Below w.heap.size w w138) := ⟨(by rw [hw]; exact (lV4 GE115 GE116 GE117 GE135))⟩; clear hw; have hcz139_0 := cz BK135 0 (.int .i64 a0_0); have hcz139_1 := cz BK135 1 (.slice Ao132 y132.length co132); have hfz139_0 := fz BK135 0; have hfz139_1 := fz BK135 1) | ((with_reducible refine gate_callee (f := 23) rfl ?_); refine goesL_ (some 56) rfl rfl Try.func23 (by kernel_rfl) rfl #[.agg #[.int .i64 a0_0, .slice Ao132 y132.length co132]] rfl aE ?_; (with_reducible refine (spec_GoodClock.calls k1 a0_0 _ _ y132 false _ ?side1 ?side2 A106.out).mono ?_); (case side1 => exact cU (Kd.R_reads' HO134.out).2.2); (case side2 => exact (Kd.R_reads' HO134.out).2.1); rintro e w140 ⟨rfl, hb⟩; refine ⟨_, rfl, ?_⟩; replace HO134 := Aside0.mk (Kd.R_below (rU HO134.out) hb); replace BK115 := bB (bV BK115) hb; replace BK116 := bB (bV BK116) hb; replace BK117 := bB (bV BK117) hb; replace BK135 := bB (bV BK135) hb; replace HB := bH (lV4 GE115 GE116 GE117 GE135) hb; (try clear hb); have hcz141_0 := cz BK117 0 (.int .i64 0); have hcz141_1 := cz BK117 1 (.slice none 0 0); have hfz141_0 := fz BK117 0; have hfz141_1 := fz BK117 1) | ((with_reducible refine gate_store (t := 30) (p := 4) rfl ?_); refine store_event (t := 30) (p := 4) (v := ?vo_w142) (w1 := ((w140.setCell ⟨gb117, 0, none⟩ (.int .i64 0)).setCell ⟨gb117, 1, none⟩ (.slice none 0 0))) ?hg ?ho ?hn ?hr ?_; (case ho => rfl); (case hg => rfl); (case hn => rfl); (case hr => first | (go_simp; done) | (go_simp; rfl) | (have hq0_ := (blk_cell BK117.out 0).trans (show _ = some _ from rfl); have hf0_ := blk_frozen BK117.out 0; have hq1_ := (blk_cell BK117.out 1).trans (show _ = some _ from rfl); have hf1_ := blk_frozen BK117.out 1; first | (go_simp; done) | (go_simp; rfl))); intro w142 hw; replace HO134 : Aside0 (Kd.R k34 34 w142 w.heap.size (fun k_ => k_ ≠ gb116) (.slice Ao132 y132.length co132) y132) := ⟨(by rw [hw]; exact (by (with_reducible repeat (first | apply Kd.R_alloc | apply Kd.R_drewN | apply Kd.R_drew)); exact Kd.R_mono (Kd.R_far (p := ⟨gb117, 1, none⟩) (Kd.R_far (p := ⟨gb117, 0, none⟩) (Kd.R_types HO134.out BK117.out (by decide)) (fun _ hk => hk.2) (.int .i64 0)) (fun _ hk => hk.2) (.slice none 0 0)) (fun _ hk => hk.1)))⟩; replace BK115 : Aside0 (w142.heap[gb115]? = some (.cells #[.int .i64 a0_0, .slice A0_1 l0_1.length c0_1] 30 (0, 0))) := ⟨(by rw [hw]; exact (bG NB115_117 BK115))⟩; replace BK116 : Aside0 (w142.heap[gb116]? = some (.cells #[.int .i64 a1_0, .int .i64 a1_1, .int .i64 a1_2, .int .i64 a1_3] 34 (0, 0))) := ⟨(by rw [hw]; exact (bG NB116_117 BK116))⟩; replace BK117 : Aside0 (w142.heap[gb117]? = some (.cells #[.int .i64 0, .slice none 0 0] 30 (0, 0))) := ⟨(by rw [hw]; exact (by refine bU ?_; refine blk_put (cs := #[.int .i64 0, .slice none 0 0]) ?_ 1 _ rfl; refine bU ?_; refine blk_put (cs := #[.int .i64 0, .slice none 0 0]) ?_ 0 _ rfl; refine bU ?_; exact BK117.out))⟩; replace BK135 : Aside0 (w142.heap[gb135]? = some (.cells #[.int .i64 a0_0, .slice Ao132 y132.length co132] 30 (0, 0))) := ⟨(by rw [hw]; exact (bG NB135_117 BK135))⟩; replace HB : Aside0 (Below w.heap.size w w142) := ⟨(by rw [hw]; exact (lV4 GE115 GE116 GE117 GE135))⟩; clear hw))
        refine bodyPost_ret (results_ct rfl _ _ gb117 30 #[.int .i64 0, .slice none 0 0] (0, 0) _ rfl (bV BK117) Try.underlying30 rfl (by kernel_rfl)) rfl ?_
        exact ⟨_, eE, by first | exact Kd.R_nil _ _ _ _ _ | exact Kd.N_nil _ _ _ _ _ | exact Kd.V_nil _ _ _ _ _ | exact Kd.Q_nil _ _ _ _ _ | exact Kd.S_nil _ _ _ _ _, lV4 GE115 GE116 GE117 GE135⟩
      ·rw [if_neg c105] at H
       exact absurd H (by simp)
 ·replace c4 := Bool.eq_false_iff.mpr c4
  subst c4
  have H1 : (some (0, ([] : List (S34)), false)) = some (r1, r2, r3) := by rw [if_neg (show ¬ (false = true) by decide)] at H; exact H
  clear H
  have H := H1
  clear H1
  simp only [Option.some.injEq, Prod.mk.injEq] at H
  obtain ⟨rfl, rfl, rfl⟩ := H
  go_enter Try.func7, Try.ntmps7
  go_wp2_with (first | ((with_reducible refine gate_dst (N := 2) rfl ?_); refine box_event rfl (N := 2) rfl (cs := #[.int .i64 a0_0, .slice A0_1 l0_1.length c0_1]) (t := 30) sE ?_; intro gb115 hg w143 hbox hb; have BK115 := Aside0.mk hbox; have GW115 := gS w hg (lU); have GE115 := gS w hg (lU); replace HB := bH (lU) hb; clear hb hbox hg) | ((with_reducible refine gate_dst (N := 3) rfl ?_); refine box_event rfl (N := 3) rfl (cs := #[.int .i64 a1_0, .int .i64 a1_1, .int .i64 a1_2, .int .i64 a1_3]) (t := 34) sE ?_; intro gb116 hg w144 hbox hb; have BK116 := Aside0.mk hbox; have GW116 := gS w hg (lV1 GE115); have GE116 := gS w hg (lV1 GE115); replace HB := bH (lV1 GE115) hb; have NB115_116 := nL hg (bV BK115); have NB116_115 := nG hg (bV BK115); replace BK115 := bB (bV BK115) hb; clear hb hbox hg) | ((with_reducible refine gate_dst (N := 4) rfl ?_); refine box_event rfl (N := 4) rfl (cs := #[.int .i64 0, .slice none 0 0]) (t := 30) sE ?_; intro gb117 hg w145 hbox hb; have BK117 := Aside0.mk hbox; have GW117 := gS w hg (lV2 GE115 GE116); have GE117 := gS w hg (lV2 GE115 GE116); replace HB := bH (lV2 GE115 GE116) hb; have NB115_117 := nL hg (bV BK115); have NB117_115 := nG hg (bV BK115); replace BK115 := bB (bV BK115) hb; have NB116_117 := nL hg (bV BK116); have NB117_116 := nG hg (bV BK116); replace BK116 := bB (bV BK116) hb; clear hb hbox hg; have hnb146 := NB115_116.out; have hnc146 := NB116_115.out; have hnb147 := NB115_117.out; have hnc147 := NB117_115.out; have hcz148_0 := cz BK115 0 (.int .i64 a0_0); have hcz148_1 := cz BK115 1 (.slice A0_1 l0_1.length c0_1); have hfz148_0 := fz BK115 0; have hfz148_1 := fz BK115 1) | ((with_reducible refine gate_callee (f := 23) rfl ?_); refine goesL_ (some 12) rfl rfl Try.func23 (by kernel_rfl) rfl #[.agg #[.int .i64 a0_0, .slice A0_1 l0_1.length c0_1]] rfl aE ?_; (with_reducible refine (spec_GoodClock.calls k a0_0 _ _ l0_1 false _ ?side1 ?side2 A3.out).mono ?_); (case side1 => exact cU (Kd.C_below HR0_1.out HB.out)); (case side2 => exact HC0_1.out); rintro e w149 ⟨rfl, hb⟩; refine ⟨_, rfl, ?_⟩; replace BK115 := bB (bV BK115) hb; replace BK116 := bB (bV BK116) hb; replace BK117 := bB (bV BK117) hb; replace HB := bH (lV3 GE115 GE116 GE117) hb; (try clear hb); have hnb150 := NB117_116.out; have hnc150 := NB116_117.out; have hcz151_0 := cz BK117 0 (.int .i64 0); have hcz151_1 := cz BK117 1 (.slice none 0 0); have hfz151_0 := fz BK117 0; have hfz151_1 := fz BK117 1) | ((with_reducible refine gate_store (t := 30) (p := 4) rfl ?_); refine store_event (t := 30) (p := 4) (v := ?vo_w152) (w1 := ((w149.setCell ⟨gb117, 0, none⟩ (.int .i64 0)).setCell ⟨gb117, 1, none⟩ (.slice none 0 0))) ?hg ?ho ?hn ?hr ?_; (case ho => rfl); (case hg => rfl); (case hn => rfl); (case hr => first | (go_simp; done) | (go_simp; rfl) | (have hq0_ := (blk_cell BK117.out 0).trans (show _ = some _ from rfl); have hf0_ := blk_frozen BK117.out 0; have hq1_ := (blk_cell BK117.out 1).trans (show _ = some _ from rfl); have hf1_ := blk_frozen BK117.out 1; first | (go_simp; done) | (go_simp; rfl))); intro w152 hw; replace BK115 : Aside0 (w152.heap[gb115]? = some (.cells #[.int .i64 a0_0, .slice A0_1 l0_1.length c0_1] 30 (0, 0))) := ⟨(by rw [hw]; exact (bG NB115_117 BK115))⟩; replace BK116 : Aside0 (w152.heap[gb116]? = some (.cells #[.int .i64 a1_0, .int .i64 a1_1, .int .i64 a1_2, .int .i64 a1_3] 34 (0, 0))) := ⟨(by rw [hw]; exact (bG NB116_117 BK116))⟩; replace BK117 : Aside0 (w152.heap[gb117]? = some (.cells #[.int .i64 0, .slice none 0 0] 30 (0, 0))) := ⟨(by rw [hw]; exact (by refine bU ?_; refine blk_put (cs := #[.int .i64 0, .slice none 0 0]) ?_ 1 _ rfl; refine bU ?_; refine blk_put (cs := #[.int .i64 0, .slice none 0 0]) ?_ 0 _ rfl; refine bU ?_; exact BK117.out))⟩; replace HB : Aside0 (Below w.heap.size w w152) := ⟨(by rw [hw]; exact (lV3 GE115 GE116 GE117))⟩; clear hw))
  refine bodyPost_ret (results_ct rfl _ _ gb117 30 #[.int .i64 0, .slice none 0 0] (0, 0) _ rfl (bV BK117) Try.underlying30 rfl (by kernel_rfl)) rfl ?_
  exact ⟨_, eE, by first | exact Kd.R_nil _ _ _ _ _ | exact Kd.N_nil _ _ _ _ _ | exact Kd.V_nil _ _ _ _ _ | exact Kd.Q_nil _ _ _ _ _ | exact Kd.S_nil _ _ _ _ _, lV3 GE115 GE116 GE117⟩
def laws_toTimer.f (a0_0 : Int) (a0_1 : Int) (a0_2 : Int) (a0_3 : Int) : Option (Int × Int × Int × Int) := some (a0_0, a0_1, a0_2, a0_3)
set_option maxHeartbeats 8000000 in
set_option maxRecDepth 100000 in
theorem laws_toTimer.calls (a0_0 : Int) (a0_1 : Int) (a0_2 : Int) (a0_3 : Int) (r1 : Int) (r2 : Int) (r3 : Int) (r4 : Int) (w : World) (h : laws_toTimer.f a0_0 a0_1 a0_2 a0_3 = some (r1, r2, r3, r4)) :
  Calls Try.prog 9 #[.agg #[.int .i64 a0_0, .int .i64 a0_1, .int .i64 a0_2, .int .i64 a0_3]] w fun e w' => e = .returned (.agg #[.int .i64 r1, .int .i64 r2, .int .i64 r3, .int .i64 r4]) ∧ Below w.heap.size w w' := by
 have hu26 := Try.underlying26
 have hu34 := Try.underlying34
 have HB := Aside0.mk (Below.refl w.heap.size w)
 have H : (some (a0_0, a0_1, a0_2, a0_3)) = some (r1, r2, r3, r4) := h
 clear h
 simp only [Option.some.injEq, Prod.mk.injEq] at H
 obtain ⟨rfl, rfl, rfl, rfl⟩ := H
 go_enter Try.func9, Try.ntmps9
 go_wp2_with (first | ((with_reducible refine gate_dst (N := 1) rfl ?_); refine box_event rfl (N := 1) rfl (cs := #[.int .i64 a0_0, .int .i64 a0_1, .int .i64 a0_2, .int .i64 a0_3]) (t := 26) sE ?_; intro gb137 hg w2 hbox hb; have BK137 := Aside0.mk hbox; have GW137 := gS w hg (lU); have GE137 := gS w hg (lU); replace HB := bH (lU) hb; clear hb hbox hg) | ((with_reducible refine gate_dst (N := 2) rfl ?_); refine box_event rfl (N := 2) rfl (cs := #[.int .i64 0, .int .i64 0, .int .i64 0, .int .i64 0]) (t := 34) sE ?_; intro gb138 hg w3 hbox hb; have BK138 := Aside0.mk hbox; have GW138 := gS w hg (lV1 GE137); have GE138 := gS w hg (lV1 GE137); replace HB := bH (lV1 GE137) hb; have NB137_138 := nL hg (bV BK137); have NB138_137 := nG hg (bV BK137); replace BK137 := bB (bV BK137) hb; clear hb hbox hg) | ((with_reducible refine gate_dst (N := 3) rfl ?_); refine box_event rfl (N := 3) rfl (cs := #[.int .i64 0, .int .i64 0, .int .i64 0, .int .i64 0]) (t := 34) sE ?_; intro gb139 hg w4 hbox hb; have BK139 := Aside0.mk hbox; have GW139 := gS w hg (lV2 GE137 GE138); have GE139 := gS w hg (lV2 GE137 GE138); replace HB := bH (lV2 GE137 GE138) hb; have NB137_139 := nL hg (bV BK137); have NB139_137 := nG hg (bV BK137); replace BK137 := bB (bV BK137) hb; have NB138_139 := nL hg (bV BK138); have NB139_138 := nG hg (bV BK138); replace BK138 := bB (bV BK138) hb; clear hb hbox hg; have hnb5 := NB137_138.out; have hnc5 := NB138_137.out; have hnb6 := NB137_139.out; have hnc6 := NB139_137.out; have hcz7_0 := cz BK137 0 (.int .i64 a0_0); have hcz7_1 := cz BK137 1 (.int .i64 a0_1); have hcz7_2 := cz BK137 2 (.int .i64 a0_2); have hcz7_3 := cz BK137 3 (.int .i64 a0_3); have hfz7_0 := fz BK137 0; have hfz7_1 := fz BK137 1; have hfz7_2 := fz BK137 2; have hfz7_3 := fz BK137 3; have hnb8 := NB139_138.out; have hnc8 := NB138_139.out; have hcz9_0 := cz BK139 0 (.int .i64 0); have hcz9_1 := cz BK139 1 (.int .i64 0); have hcz9_2 := cz BK139 2 (.int .i64 0); have hcz9_3 := cz BK139 3 (.int .i64 0); have hfz9_0 := fz BK139 0; have hfz9_1 := fz BK139 1; have hfz9_2 := fz BK139 2; have hfz9_3 := fz BK139 3) | ((with_reducible refine gate_store (t := 3) (p := 6) rfl ?_); refine store_event (t := 3) (p := 6) (v := ?vo_w10) (w1 := (w4.setCell ⟨gb139, 0, none⟩ (.int .i64 a0_0))) ?hg ?ho ?hn ?hr ?_; (case ho => rfl); (case hg => rfl); (case hn => rfl); (case hr => first | (go_simp; done) | (go_simp; rfl) | (have hq0_ := (blk_cell BK139.out 0).trans (show _ = some _ from rfl); have hf0_ := blk_frozen BK139.out 0; first | (go_simp; done) | (go_simp; rfl))); intro w10 hw; replace BK137 : Aside0 (w10.heap[gb137]? = some (.cells #[.int .i64 a0_0, .int .i64 a0_1, .int .i64 a0_2, .int .i64 a0_3] 26 (0, 0))) := ⟨(by rw [hw]; exact (bG NB137_139 BK137))⟩; replace BK138 : Aside0 (w10.heap[gb138]? = some (.cells #[.int .i64 0, .int .i64 0, .int .i64 0, .int .i64 0] 34 (0, 0))) := ⟨(by rw [hw]; exact (bG NB138_139 BK138))⟩; replace BK139 : Aside0 (w10.heap[gb139]? = some (.cells #[.int .i64 a0_0, .int .i64 0, .int .i64 0, .int .i64 0] 34 (0, 0))) := ⟨(by rw [hw]; exact (by refine bU ?_; refine blk_put (cs := #[.int .i64 0, .int .i64 0, .int .i64 0, .int .i64 0]) ?_ 0 _ rfl; refine bU ?_; exact BK139.out))⟩; replace HB : Aside0 (Below w.heap.size w w10) := ⟨(by rw [hw]; exact (lV3 GE137 GE138 GE139))⟩; clear hw; have hcz11_0 := cz BK137 0 (.int .i64 a0_0); have hcz11_1 := cz BK137 1 (.int .i64 a0_1); have hcz11_2 := cz BK137 2 (.int .i64 a0_2); have hcz11_3 := cz BK137 3 (.int .i64 a0_3); have hfz11_0 := fz BK137 0; have hfz11_1 := fz BK137 1; have hfz11_2 := fz BK137 2; have hfz11_3 := fz BK137 3; have hcz12_0 := cz BK139 0 (.int .i64 a0_0); have hcz12_1 := cz BK139 1 (.int .i64 0); have hcz12_2 := cz BK139 2 (.int .i64 0); have hcz12_3 := cz BK139 3 (.int .i64 0); have hfz12_0 := fz BK139 0; have hfz12_1 := fz BK139 1; have hfz12_2 := fz BK139 2; have hfz12_3 := fz BK139 3) | ((with_reducible refine gate_store (t := 3) (p := 9) rfl ?_); refine store_event (t := 3) (p := 9) (v := ?vo_w13) (w1 := (w10.setCell ⟨gb139, 1, none⟩ (.int .i64 a0_1))) ?hg ?ho ?hn ?hr ?_; (case ho => rfl); (case hg => rfl); (case hn => rfl); (case hr => first | (go_simp; done) | (go_simp; rfl) | (have hq0_ := (blk_cell BK139.out 1).trans (show _ = some _ from rfl); have hf0_ := blk_frozen BK139.out 1; first | (go_simp; done) | (go_simp; rfl))); intro w13 hw; replace BK137 : Aside0 (w13.heap[gb137]? = some (.cells #[.int .i64 a0_0, .int .i64 a0_1, .int .i64 a0_2, .int .i64 a0_3] 26 (0, 0))) := ⟨(by rw [hw]; exact (bG NB137_139 BK137))⟩; replace BK138 : Aside0 (w13.heap[gb138]? = some (.cells #[.int .i64 0, .int .i64 0, .int .i64 0, .int .i64 0] 34 (0, 0))) := ⟨(by rw [hw]; exact (bG NB138_139 BK138))⟩; replace BK139 : Aside0 (w13.heap[gb139]? = some (.cells #[.int .i64 a0_0, .int .i64 a0_1, .int .i64 0, .int .i64 0] 34 (0, 0))) := ⟨(by rw [hw]; exact (by refine bU ?_; refine blk_put (cs := #[.int .i64 a0_0, .int .i64 0, .int .i64 0, .int .i64 0]) ?_ 1 _ rfl; refine bU ?_; exact BK139.out))⟩; replace HB : Aside0 (Below w.heap.size w w13) := ⟨(by rw [hw]; exact (lV3 GE137 GE138 GE139))⟩; clear hw; have hcz14_0 := cz BK137 0 (.int .i64 a0_0); have hcz14_1 := cz BK137 1 (.int .i64 a0_1); have hcz14_2 := cz BK137 2 (.int .i64 a0_2); have hcz14_3 := cz BK137 3 (.int .i64 a0_3); have hfz14_0 := fz BK137 0; have hfz14_1 := fz BK137 1; have hfz14_2 := fz BK137 2; have hfz14_3 := fz BK137 3; have hcz15_0 := cz BK139 0 (.int .i64 a0_0); have hcz15_1 := cz BK139 1 (.int .i64 a0_1); have hcz15_2 := cz BK139 2 (.int .i64 0); have hcz15_3 := cz BK139 3 (.int .i64 0); have hfz15_0 := fz BK139 0; have hfz15_1 := fz BK139 1; have hfz15_2 := fz BK139 2; have hfz15_3 := fz BK139 3) | ((with_reducible refine gate_store (t := 3) (p := 12) rfl ?_); refine store_event (t := 3) (p := 12) (v := ?vo_w16) (w1 := (w13.setCell ⟨gb139, 2, none⟩ (.int .i64 a0_2))) ?hg ?ho ?hn ?hr ?_; (case ho => rfl); (case hg => rfl); (case hn => rfl); (case hr => first | (go_simp; done) | (go_simp; rfl) | (have hq0_ := (blk_cell BK139.out 2).trans (show _ = some _ from rfl); have hf0_ := blk_frozen BK139.out 2; first | (go_simp; done) | (go_simp; rfl))); intro w16 hw; replace BK137 : Aside0 (w16.heap[gb137]? = some (.cells #[.int .i64 a0_0, .int .i64 a0_1, .int .i64 a0_2, .int .i64 a0_3] 26 (0, 0))) := ⟨(by rw [hw]; exact (bG NB137_139 BK137))⟩; replace BK138 : Aside0 (w16.heap[gb138]? = some (.cells #[.int .i64 0, .int .i64 0, .int .i64 0, .int .i64 0] 34 (0, 0))) := ⟨(by rw [hw]; exact (bG NB138_139 BK138))⟩; replace BK139 : Aside0 (w16.heap[gb139]? = some (.cells #[.int .i64 a0_0, .int .i64 a0_1, .int .i64 a0_2, .int .i64 0] 34 (0, 0))) := ⟨(by rw [hw]; exact (by refine bU ?_; refine blk_put (cs := #[.int .i64 a0_0, .int .i64 a0_1, .int .i64 0, .int .i64 0]) ?_ 2 _ rfl; refine bU ?_; exact BK139.out))⟩; replace HB : Aside0 (Below w.heap.size w w16) := ⟨(by rw [hw]; exact (lV3 GE137 GE138 GE139))⟩; clear hw; have hcz17_0 := cz BK137 0 (.int .i64 a0_0); have hcz17_1 := cz BK137 1 (.int .i64 a0_1); have hcz17_2 := cz BK137 2 (.int .i64 a0_2); have hcz17_3 := cz BK137 3 (.int .i64 a0_3); have hfz17_0 := fz BK137 0; have hfz17_1 := fz BK137 1; have hfz17_2 := fz BK137 2; have hfz17_3 := fz BK137 3; have hcz18_0 := cz BK139 0 (.int .i64 a0_0); have hcz18_1 := cz BK139 1 (.int .i64 a0_1); have hcz18_2 := cz BK139 2 (.int .i64 a0_2); have hcz18_3 := cz BK139 3 (.int .i64 0); have hfz18_0 := fz BK139 0; have hfz18_1 := fz BK139 1; have hfz18_2 := fz BK139 2; have hfz18_3 := fz BK139 3) | ((with_reducible refine gate_store (t := 3) (p := 15) rfl ?_); refine store_event (t := 3) (p := 15) (v := ?vo_w19) (w1 := (w16.setCell ⟨gb139, 3, none⟩ (.int .i64 a0_3))) ?hg ?ho ?hn ?hr ?_; (case ho => rfl); (case hg => rfl); (case hn => rfl); (case hr => first | (go_simp; done) | (go_simp; rfl) | (have hq0_ := (blk_cell BK139.out 3).trans (show _ = some _ from rfl); have hf0_ := blk_frozen BK139.out 3; first | (go_simp; done) | (go_simp; rfl))); intro w19 hw; replace BK137 : Aside0 (w19.heap[gb137]? = some (.cells #[.int .i64 a0_0, .int .i64 a0_1, .int .i64 a0_2, .int .i64 a0_3] 26 (0, 0))) := ⟨(by rw [hw]; exact (bG NB137_139 BK137))⟩; replace BK138 : Aside0 (w19.heap[gb138]? = some (.cells #[.int .i64 0, .int .i64 0, .int .i64 0, .int .i64 0] 34 (0, 0))) := ⟨(by rw [hw]; exact (bG NB138_139 BK138))⟩; replace BK139 : Aside0 (w19.heap[gb139]? = some (.cells #[.int .i64 a0_0, .int .i64 a0_1, .int .i64 a0_2, .int .i64 a0_3] 34 (0, 0))) := ⟨(by rw [hw]; exact (by refine bU ?_; refine blk_put (cs := #[.int .i64 a0_0, .int .i64 a0_1, .int .i64 a0_2, .int .i64 0]) ?_ 3 _ rfl; refine bU ?_; exact BK139.out))⟩; replace HB : Aside0 (Below w.heap.size w w19) := ⟨(by rw [hw]; exact (lV3 GE137 GE138 GE139))⟩; clear hw; have hcz20_0 := cz BK139 0 (.int .i64 a0_0); have hcz20_1 := cz BK139 1 (.int .i64 a0_1); have hcz20_2 := cz BK139 2 (.int .i64 a0_2); have hcz20_3 := cz BK139 3 (.int .i64 a0_3); have hfz20_0 := fz BK139 0; have hfz20_1 := fz BK139 1; have hfz20_2 := fz BK139 2; have hfz20_3 := fz BK139 3; have hcz21_0 := cz BK138 0 (.int .i64 0); have hcz21_1 := cz BK138 1 (.int .i64 0); have hcz21_2 := cz BK138 2 (.int .i64 0); have hcz21_3 := cz BK138 3 (.int .i64 0); have hfz21_0 := fz BK138 0; have hfz21_1 := fz BK138 1; have hfz21_2 := fz BK138 2; have hfz21_3 := fz BK138 3) | ((with_reducible refine gate_store (t := 34) (p := 2) rfl ?_); refine store_event (t := 34) (p := 2) (v := ?vo_w22) (w1 := ((((w19.setCell ⟨gb138, 0, none⟩ (.int .i64 a0_0)).setCell ⟨gb138, 1, none⟩ (.int .i64 a0_1)).setCell ⟨gb138, 2, none⟩ (.int .i64 a0_2)).setCell ⟨gb138, 3, none⟩ (.int .i64 a0_3))) ?hg ?ho ?hn ?hr ?_; (case ho => rfl); (case hg => rfl); (case hn => rfl); (case hr => first | (go_simp; done) | (go_simp; rfl) | (have hq0_ := (blk_cell BK138.out 0).trans (show _ = some _ from rfl); have hf0_ := blk_frozen BK138.out 0; have hq1_ := (blk_cell BK138.out 1).trans (show _ = some _ from rfl); have hf1_ := blk_frozen BK138.out 1; have hq2_ := (blk_cell BK138.out 2).trans (show _ = some _ from rfl); have hf2_ := blk_frozen BK138.out 2; have hq3_ := (blk_cell BK138.out 3).trans (show _ = some _ from rfl); have hf3_ := blk_frozen BK138.out 3; first | (go_simp; done) | (go_simp; rfl))); intro w22 hw; replace BK137 : Aside0 (w22.heap[gb137]? = some (.cells #[.int .i64 a0_0, .int .i64 a0_1, .int .i64 a0_2, .int .i64 a0_3] 26 (0, 0))) := ⟨(by rw [hw]; exact (bG NB137_138 BK137))⟩; replace BK138 : Aside0 (w22.heap[gb138]? = some (.cells #[.int .i64 a0_0, .int .i64 a0_1, .int .i64 a0_2, .int .i64 a0_3] 34 (0, 0))) := ⟨(by rw [hw]; exact (by refine bU ?_; refine blk_put (cs := #[.int .i64 a0_0, .int .i64 a0_1, .int .i64 a0_2, .int .i64 0]) ?_ 3 _ rfl; refine bU ?_; refine blk_put (cs := #[.int .i64 a0_0, .int .i64 a0_1, .int .i64 0, .int .i64 0]) ?_ 2 _ rfl; refine bU ?_; refine blk_put (cs := #[.int .i64 a0_0, .int .i64 0, .int .i64 0, .int .i64 0]) ?_ 1 _ rfl; refine bU ?_; refine blk_put (cs := #[.int .i64 0, .int .i64 0, .int .i64 0, .int .i64 0]) ?_ 0 _ rfl; refine bU ?_; exact BK138.out))⟩; replace BK139 : Aside0 (w22.heap[gb139]? = some (.cells #[.int .i64 a0_0, .int .i64 a0_1, .int .i64 a0_2, .int .i64 a0_3] 34 (0, 0))) := ⟨(by rw [hw]; exact (bG NB139_138 BK139))⟩; replace HB : Aside0 (Below w.heap.size w w22) := ⟨(by rw [hw]; exact (lV3 GE137 GE138 GE139))⟩; clear hw))
 refine bodyPost_ret (results_cell_row rfl _ _ gb138 34 #[.int .i64 a0_0, .int .i64 a0_1, .int .i64 a0_2, .int .i64 a0_3] (0, 0) _ rfl (bV BK138) Try.underlying34 rfl (by kernel_rfl)) rfl ?_
 exact ⟨eE, lV3 GE137 GE138 GE139⟩
def laws_toTimerS.l0 : Nat → List (S26) → List (S34) → Int → Option ((List (S34)))
 | 0, _, _, _ => none
 | k + 1, x0, x3, x4 => if x4 < (x0.length : Int) then (if 0 ≤ x4 then ((laws_toTimer.f ((rd_T26 x0 x4).f0) ((rd_T26 x0 x4).f1) ((rd_T26 x0 x4).f2) ((rd_T26 x0 x4).f3)).bind fun bt144 => (if x4 < (x3.length : Int) then (laws_toTimerS.l0 k x0 (x3.set (x4 : Int).toNat (⟨bt144.1, bt144.2.1, bt144.2.2.1, bt144.2.2.2⟩ : S34)) (wrap64 (x4 + 1))) else (none))) else (none)) else (some x3)
def laws_toTimerS.f (k : Nat) (l0 : List (S26)) : Option ((List (S34))) := if 0 ≤ (l0.length : Int) then (if ((l0.length : Int) : Int).toNat ≤ 8796093022208 then (laws_toTimerS.l0 k l0 (List.replicate ((l0.length : Int) : Int).toNat z34) 0) else (none)) else (none)
theorem laws_toTimerS.mono_l : ∀ k, (∀ y0 y1 y2, LeO (laws_toTimerS.l0 k y0 y1 y2) (laws_toTimerS.l0 (k + 1) y0 y1 y2))
 | 0 => fun _ _ _ r h => by simp [laws_toTimerS.l0] at h
 | k + 1 => by
  have ih0 := laws_toTimerS.mono_l k
  ·intro y0 y1 y2
   unfold laws_toTimerS.l0
   repeat' first
   | (with_reducible exact ih0 _ _ _)
   | (with_reducible exact LeO.refl _)
   | (with_reducible exact LeO.none _)
   | (with_reducible refine LeO.ite ?_ ?_)
   | (with_reducible refine LeO.bind ?_ (fun _ => ?_))
   | exact ih0 _ _ _
   | exact LeO.none _
   | refine LeO.ite ?_ ?_
   | refine LeO.bind ?_ (fun _ => ?_)
theorem laws_toTimerS.mono : ∀ a0 k, LeO (laws_toTimerS.f k a0) (laws_toTimerS.f (k + 1) a0) := by
 intro a0 k
 have ih0 := laws_toTimerS.mono_l k
 unfold laws_toTimerS.f
 repeat' first
   | (with_reducible exact ih0 _ _ _)
   | (with_reducible exact LeO.refl _)
   | (with_reducible exact LeO.none _)
   | (with_reducible refine LeO.ite ?_ ?_)
   | (with_reducible refine LeO.bind ?_ (fun _ => ?_))
   | exact ih0 _ _ _
   | exact LeO.none _
   | refine LeO.ite ?_ ?_
   | refine LeO.bind ?_ (fun _ => ?_)
set_option maxHeartbeats 8000000 in
set_option maxRecDepth 100000 in
theorem laws_toTimerS.calls (k : Nat) (A0 : Option Addr) (c0 : Nat) (l0 : List (S26)) (r : List (S34)) (w : World) (hr0 : Kd.C k26 w A0 l0.length l0) (hc0 : l0.length ≤ c0) (h : laws_toTimerS.f k l0 = some r) :
  Calls Try.prog 24 #[.slice A0 l0.length c0] w fun e w' => ∃ v0_ : Value, e = .returned (v0_) ∧ Kd.R k34 34 w' w.heap.size (fun _ => True) v0_ r ∧ Below w.heap.size w w' := by
 have hu26 := Try.underlying26
 have hu34 := Try.underlying34
 have HR0 := Aside0.mk hr0
 have HC0 := Aside0.mk hc0
 clear hr0 hc0
 have HB := Aside0.mk (Below.refl w.heap.size w)
 have H : (if 0 ≤ (l0.length : Int) then (if ((l0.length : Int) : Int).toNat ≤ 8796093022208 then (laws_toTimerS.l0 k l0 (List.replicate ((l0.length : Int) : Int).toNat z34) 0) else (none)) else (none)) = some r := h
 clear h
 by_cases c2 : 0 ≤ (l0.length : Int)
 ·rw [if_pos c2] at H
  have c2b0 := eq_true c2
  have c2b1 : decide (0 ≤ (l0.length : Int)) = true := decide_eq_true c2
  clear c2
  by_cases c3 : ((l0.length : Int) : Int).toNat ≤ 8796093022208
  ·rw [if_pos c3] at H
   have c3b0 := eq_true c3
   have c3b1 : decide (((l0.length : Int) : Int).toNat ≤ 8796093022208) = true := decide_eq_true c3
   clear c3
   obtain ⟨y140, hy140⟩ : ∃ y_ : List (S34), y_ = (List.replicate ((l0.length : Int) : Int).toNat z34) := ⟨_, rfl⟩
   replace H : (laws_toTimerS.l0 k l0 y140 0) = some r := by first | (rw [hy140]; with_reducible exact H) | (have H2_ := (Option.bind_some _ _).symm.trans H; rw [hy140]; with_reducible exact H2_) | (have H2_ := (Option.bind_some _ _).symm.trans H; with_reducible exact H2_) | with_reducible exact H | (rw [hy140]; exact H) | exact H
   have Ny140 := Aside0.mk hy140
   clear hy140
   have H' := Aside0.mk H
   clear H
   go_enter Try.func24, Try.ntmps24
   go_wp2_with (first | ((with_reducible refine gate_dst (N := 7) rfl ?_); refine Kd.R_make k34 _ 34 rfl (N := 7) rfl 28 _ _ rfl (l0.length : Int) rfl rfl Try.underlying28 (.agg #[(.int .i64 0), (.int .i64 0), (.int .i64 0), (.int .i64 0)]) 32 info34 rfl (by decide) (by omega) z34 (ok := fun _ => True) (okp := fun _ => True) (k34_mkM _ _ _ z34 ) (fun _ hk => hk) trivial (of_decide_eq_true hE) (Nat.le_trans (Nat.mul_le_mul_right _ (of_decide_eq_true hE : (l0.length : Int).toNat ≤ 8796093022208)) (by omega)) (Below.refl _ _) (Nat.le_refl _) ?_; intro v141 w4 ho5 hb hg_ hnew_; clear hg_ hnew_; (first | rw [← Ny140.out] at ho5 | (simp only [Int.reduceToNat] at ho5; rw [← Ny140.out] at ho5)); have HO142 := Aside0.mk (Kd.R_lower ho5 (below_size (lU))); replace HB := bH (lU) hb; clear hb ho5))
   (try simp only [Act.put, List.setIfInBounds_toArray, List.set_cons_zero, List.set_cons_succ])
   go_loopg [4] k (fun kq v4 w' => ∃ (x3_1 : List (S34)) (x4_1 : Int), v4 = .int .i64 x4_1 ∧ Aside0 (laws_toTimerS.l0 kq l0 x3_1 x4_1 = some r) ∧ Aside0 (kq ≤ k) ∧ Aside0 (Kd.R k34 34 w' w.heap.size (fun _ => True) v141 x3_1) ∧ Aside0 (Below w.heap.size w w'))
   case atStart => exact ⟨(y140), (0), tE, H', ⟨Nat.le_refl _⟩, ⟨by (with_reducible repeat (first | apply Kd.R_alloc | apply Kd.R_drewN | apply Kd.R_drew)); exact HO142.out⟩, ⟨by repeat (first | (with_reducible first | exact HB.out | apply below_alloc | apply pw_below_drewN | apply below_drew1) | exact HB.out)⟩⟩
   case round =>
    clear H'
    try clear c2
    try clear c2b0
    try clear c2b1
    try clear p2
    try clear c3
    try clear c3b0
    try clear c3b1
    obtain ⟨x3_1, x4_1, rfl, HA, HK1, HO_3, HB⟩ := hrel
    cases gk with
    | zero => exact absurd HA.out (by simp [laws_toTimerS.l0])
    | succ k1 =>
     have H := HA.out
     clear HA
     simp only [laws_toTimerS.l0] at H
     by_cases c6 : x4_1 < (l0.length : Int)
     ·rw [if_pos c6] at H
      have c6b0 : decide (x4_1 < (l0.length : Int)) = true := decide_eq_true c6
      clear c6
      by_cases c7 : 0 ≤ x4_1
      ·rw [if_pos c7] at H
       have c7b0 : decide (0 ≤ x4_1) = true := decide_eq_true c7
       clear c7
       replace H := Option.bind_eq_some_iff.mp H
       obtain ⟨⟨t144, t145, t146, t147⟩, A80, H⟩ := H
       replace H : (if x4_1 < (x3_1.length : Int) then (laws_toTimerS.l0 k1 l0 (x3_1.set (x4_1 : Int).toNat (⟨t144, t145, t146, t147⟩ : S34)) (wrap64 (x4_1 + 1))) else (none)) = some r := H
       have A8 := Aside0.mk A80
       clear A80
       by_cases c9 : x4_1 < (x3_1.length : Int)
       ·rw [if_pos c9] at H
        have c9b0 : decide (x4_1 < (x3_1.length : Int)) = true := decide_eq_true c9
        clear c9
        obtain ⟨y148, hy148⟩ : ∃ y_ : List (S34), y_ = (x3_1.set (x4_1 : Int).toNat (⟨t144, t145, t146, t147⟩ : S34)) := ⟨_, rfl⟩
        replace H : (laws_toTimerS.l0 k1 l0 y148 (wrap64 (x4_1 + 1))) = some r := by first | (rw [hy148]; with_reducible exact H) | (have H2_ := (Option.bind_some _ _).symm.trans H; rw [hy148]; with_reducible exact H2_) | (have H2_ := (Option.bind_some _ _).symm.trans H; with_reducible exact H2_) | with_reducible exact H | (rw [hy148]; exact H) | exact H
        have Ny148 := Aside0.mk hy148
        clear hy148
        have H' := Aside0.mk H
        clear H
        have p143 : 0 ≤ (x4_1 : Int) := of_decide_eq_true hE
        have q143 : x4_1 < (l0.length : Int) := of_decide_eq_true hE
        obtain ⟨ad143, e143, hx143_0, hx143_1, hx143_2, hx143_3⟩ := at_T26 HR0.out x4_1 p143 q143
        cases e143
        replace hx143_0 := (HB.out.cell (World.block_lt_of_cell? w _ hx143_0)).trans hx143_0
        replace hx143_1 := (HB.out.cell (World.block_lt_of_cell? w _ hx143_1)).trans hx143_1
        replace hx143_2 := (HB.out.cell (World.block_lt_of_cell? w _ hx143_2)).trans hx143_2
        replace hx143_3 := (HB.out.cell (World.block_lt_of_cell? w _ hx143_3)).trans hx143_3
        replace p143 := eq_true p143
        replace q143 := eq_true q143
        go_wp2_with (first | ((with_reducible refine gate_callee (f := 9) rfl ?_); refine goesL_ (some 20) rfl rfl Try.func9 (by kernel_rfl) rfl #[.agg #[.int .i64 ((rd_T26 l0 x4_1).f0), .int .i64 ((rd_T26 l0 x4_1).f1), .int .i64 ((rd_T26 l0 x4_1).f2), .int .i64 ((rd_T26 l0 x4_1).f3)]] rfl aE ?_; (with_reducible refine (laws_toTimer.calls ((rd_T26 l0 x4_1).f0) ((rd_T26 l0 x4_1).f1) ((rd_T26 l0 x4_1).f2) ((rd_T26 l0 x4_1).f3) t144 t145 t146 t147 _ A8.out).mono ?_); rintro e w11 ⟨rfl, hb⟩; refine ⟨_, rfl, ?_⟩; replace HO_3 := Aside0.mk (Kd.R_below (rU HO_3.out) hb); replace HB := bH (lU) hb; (try clear hb); have p10 : 0 ≤ (x4_1 : Int) := of_decide_eq_true hE; have q10 : (x4_1 : Int) < ((x3_1.length : Int) : Int) := of_decide_eq_true hE; obtain ⟨go10, co10, eo10, gb10, gl10, cl10, HG10⟩ := Kd.R_form HO_3.out (by omega); (first | cases eo10 | (injection eo10 with ea_ en_ ec_; (first | subst ea_ | (injection ea_ with ea_; subst ea_)); subst ec_; clear en_)); have GB10 := Aside0.mk gb10; have GG10 := Aside0.mk HG10; clear gb10 gl10 HG10; obtain ⟨ce10, hcl10, hM10, hcc10, hfr10⟩ := Kd.R_elem HO_3.out z34 (x4_1 : Int) p10 q10; obtain rfl := k34_openM hM10; have hx10_0 : w11.cell? ⟨go10, (x4_1 : Int).toNat * 4, none⟩ = some (.int .i64 ((rd_T34 x3_1 x4_1).f0)) := hcc10 0 _ rfl; have hx10_1 : w11.cell? ⟨go10, (x4_1 : Int).toNat * 4 + 1, none⟩ = some (.int .i64 ((rd_T34 x3_1 x4_1).f1)) := hcc10 1 _ rfl; have hx10_2 : w11.cell? ⟨go10, (x4_1 : Int).toNat * 4 + 2, none⟩ = some (.int .i64 ((rd_T34 x3_1 x4_1).f2)) := hcc10 2 _ rfl; have hx10_3 : w11.cell? ⟨go10, (x4_1 : Int).toNat * 4 + 3, none⟩ = some (.int .i64 ((rd_T34 x3_1 x4_1).f3)) := hcc10 3 _ rfl; have hf10_0 : w11.frozen? ⟨go10, (x4_1 : Int).toNat * 4, none⟩ = false := hfr10 0; have hf10_1 : w11.frozen? ⟨go10, (x4_1 : Int).toNat * 4 + 1, none⟩ = false := hfr10 1; have hf10_2 : w11.frozen? ⟨go10, (x4_1 : Int).toNat * 4 + 2, none⟩ = false := hfr10 2; have hf10_3 : w11.frozen? ⟨go10, (x4_1 : Int).toNat * 4 + 3, none⟩ = false := hfr10 3; (try clear hcl10); (try clear hcc10); (try clear hfr10); (try clear hM10); replace p10 := eq_true p10; replace q10 := eq_true q10; have HX12 := Aside0.mk (show Kd.R k34 34 w11 w.heap.size (fun _ => True) (.slice (some ⟨go10, 0, none⟩) x3_1.length co10) x3_1 from (rU HO_3.out)); obtain ⟨ce12, hcl12, hM12, hcc12, hfr12⟩ := Kd.R_elem HX12.out z34 (x4_1 : Int) (of_decide_eq_true hE) (by have h_ : (x4_1 : Int) < ((x3_1.length : Int) : Int) := of_decide_eq_true hE; first | exact h_ | (have e_ := (Kd.R_reads' HO_3.out).1; omega) | simpa using h_); obtain rfl := k34_openM hM12; have HP12 := Kd.R_seg HX12.out (x4_1 : Int) (of_decide_eq_true hE) (by have h_ : (x4_1 : Int) < ((x3_1.length : Int) : Int) := of_decide_eq_true hE; first | exact h_ | (have e_ := (Kd.R_reads' HO_3.out).1; omega) | simpa using h_) (seg := [.int .i64 t144, .int .i64 t145, .int .i64 t146, .int .i64 t147]) (j := 0) hcl12 hcc12 (show 4 ≤ 4 from by decide) (x' := (⟨t144, t145, t146, t147⟩ : S34)) (k34_mkM _ _ _ (⟨t144, t145, t146, t147⟩ : S34) ) (fun _ hk => hk); have hx12_0 := hcc12 0 _ rfl; (try simp only [show (k34).sz = 4 from rfl, Nat.mul_one, Nat.add_zero] at hx12_0); have hf12_0 := hfr12 0; (try simp only [show (k34).sz = 4 from rfl, Nat.mul_one, Nat.add_zero] at hf12_0); have hx12_1 := hcc12 1 _ rfl; (try simp only [show (k34).sz = 4 from rfl, Nat.mul_one, Nat.add_zero] at hx12_1); have hf12_1 := hfr12 1; (try simp only [show (k34).sz = 4 from rfl, Nat.mul_one, Nat.add_zero] at hf12_1); have hx12_2 := hcc12 2 _ rfl; (try simp only [show (k34).sz = 4 from rfl, Nat.mul_one, Nat.add_zero] at hx12_2); have hf12_2 := hfr12 2; (try simp only [show (k34).sz = 4 from rfl, Nat.mul_one, Nat.add_zero] at hf12_2); have hx12_3 := hcc12 3 _ rfl; (try simp only [show (k34).sz = 4 from rfl, Nat.mul_one, Nat.add_zero] at hx12_3); have hf12_3 := hfr12 3; (try simp only [show (k34).sz = 4 from rfl, Nat.mul_one, Nat.add_zero] at hf12_3); (try clear hcl12); (try clear hcc12); (try clear hfr12); (try clear hM12)) | ((with_reducible refine gate_store (t := 34) (p := 21) rfl ?_); refine store_event (t := 34) (p := 21) (v := ?vo_w13) (w1 := ((((w11.setCell ⟨go10, (x4_1 : Int).toNat * 4, none⟩ (.int .i64 t144)).setCell ⟨go10, (x4_1 : Int).toNat * 4 + 1, none⟩ (.int .i64 t145)).setCell ⟨go10, (x4_1 : Int).toNat * 4 + 2, none⟩ (.int .i64 t146)).setCell ⟨go10, (x4_1 : Int).toNat * 4 + 3, none⟩ (.int .i64 t147))) ?hg ?ho ?hn ?hr ?_; (case ho => rfl); (case hg => rfl); (case hn => rfl); (case hr => exact sE); intro w13 hw; have hg : w11.grownBy w13 (some go10) := (by rw [hw]; exact HP12.2); have hp_ : Kd.R k34 34 w13 w.heap.size (fun _ => True) (.slice (some ⟨go10, 0, none⟩) x3_1.length co10) y148 := (by rw [hw, Ny148.out]; exact HP12.1); clear HP12; replace HO_3 := Aside0.mk hp_; replace HB := Aside0.mk ((by rw [hw]; exact below_set (below_set (below_set (below_set (HB.out) GB10.out) GB10.out) GB10.out) GB10.out : Below w.heap.size w w13)); clear hg hw hp_))
        go_roundg k1
        case measure => have := HK1.out; omega
        case rel => exact ⟨(y148), (wrap64 (x4_1 + 1)), tE, H', ⟨by have := HK1.out; omega⟩, ⟨by (with_reducible repeat (first | apply Kd.R_alloc | apply Kd.R_drewN | apply Kd.R_drew)); exact HO_3.out⟩, ⟨by repeat (first | (with_reducible first | exact HB.out | apply below_alloc | apply pw_below_drewN | apply below_drew1) | exact HB.out)⟩⟩
       ·rw [if_neg c9] at H
        exact absurd H (by simp)
      ·rw [if_neg c7] at H
       exact absurd H (by simp)
     ·rw [if_neg c6] at H
      have c6b0 : decide (x4_1 < (l0.length : Int)) = false := decide_eq_false c6
      clear c6
      obtain rfl := Option.some.inj H
      go_wp2
      go_ret
      exact ⟨_, eE, by (with_reducible repeat (first | apply Kd.R_alloc | apply Kd.R_drewN | apply Kd.R_drew)); exact HO_3.out, lU⟩
  ·rw [if_neg c3] at H
   exact absurd H (by simp)
 ·rw [if_neg c2] at H
  exact absurd H (by simp)
def laws_toClock.f (k : Nat) (a0_0 : Int) (l0_1 : List (S26)) : Option (Int × (List (S34))) := (laws_toTimerS.f k l0_1).bind fun t152 => (some (a0_0, t152))
theorem laws_toClock.mono : ∀ a0 a1 k, LeO (laws_toClock.f k a0 a1) (laws_toClock.f (k + 1) a0 a1) := by
 intro a0 a1 k
 unfold laws_toClock.f
 repeat' first
   | (with_reducible exact laws_toTimerS.mono _ _)
   | (with_reducible exact LeO.refl _)
   | (with_reducible exact LeO.none _)
   | (with_reducible refine LeO.ite ?_ ?_)
   | (with_reducible refine LeO.bind ?_ (fun _ => ?_))
   | exact laws_toTimerS.mono _ _
   | exact LeO.none _
   | refine LeO.ite ?_ ?_
   | refine LeO.bind ?_ (fun _ => ?_)
set_option maxHeartbeats 8000000 in
set_option maxRecDepth 100000 in
theorem laws_toClock.calls (k : Nat) (a0_0 : Int) (A0_1 : Option Addr) (c0_1 : Nat) (l0_1 : List (S26)) (r1 : Int) (r2 : List (S34)) (w : World) (hr0_1 : Kd.C k26 w A0_1 l0_1.length l0_1) (hc0_1 : l0_1.length ≤ c0_1) (h : laws_toClock.f k a0_0 l0_1 = some (r1, r2)) :
  Calls Try.prog 8 #[.agg #[.int .i64 a0_0, .slice A0_1 l0_1.length c0_1]] w fun e w' => ∃ v1_ : Value, e = .returned (.agg #[.int .i64 r1, v1_]) ∧ Kd.R k34 34 w' w.heap.size (fun _ => True) v1_ r2 ∧ Below w.heap.size w w' := by
 have hu24 := Try.underlying24
 have hu30 := Try.underlying30
 have HR0_1 := Aside0.mk hr0_1
 have HC0_1 := Aside0.mk hc0_1
 clear hr0_1 hc0_1
 have HB := Aside0.mk (Below.refl w.heap.size w)
 have H : ((laws_toTimerS.f k l0_1).bind fun t152 => (some (a0_0, t152))) = some (r1, r2) := h
 clear h
 replace H := Option.bind_eq_some_iff.mp H
 obtain ⟨t152, A20, H⟩ := H
 replace H : (some (a0_0, t152)) = some (r1, r2) := H
 have A2 := Aside0.mk A20
 clear A20
 simp only [Option.some.injEq, Prod.mk.injEq] at H
 obtain ⟨rfl, rfl⟩ := H
 go_enter Try.func8, Try.ntmps8
 go_wp2_with (first | ((with_reducible refine gate_dst (N := 1) rfl ?_); refine box_event rfl (N := 1) rfl (cs := #[.int .i64 a0_0, .slice A0_1 l0_1.length c0_1]) (t := 24) sE ?_; intro gb149 hg w3 hbox hb; have BK149 := Aside0.mk hbox; have GW149 := gS w hg (lU); have GE149 := gS w hg (lU); replace HB := bH (lU) hb; clear hb hbox hg) | ((with_reducible refine gate_dst (N := 2) rfl ?_); refine box_event rfl (N := 2) rfl (cs := #[.int .i64 0, .slice none 0 0]) (t := 30) sE ?_; intro gb150 hg w4 hbox hb; have BK150 := Aside0.mk hbox; have GW150 := gS w hg (lV1 GE149); have GE150 := gS w hg (lV1 GE149); replace HB := bH (lV1 GE149) hb; have NB149_150 := nL hg (bV BK149); have NB150_149 := nG hg (bV BK149); replace BK149 := bB (bV BK149) hb; clear hb hbox hg) | ((with_reducible refine gate_dst (N := 3) rfl ?_); refine box_event rfl (N := 3) rfl (cs := #[.int .i64 0, .slice none 0 0]) (t := 30) sE ?_; intro gb151 hg w5 hbox hb; have BK151 := Aside0.mk hbox; have GW151 := gS w hg (lV2 GE149 GE150); have GE151 := gS w hg (lV2 GE149 GE150); replace HB := bH (lV2 GE149 GE150) hb; have NB149_151 := nL hg (bV BK149); have NB151_149 := nG hg (bV BK149); replace BK149 := bB (bV BK149) hb; have NB150_151 := nL hg (bV BK150); have NB151_150 := nG hg (bV BK150); replace BK150 := bB (bV BK150) hb; clear hb hbox hg; have hnb6 := NB149_150.out; have hnc6 := NB150_149.out; have hnb7 := NB149_151.out; have hnc7 := NB151_149.out; have hcz8_0 := cz BK149 0 (.int .i64 a0_0); have hcz8_1 := cz BK149 1 (.slice A0_1 l0_1.length c0_1); have hfz8_0 := fz BK149 0; have hfz8_1 := fz BK149 1; have hnb9 := NB151_150.out; have hnc9 := NB150_151.out; have hcz10_0 := cz BK151 0 (.int .i64 0); have hcz10_1 := cz BK151 1 (.slice none 0 0); have hfz10_0 := fz BK151 0; have hfz10_1 := fz BK151 1) | ((with_reducible refine gate_store (t := 3) (p := 6) rfl ?_); refine store_event (t := 3) (p := 6) (v := ?vo_w11) (w1 := (w5.setCell ⟨gb151, 0, none⟩ (.int .i64 a0_0))) ?hg ?ho ?hn ?hr ?_; (case ho => rfl); (case hg => rfl); (case hn => rfl); (case hr => first | (go_simp; done) | (go_simp; rfl) | (have hq0_ := (blk_cell BK151.out 0).trans (show _ = some _ from rfl); have hf0_ := blk_frozen BK151.out 0; first | (go_simp; done) | (go_simp; rfl))); intro w11 hw; replace BK149 : Aside0 (w11.heap[gb149]? = some (.cells #[.int .i64 a0_0, .slice A0_1 l0_1.length c0_1] 24 (0, 0))) := ⟨(by rw [hw]; exact (bG NB149_151 BK149))⟩; replace BK150 : Aside0 (w11.heap[gb150]? = some (.cells #[.int .i64 0, .slice none 0 0] 30 (0, 0))) := ⟨(by rw [hw]; exact (bG NB150_151 BK150))⟩; replace BK151 : Aside0 (w11.heap[gb151]? = some (.cells #[.int .i64 a0_0, .slice none 0 0] 30 (0, 0))) := ⟨(by rw [hw]; exact (by refine bU ?_; refine blk_put (cs := #[.int .i64 0, .slice none 0 0]) ?_ 0 _ rfl; refine bU ?_; exact BK151.out))⟩; replace HB : Aside0 (Below w.heap.size w w11) := ⟨(by rw [hw]; exact (lV3 GE149 GE150 GE151))⟩; clear hw; have hcz12_0 := cz BK149 0 (.int .i64 a0_0); have hcz12_1 := cz BK149 1 (.slice A0_1 l0_1.length c0_1); have hfz12_0 := fz BK149 0; have hfz12_1 := fz BK149 1) | ((with_reducible refine gate_callee (f := 24) rfl ?_); refine goesL_ (some 9) rfl rfl Try.func24 (by kernel_rfl) rfl #[.slice A0_1 l0_1.length c0_1] rfl aE ?_; (with_reducible refine (laws_toTimerS.calls k _ _ l0_1 t152 _ ?side1 ?side2 A2.out).mono ?_); (case side1 => exact cU (Kd.C_below HR0_1.out HB.out)); (case side2 => exact HC0_1.out); rintro e w13 ⟨v153, rfl, ho0, hb⟩; refine ⟨_, rfl, ?_⟩; have HO154 := Aside0.mk (Kd.R_lower ho0 (below_size (lV3 GE149 GE150 GE151))); replace BK149 := bB (bV BK149) hb; replace BK150 := bB (bV BK150) hb; replace BK151 := bB (bV BK151) hb; replace HB := bH (lV3 GE149 GE150 GE151) hb; (try clear hb); (try clear ho0); obtain ⟨Ao14, co14, eo14⟩ := Kd.R_slice HO154.out; subst eo14; have hcz15_0 := cz BK151 0 (.int .i64 a0_0); have hcz15_1 := cz BK151 1 (.slice none 0 0); have hfz15_0 := fz BK151 0; have hfz15_1 := fz BK151 1) | ((with_reducible refine gate_store (t := 28) (p := 10) rfl ?_); refine store_event (t := 28) (p := 10) (v := ?vo_w16) (w1 := (w13.setCell ⟨gb151, 1, none⟩ (.slice Ao14 t152.length co14))) ?hg ?ho ?hn ?hr ?_; (case ho => rfl); (case hg => rfl); (case hn => rfl); (case hr => first | (go_simp; done) | (go_simp; rfl) | (have hq0_ := (blk_cell BK151.out 1).trans (show _ = some _ from rfl); have hf0_ := blk_frozen BK151.out 1; first | (go_simp; done) | (go_simp; rfl))); intro w16 hw; replace HO154 : Aside0 (Kd.R k34 34 w16 w.heap.size (fun _ => True) (.slice Ao14 t152.length co14) t152) := ⟨(by rw [hw]; exact (by (with_reducible repeat (first | apply Kd.R_alloc | apply Kd.R_drewN | apply Kd.R_drew)); exact Kd.R_mono (Kd.R_far (p := ⟨gb151, 1, none⟩) (Kd.R_types HO154.out BK151.out (by decide)) (fun _ hk => hk.2) (.slice Ao14 t152.length co14)) (fun _ hk => trivial)))⟩; replace BK149 : Aside0 (w16.heap[gb149]? = some (.cells #[.int .i64 a0_0, .slice A0_1 l0_1.length c0_1] 24 (0, 0))) := ⟨(by rw [hw]; exact (bG NB149_151 BK149))⟩; replace BK150 : Aside0 (w16.heap[gb150]? = some (.cells #[.int .i64 0, .slice none 0 0] 30 (0, 0))) := ⟨(by rw [hw]; exact (bG NB150_151 BK150))⟩; replace BK151 : Aside0 (w16.heap[gb151]? = some (.cells #[.int .i64 a0_0, .slice Ao14 t152.length co14] 30 (0, 0))) := ⟨(by rw [hw]; exact (by refine bU ?_; refine blk_put (cs := #[.int .i64 a0_0, .slice none 0 0]) ?_ 1 _ rfl; refine bU ?_; exact BK151.out))⟩; replace HB : Aside0 (Below w.heap.size w w16) := ⟨(by rw [hw]; exact (lV3 GE149 GE150 GE151))⟩; clear hw; have hcz17_0 := cz BK151 0 (.int .i64 a0_0); have hcz17_1 := cz BK151 1 (.slice Ao14 t152.length co14); have hfz17_0 := fz BK151 0; have hfz17_1 := fz BK151 1; have hcz18_0 := cz BK150 0 (.int .i64 0); have hcz18_1 := cz BK150 1 (.slice none 0 0); have hfz18_0 := fz BK150 0; have hfz18_1 := fz BK150 1) | ((with_reducible refine gate_store (t := 30) (p := 2) rfl ?_); refine store_event (t := 30) (p := 2) (v := ?vo_w19) (w1 := ((w16.setCell ⟨gb150, 0, none⟩ (.int .i64 a0_0)).setCell ⟨gb150, 1, none⟩ (.slice Ao14 t152.length co14))) ?hg ?ho ?hn ?hr ?_; (case ho => rfl); (case hg => rfl); (case hn => rfl); (case hr => first | (go_simp; done) | (go_simp; rfl) | (have hq0_ := (blk_cell BK150.out 0).trans (show _ = some _ from rfl); have hf0_ := blk_frozen BK150.out 0; have hq1_ := (blk_cell BK150.out 1).trans (show _ = some _ from rfl); have hf1_ := blk_frozen BK150.out 1; first | (go_simp; done) | (go_simp; rfl))); intro w19 hw; replace HO154 : Aside0 (Kd.R k34 34 w19 w.heap.size (fun _ => True) (.slice Ao14 t152.length co14) t152) := ⟨(by rw [hw]; exact (by (with_reducible repeat (first | apply Kd.R_alloc | apply Kd.R_drewN | apply Kd.R_drew)); exact Kd.R_mono (Kd.R_far (p := ⟨gb150, 1, none⟩) (Kd.R_far (p := ⟨gb150, 0, none⟩) (Kd.R_types HO154.out BK150.out (by decide)) (fun _ hk => hk.2) (.int .i64 a0_0)) (fun _ hk => hk.2) (.slice Ao14 t152.length co14)) (fun _ hk => trivial)))⟩; replace BK149 : Aside0 (w19.heap[gb149]? = some (.cells #[.int .i64 a0_0, .slice A0_1 l0_1.length c0_1] 24 (0, 0))) := ⟨(by rw [hw]; exact (bG NB149_150 BK149))⟩; replace BK150 : Aside0 (w19.heap[gb150]? = some (.cells #[.int .i64 a0_0, .slice Ao14 t152.length co14] 30 (0, 0))) := ⟨(by rw [hw]; exact (by refine bU ?_; refine blk_put (cs := #[.int .i64 a0_0, .slice none 0 0]) ?_ 1 _ rfl; refine bU ?_; refine blk_put (cs := #[.int .i64 0, .slice none 0 0]) ?_ 0 _ rfl; refine bU ?_; exact BK150.out))⟩; replace BK151 : Aside0 (w19.heap[gb151]? = some (.cells #[.int .i64 a0_0, .slice Ao14 t152.length co14] 30 (0, 0))) := ⟨(by rw [hw]; exact (bG NB151_150 BK151))⟩; replace HB : Aside0 (Below w.heap.size w w19) := ⟨(by rw [hw]; exact (lV3 GE149 GE150 GE151))⟩; clear hw))
 refine bodyPost_ret (results_cell_row rfl _ _ gb150 30 #[.int .i64 a0_0, .slice Ao14 t152.length co14] (0, 0) _ rfl (bV BK150) Try.underlying30 rfl (by kernel_rfl)) rfl ?_
 exact ⟨_, eE, by (with_reducible repeat (first | apply Kd.R_alloc | apply Kd.R_drewN | apply Kd.R_drew)); exact HO154.out, lV3 GE149 GE150 GE151⟩
def impl_inRange.f (a0 : Int) (a1 : Int) (a2 : Int) : Option (Bool) := if a1 ≤ a0 then (some (decide (a0 ≤ a2))) else (some false)
set_option maxHeartbeats 8000000 in
set_option maxRecDepth 100000 in
theorem impl_inRange.calls (a0 : Int) (a1 : Int) (a2 : Int) (r : Bool) (w : World) (h : impl_inRange.f a0 a1 a2 = some r) :
  Calls Try.prog 53 #[.int .i64 a0, .int .i64 a1, .int .i64 a2] w fun e w' => e = .returned (.bool r) ∧ Drawn0 w w' := by
 have H : (if a1 ≤ a0 then (some (decide (a0 ≤ a2))) else (some false)) = some r := h
 clear h
 by_cases c4 : a1 ≤ a0
 ·rw [if_pos c4] at H
  have c4b0 : decide (a1 ≤ a0) = true := decide_eq_true c4
  clear c4
  obtain rfl := Option.some.inj H
  go_enter Try.func53, Try.ntmps53
  go_wp2
  go_ret
  exact ⟨by first | rfl | (simp; done) | (simp [*]; done) | exact not_isEmpty _ | exact (not_isEmpty _).symm | exact is_empty _ | exact (is_empty _).symm, by repeat (first | exact Drawn0.refl _ | apply Drawn0.step)⟩
 ·rw [if_neg c4] at H
  have c4b0 : decide (a1 ≤ a0) = false := decide_eq_false c4
  clear c4
  obtain rfl := Option.some.inj H
  go_enter Try.func53, Try.ntmps53
  go_wp2
  go_ret
  exact ⟨by first | rfl | (simp; done) | (simp [*]; done) | exact not_isEmpty _ | exact (not_isEmpty _).symm | exact is_empty _ | exact (is_empty _).symm, by repeat (first | exact Drawn0.refl _ | apply Drawn0.step)⟩
def impl_isTime.f (a0 : Int) : Option (Bool) := (impl_inRange.f a0 0 100000).bind fun t155 => (some t155)
set_option maxHeartbeats 8000000 in
set_option maxRecDepth 100000 in
theorem impl_isTime.calls (a0 : Int) (r : Bool) (w : World) (h : impl_isTime.f a0 = some r) :
  Calls Try.prog 52 #[.int .i64 a0] w fun e w' => e = .returned (.bool r) ∧ Drawn0 w w' := by
 have H : ((impl_inRange.f a0 0 100000).bind fun t155 => (some t155)) = some r := h
 clear h
 replace H := Option.bind_eq_some_iff.mp H
 obtain ⟨t155, A20, H⟩ := H
 replace H : (some t155) = some r := H
 have A2 := Aside0.mk A20
 clear A20
 obtain rfl := Option.some.inj H
 go_enter Try.func52, Try.ntmps52
 go_wp2_with (first | ((with_reducible refine gate_callee (f := 53) rfl ?_); refine goesL_ (some 4) rfl rfl Try.func53 (by kernel_rfl) rfl #[.int .i64 a0, .int .i64 0, .int .i64 100000] rfl aE ?_; (with_reducible refine (impl_inRange.calls a0 0 100000 t155 _ A2.out).mono ?_); rintro e w' ⟨rfl, ⟨nd, rfl⟩⟩; refine ⟨_, rfl, ?_⟩))
 go_ret
 exact ⟨by first | rfl | (simp; done) | (simp [*]; done) | exact not_isEmpty _ | exact (not_isEmpty _).symm | exact is_empty _ | exact (is_empty _).symm, by repeat (first | exact Drawn0.refl _ | apply Drawn0.step)⟩
end Go.Proofs.Ytjmcahjcgfflgaa.PFnExactAddTimer
namespace Go.Proofs.Ytjmcahjcgfflgaa.PFnExactAddTimer
open Go.RowKit Go.Proofs.YtjmcahjcgfflgaaW.PrintWords Go.Proofs.YtjmcahjcgfflgaaW.PrintLast Go.Proofs.YtjmcahjcgfflgaaW.PrintMore
attribute [local go_sem] max2_int min2_int max_two min_two max_three min_three max_four min_four   -- for this text's walks alone
set_option linter.unusedVariables false
set_option linter.unusedSimpArgs false
def impl_isTimer.f (a0_0 : Int) (a0_1 : Int) (a0_2 : Int) (a0_3 : Int) (a1 : Int) : Option (Bool) := (impl_inRange.f a0_0 0 999).bind fun t157 => (if t157 = true then ((impl_inRange.f a0_1 (wrap64 (a1 + 1)) 200000).bind fun t158 => (if t158 = true then ((impl_isTime.f a0_2).bind fun t159 => (if t159 = true then ((impl_inRange.f a0_3 1 1000).bind fun t160 => (if t160 = true then (if a0_2 > 0 then (some true) else (some (a0_3 == 1))) else (some false))) else (some false))) else (some false))) else (some false))
set_option maxHeartbeats 8000000 in
set_option maxRecDepth 100000 in
theorem impl_isTimer.calls (a0_0 : Int) (a0_1 : Int) (a0_2 : Int) (a0_3 : Int) (a1 : Int) (r : Bool) (w : World) (h : impl_isTimer.f a0_0 a0_1 a0_2 a0_3 a1 = some r) :
  Calls Try.prog 26 #[.agg #[.int .i64 a0_0, .int .i64 a0_1, .int .i64 a0_2, .int .i64 a0_3], .int .i64 a1] w fun e w' => e = .returned (.bool r) ∧ Below w.heap.size w w' := by
 have hu34 := Try.underlying34
 have HB := Aside0.mk (Below.refl w.heap.size w)
 have H : ((impl_inRange.f a0_0 0 999).bind fun t157 => (if t157 = true then ((impl_inRange.f a0_1 (wrap64 (a1 + 1)) 200000).bind fun t158 => (if t158 = true then ((impl_isTime.f a0_2).bind fun t159 => (if t159 = true then ((impl_inRange.f a0_3 1 1000).bind fun t160 => (if t160 = true then (if a0_2 > 0 then (some true) else (some (a0_3 == 1))) else (some false))) else (some false))) else (some false))) else (some false))) = some r := h
 clear h
 replace H := Option.bind_eq_some_iff.mp H
 obtain ⟨t157, A30, H⟩ := H
 replace H : (if t157 = true then ((impl_inRange.f a0_1 (wrap64 (a1 + 1)) 200000).bind fun t158 => (if t158 = true then ((impl_isTime.f a0_2).bind fun t159 => (if t159 = true then ((impl_inRange.f a0_3 1 1000).bind fun t160 => (if t160 = true then (if a0_2 > 0 then (some true) else (some (a0_3 == 1))) else (some false))) else (some false))) else (some false))) else (some false)) = some r := H
 have A3 := Aside0.mk A30
 clear A30
 by_cases c4 : t157 = true
 ·subst c4
  have H1 : ((impl_inRange.f a0_1 (wrap64 (a1 + 1)) 200000).bind fun t158 => (if t158 = true then ((impl_isTime.f a0_2).bind fun t159 => (if t159 = true then ((impl_inRange.f a0_3 1 1000).bind fun t160 => (if t160 = true then (if a0_2 > 0 then (some true) else (some (a0_3 == 1))) else (some false))) else (some false))) else (some false))) = some r := by rw [if_pos rfl] at H; exact H
  clear H
  have H := H1
  clear H1
  replace H := Option.bind_eq_some_iff.mp H
  obtain ⟨t158, A50, H⟩ := H
  replace H : (if t158 = true then ((impl_isTime.f a0_2).bind fun t159 => (if t159 = true then ((impl_inRange.f a0_3 1 1000).bind fun t160 => (if t160 = true then (if a0_2 > 0 then (some true) else (some (a0_3 == 1))) else (some false))) else (some false))) else (some false)) = some r := H
  have A5 := Aside0.mk A50
  clear A50
  by_cases c6 : t158 = true
  ·subst c6
   have H1 : ((impl_isTime.f a0_2).bind fun t159 => (if t159 = true then ((impl_inRange.f a0_3 1 1000).bind fun t160 => (if t160 = true then (if a0_2 > 0 then (some true) else (some (a0_3 == 1))) else (some false))) else (some false))) = some r := by rw [if_pos rfl] at H; exact H
   clear H
   have H := H1
   clear H1
   replace H := Option.bind_eq_some_iff.mp H
   obtain ⟨t159, A70, H⟩ := H
   replace H : (if t159 = true then ((impl_inRange.f a0_3 1 1000).bind fun t160 => (if t160 = true then (if a0_2 > 0 then (some true) else (some (a0_3 == 1))) else (some false))) else (some false)) = some r := H
   have A7 := Aside0.mk A70
   clear A70
   by_cases c8 : t159 = true
   ·subst c8
    have H1 : ((impl_inRange.f a0_3 1 1000).bind fun t160 => (if t160 = true then (if a0_2 > 0 then (some true) else (some (a0_3 == 1))) else (some false))) = some r := by rw [if_pos rfl] at H; exact H
    clear H
    have H := H1
    clear H1
    replace H := Option.bind_eq_some_iff.mp H
    obtain ⟨t160, A90, H⟩ := H
    replace H : (if t160 = true then (if a0_2 > 0 then (some true) else (some (a0_3 == 1))) else (some false)) = some r := H
    have A9 := Aside0.mk A90
    clear A90
    by_cases c10 : t160 = true
    ·subst c10
     have H1 : (if a0_2 > 0 then (some true) else (some (a0_3 == 1))) = some r := by rw [if_pos rfl] at H; exact H
     clear H
     have H := H1
     clear H1
     by_cases c11 : a0_2 > 0
     ·rw [if_pos c11] at H
      have c11b0 : decide (0 < a0_2) = true := decide_eq_true c11
      clear c11
      obtain rfl := Option.some.inj H
      go_enter Try.func26, Try.ntmps26
      go_wp2_with (first | ((with_reducible refine gate_dst (N := 2) rfl ?_); refine box_event rfl (N := 2) rfl (cs := #[.int .i64 a0_0, .int .i64 a0_1, .int .i64 a0_2, .int .i64 a0_3]) (t := 34) sE ?_; intro gb156 hg w12 hbox hb; have BK156 := Aside0.mk hbox; have GW156 := gS w hg (lU); have GE156 := gS w hg (lU); replace HB := bH (lU) hb; clear hb hbox hg; have hcz13_0 := cz BK156 0 (.int .i64 a0_0); have hcz13_1 := cz BK156 1 (.int .i64 a0_1); have hcz13_2 := cz BK156 2 (.int .i64 a0_2); have hcz13_3 := cz BK156 3 (.int .i64 a0_3); have hfz13_0 := fz BK156 0; have hfz13_1 := fz BK156 1; have hfz13_2 := fz BK156 2; have hfz13_3 := fz BK156 3) | ((with_reducible refine gate_callee (f := 53) rfl ?_); refine goesL_ (some 7) rfl rfl Try.func53 (by kernel_rfl) rfl #[.int .i64 a0_0, .int .i64 0, .int .i64 999] rfl aE ?_; (with_reducible refine (impl_inRange.calls a0_0 0 999 true _ A3.out).mono ?_); rintro e w' ⟨rfl, ⟨nd, rfl⟩⟩; refine ⟨_, rfl, ?_⟩) | (go_at_call 53; (with_reducible refine (impl_inRange.calls a0_1 (wrap64 (a1 + 1)) 200000 true _ A5.out).mono ?_); rintro e w' ⟨rfl, ⟨nd, rfl⟩⟩) | (go_at_call 52; (with_reducible refine (impl_isTime.calls a0_2 true _ A7.out).mono ?_); rintro e w' ⟨rfl, ⟨nd, rfl⟩⟩) | (go_at_call 53; (with_reducible refine (impl_inRange.calls a0_3 1 1000 true _ A9.out).mono ?_); rintro e w' ⟨rfl, ⟨nd, rfl⟩⟩))
      go_ret
      exact ⟨eE, lV1 GE156⟩
     ·rw [if_neg c11] at H
      have c11b0 : decide (0 < a0_2) = false := decide_eq_false c11
      clear c11
      obtain rfl := Option.some.inj H
      go_enter Try.func26, Try.ntmps26
      go_wp2_with (first | ((with_reducible refine gate_dst (N := 2) rfl ?_); refine box_event rfl (N := 2) rfl (cs := #[.int .i64 a0_0, .int .i64 a0_1, .int .i64 a0_2, .int .i64 a0_3]) (t := 34) sE ?_; intro gb156 hg w14 hbox hb; have BK156 := Aside0.mk hbox; have GW156 := gS w hg (lU); have GE156 := gS w hg (lU); replace HB := bH (lU) hb; clear hb hbox hg; have hcz15_0 := cz BK156 0 (.int .i64 a0_0); have hcz15_1 := cz BK156 1 (.int .i64 a0_1); have hcz15_2 := cz BK156 2 (.int .i64 a0_2); have hcz15_3 := cz BK156 3 (.int .i64 a0_3); have hfz15_0 := fz BK156 0; have hfz15_1 := fz BK156 1; have hfz15_2 := fz BK156 2; have hfz15_3 := fz BK156 3) | ((with_reducible refine gate_callee (f := 53) rfl ?_); refine goesL_ (some 7) rfl rfl Try.func53 (by kernel_rfl) rfl #[.int .i64 a0_0, .int .i64 0, .int .i64 999] rfl aE ?_; (with_reducible refine (impl_inRange.calls a0_0 0 999 true _ A3.out).mono ?_); rintro e w' ⟨rfl, ⟨nd, rfl⟩⟩; refine ⟨_, rfl, ?_⟩) | (go_at_call 53; (with_reducible refine (impl_inRange.calls a0_1 (wrap64 (a1 + 1)) 200000 true _ A5.out).mono ?_); rintro e w' ⟨rfl, ⟨nd, rfl⟩⟩) | (go_at_call 52; (with_reducible refine (impl_isTime.calls a0_2 true _ A7.out).mono ?_); rintro e w' ⟨rfl, ⟨nd, rfl⟩⟩) | (go_at_call 53; (with_reducible refine (impl_inRange.calls a0_3 1 1000 true _ A9.out).mono ?_); rintro e w' ⟨rfl, ⟨nd, rfl⟩⟩))
      go_ret
      exact ⟨eE, lV1 GE156⟩
    ·replace c10 := Bool.eq_false_iff.mpr c10
     subst c10
     have H1 : (some false) = some r := by rw [if_neg (show ¬ (false = true) by decide)] at H; exact H
     clear H
     have H := H1
     clear H1
     obtain rfl := Option.some.inj H
     go_enter Try.func26, Try.ntmps26
     go_wp2_with (first | ((with_reducible refine gate_dst (N := 2) rfl ?_); refine box_event rfl (N := 2) rfl (cs := #[.int .i64 a0_0, .int .i64 a0_1, .int .i64 a0_2, .int .i64 a0_3]) (t := 34) sE ?_; intro gb156 hg w16 hbox hb; have BK156 := Aside0.mk hbox; have GW156 := gS w hg (lU); have GE156 := gS w hg (lU); replace HB := bH (lU) hb; clear hb hbox hg; have hcz17_0 := cz BK156 0 (.int .i64 a0_0); have hcz17_1 := cz BK156 1 (.int .i64 a0_1); have hcz17_2 := cz BK156 2 (.int .i64 a0_2); have hcz17_3 := cz BK156 3 (.int .i64 a0_3); have hfz17_0 := fz BK156 0; have hfz17_1 := fz BK156 1; have hfz17_2 := fz BK156 2; have hfz17_3 := fz BK156 3) | ((with_reducible refine gate_callee (f := 53) rfl ?_); refine goesL_ (some 7) rfl rfl Try.func53 (by kernel_rfl) rfl #[.int .i64 a0_0, .int .i64 0, .int .i64 999] rfl aE ?_; (with_reducible refine (impl_inRange.calls a0_0 0 999 true _ A3.out).mono ?_); rintro e w' ⟨rfl, ⟨nd, rfl⟩⟩; refine ⟨_, rfl, ?_⟩) | (go_at_call 53; (with_reducible refine (impl_inRange.calls a0_1 (wrap64 (a1 + 1)) 200000 true _ A5.out).mono ?_); rintro e w' ⟨rfl, ⟨nd, rfl⟩⟩) | (go_at_call 52; (with_reducible refine (impl_isTime.calls a0_2 true _ A7.out).mono ?_); rintro e w' ⟨rfl, ⟨nd, rfl⟩⟩) | (go_at_call 53; (with_reducible refine (impl_inRange.calls a0_3 1 1000 false _ A9.out).mono ?_); rintro e w' ⟨rfl, ⟨nd, rfl⟩⟩))
     go_ret
     exact ⟨eE, lV1 GE156⟩
   ·replace c8 := Bool.eq_false_iff.mpr c8
    subst c8
    have H1 : (some false) = some r := by rw [if_neg (show ¬ (false = true) by decide)] at H; exact H
    clear H
    have H := H1
    clear H1
    obtain rfl := Option.some.inj H
    go_enter Try.func26, Try.ntmps26
    go_wp2_with (first | ((with_reducible refine gate_dst (N := 2) rfl ?_); refine box_event rfl (N := 2) rfl (cs := #[.int .i64 a0_0, .int .i64 a0_1, .int .i64 a0_2, .int .i64 a0_3]) (t := 34) sE ?_; intro gb156 hg w18 hbox hb; have BK156 := Aside0.mk hbox; have GW156 := gS w hg (lU); have GE156 := gS w hg (lU); replace HB := bH (lU) hb; clear hb hbox hg; have hcz19_0 := cz BK156 0 (.int .i64 a0_0); have hcz19_1 := cz BK156 1 (.int .i64 a0_1); have hcz19_2 := cz BK156 2 (.int .i64 a0_2); have hcz19_3 := cz BK156 3 (.int .i64 a0_3); have hfz19_0 := fz BK156 0; have hfz19_1 := fz BK156 1; have hfz19_2 := fz BK156 2; have hfz19_3 := fz BK156 3) | ((with_reducible refine gate_callee (f := 53) rfl ?_); refine goesL_ (some 7) rfl rfl Try.func53 (by kernel_rfl) rfl #[.int .i64 a0_0, .int .i64 0, .int .i64 999] rfl aE ?_; (with_reducible refine (impl_inRange.calls a0_0 0 999 true _ A3.out).mono ?_); rintro e w' ⟨rfl, ⟨nd, rfl⟩⟩; refine ⟨_, rfl, ?_⟩) | (go_at_call 53; (with_reducible refine (impl_inRange.calls a0_1 (wrap64 (a1 + 1)) 200000 true _ A5.out).mono ?_); rintro e w' ⟨rfl, ⟨nd, rfl⟩⟩) | (go_at_call 52; (with_reducible refine (impl_isTime.calls a0_2 false _ A7.out).mono ?_); rintro e w' ⟨rfl, ⟨nd, rfl⟩⟩))
    go_ret
    exact ⟨eE, lV1 GE156⟩
  ·replace c6 := Bool.eq_false_iff.mpr c6
   subst c6
   have H1 : (some false) = some r := by rw [if_neg (show ¬ (false = true) by decide)] at H; exact H
   clear H
   have H := H1
   clear H1
   obtain rfl := Option.some.inj H
   go_enter Try.func26, Try.ntmps26
   go_wp2_with (first | ((with_reducible refine gate_dst (N := 2) rfl ?_); refine box_event rfl (N := 2) rfl (cs := #[.int .i64 a0_0, .int .i64 a0_1, .int .i64 a0_2, .int .i64 a0_3]) (t := 34) sE ?_; intro gb156 hg w20 hbox hb; have BK156 := Aside0.mk hbox; have GW156 := gS w hg (lU); have GE156 := gS w hg (lU); replace HB := bH (lU) hb; clear hb hbox hg; have hcz21_0 := cz BK156 0 (.int .i64 a0_0); have hcz21_1 := cz BK156 1 (.int .i64 a0_1); have hcz21_2 := cz BK156 2 (.int .i64 a0_2); have hcz21_3 := cz BK156 3 (.int .i64 a0_3); have hfz21_0 := fz BK156 0; have hfz21_1 := fz BK156 1; have hfz21_2 := fz BK156 2; have hfz21_3 := fz BK156 3) | ((with_reducible refine gate_callee (f := 53) rfl ?_); refine goesL_ (some 7) rfl rfl Try.func53 (by kernel_rfl) rfl #[.int .i64 a0_0, .int .i64 0, .int .i64 999] rfl aE ?_; (with_reducible refine (impl_inRange.calls a0_0 0 999 true _ A3.out).mono ?_); rintro e w' ⟨rfl, ⟨nd, rfl⟩⟩; refine ⟨_, rfl, ?_⟩) | (go_at_call 53; (with_reducible refine (impl_inRange.calls a0_1 (wrap64 (a1 + 1)) 200000 false _ A5.out).mono ?_); rintro e w' ⟨rfl, ⟨nd, rfl⟩⟩))
   go_ret
   exact ⟨eE, lV1 GE156⟩
 ·replace c4 := Bool.eq_false_iff.mpr c4
  subst c4
  have H1 : (some false) = some r := by rw [if_neg (show ¬ (false = true) by decide)] at H; exact H
  clear H
  have H := H1
  clear H1
  obtain rfl := Option.some.inj H
  go_enter Try.func26, Try.ntmps26
  go_wp2_with (first | ((with_reducible refine gate_dst (N := 2) rfl ?_); refine box_event rfl (N := 2) rfl (cs := #[.int .i64 a0_0, .int .i64 a0_1, .int .i64 a0_2, .int .i64 a0_3]) (t := 34) sE ?_; intro gb156 hg w22 hbox hb; have BK156 := Aside0.mk hbox; have GW156 := gS w hg (lU); have GE156 := gS w hg (lU); replace HB := bH (lU) hb; clear hb hbox hg; have hcz23_0 := cz BK156 0 (.int .i64 a0_0); have hcz23_1 := cz BK156 1 (.int .i64 a0_1); have hcz23_2 := cz BK156 2 (.int .i64 a0_2); have hcz23_3 := cz BK156 3 (.int .i64 a0_3); have hfz23_0 := fz BK156 0; have hfz23_1 := fz BK156 1; have hfz23_2 := fz BK156 2; have hfz23_3 := fz BK156 3) | ((with_reducible refine gate_callee (f := 53) rfl ?_); refine goesL_ (some 7) rfl rfl Try.func53 (by kernel_rfl) rfl #[.int .i64 a0_0, .int .i64 0, .int .i64 999] rfl aE ?_; (with_reducible refine (impl_inRange.calls a0_0 0 999 false _ A3.out).mono ?_); rintro e w' ⟨rfl, ⟨nd, rfl⟩⟩; refine ⟨_, rfl, ?_⟩))
  go_ret
  exact ⟨eE, lV1 GE156⟩
end Go.Proofs.Ytjmcahjcgfflgaa.PFnExactAddTimer
namespace Go.Proofs.Ytjmcahjcgfflgaa.PFnExactAddTimer
open Go.RowKit Go.Proofs.YtjmcahjcgfflgaaW.PrintWords Go.Proofs.YtjmcahjcgfflgaaW.PrintLast Go.Proofs.YtjmcahjcgfflgaaW.PrintMore
attribute [local go_sem] max2_int min2_int max_two min_two max_three min_three max_four min_four   -- for this text's walks alone
set_option linter.unusedVariables false
set_option linter.unusedSimpArgs false
mutual
def impl_GoodClock.j0 : Nat → Bool → Int → List (S34) → Option (Bool)
 | 0, _, _, _ => none
 | k + 1, x14, x162000, x162001 => if x14 = true then (some false) else (impl_GoodClock.l0 k x162001 (x162001.length : Int) 0 x162000 x162001)
def impl_GoodClock.l0 : Nat → List (S34) → Int → Int → Int → List (S34) → Option (Bool)
 | 0, _, _, _, _, _ => none
 | k + 1, x16, x17, x18, x162000, x162001 => if x18 < x17 then (if 0 ≤ x18 then (if x18 < (x16.length : Int) then ((impl_isTimer.f ((rd_T34 x16 x18).f0) ((rd_T34 x16 x18).f1) ((rd_T34 x16 x18).f2) ((rd_T34 x16 x18).f3) x162000).bind fun t165 => (if t165 = true then (if x18 > 0 then (if 0 ≤ (wrap64 (x18 - 1)) then (if (wrap64 (x18 - 1)) < (x162001.length : Int) then (if ((rd_T34 x162001 (wrap64 (x18 - 1))).f0) ≥ ((rd_T34 x16 x18).f0) then (some false) else (impl_GoodClock.l0 k x16 x17 (wrap64 (x18 + 1)) x162000 x162001)) else (none)) else (none)) else (impl_GoodClock.l0 k x16 x17 (wrap64 (x18 + 1)) x162000 x162001)) else (some false))) else (none)) else (none)) else (some true)
end
def impl_GoodClock.f (k : Nat) (a0_0 : Int) (l0_1 : List (S34)) : Option (Bool) := (impl_isTime.f a0_0).bind fun t162 => (if t162 = true then (impl_GoodClock.j0 k (decide ((l0_1.length : Int) > 20)) a0_0 l0_1) else (impl_GoodClock.j0 k true a0_0 l0_1))
theorem impl_GoodClock.mono_l : ∀ k, (∀ y0 y1 y2, LeO (impl_GoodClock.j0 k y0 y1 y2) (impl_GoodClock.j0 (k + 1) y0 y1 y2)) ∧ (∀ y0 y1 y2 y3 y4, LeO (impl_GoodClock.l0 k y0 y1 y2 y3 y4) (impl_GoodClock.l0 (k + 1) y0 y1 y2 y3 y4))
 | 0 => ⟨fun _ _ _ r h => by simp [impl_GoodClock.j0] at h, fun _ _ _ _ _ r h => by simp [impl_GoodClock.l0] at h⟩
 | k + 1 => by
  obtain ⟨ih0, ih1⟩ := impl_GoodClock.mono_l k
  refine ⟨?_, ?_⟩
  ·intro y0 y1 y2
   unfold impl_GoodClock.j0
   repeat' first
   | (with_reducible exact ih0 _ _ _)
   | (with_reducible exact ih1 _ _ _ _ _)
   | (with_reducible exact LeO.refl _)
   | (with_reducible exact LeO.none _)
   | (with_reducible refine LeO.ite ?_ ?_)
   | (with_reducible refine LeO.bind ?_ (fun _ => ?_))
   | exact ih0 _ _ _
   | exact ih1 _ _ _ _ _
   | exact LeO.none _
   | refine LeO.ite ?_ ?_
   | refine LeO.bind ?_ (fun _ => ?_)
  ·intro y0 y1 y2 y3 y4
   unfold impl_GoodClock.l0
   repeat' first
   | (with_reducible exact ih0 _ _ _)
   | (with_reducible exact ih1 _ _ _ _ _)
   | (with_reducible exact LeO.refl _)
   | (with_reducible exact LeO.none _)
   | (with_reducible refine LeO.ite ?_ ?_)
   | (with_reducible refine LeO.bind ?_ (fun _ => ?_))
   | exact ih0 _ _ _
   | exact ih1 _ _ _ _ _
   | exact LeO.none _
   | refine LeO.ite ?_ ?_
   | refine LeO.bind ?_ (fun _ => ?_)
theorem impl_GoodClock.mono : ∀ a0 a1 k, LeO (impl_GoodClock.f k a0 a1) (impl_GoodClock.f (k + 1) a0 a1) := by
 intro a0 a1 k
 obtain ⟨ih0, ih1⟩ := impl_GoodClock.mono_l k
 unfold impl_GoodClock.f
 repeat' first
   | (with_reducible exact ih0 _ _ _)
   | (with_reducible exact ih1 _ _ _ _ _)
   | (with_reducible exact LeO.refl _)
   | (with_reducible exact LeO.none _)
   | (with_reducible refine LeO.ite ?_ ?_)
   | (with_reducible refine LeO.bind ?_ (fun _ => ?_))
   | exact ih0 _ _ _
   | exact ih1 _ _ _ _ _
   | exact LeO.none _
   | refine LeO.ite ?_ ?_
   | refine LeO.bind ?_ (fun _ => ?_)
def impl_GoodClock.T6 : Bool × List (List Nat × List Nat) := (true, [([], []), ([], []), ([1], [1]), ([0, 2], [0, 2]), ([3], [3]), ([4, 3], [4]), ([5], [5]), ([6, 5], [5, 6]), ([7, 5, 5], [5, 7]), ([8], [8]), ([9, 8], [8, 9]), ([8], [8]), ([11, 8], [8, 11]), ([10, 12, 8], [8, 10, 12]), ([13, 8], [8, 13]), ([14, 8], [8, 14]), ([8], [8]), ([16, 8], [8, 16]), ([15, 17, 8], [8, 15, 17]), ([8, 18, 5], [5, 8, 18]), ([5, 19], [5, 19])])
def impl_GoodClock.B6 : List Nat := [0, 0, 2, 7, 15, 31, 63, 127, 255, 511, 1023, 511, 2559, 8191, 16383, 32767, 511, 66047, 262143, 524287, 1048575]
theorem impl_GoodClock.tab6 : rtab .any (opsOf Try.f25 6) = impl_GoodClock.T6 := by kernel_rfl
theorem impl_GoodClock.bits6 : waitsOk impl_GoodClock.T6.2 impl_GoodClock.B6 = true := by kernel_rfl
set_option maxHeartbeats 8000000 in
set_option maxRecDepth 100000 in
theorem impl_GoodClock.calls (k : Nat) (a0_0 : Int) (A0_1 : Option Addr) (c0_1 : Nat) (l0_1 : List (S34)) (r : Bool) (w : World) (hr0_1 : Kd.C k34 w A0_1 l0_1.length l0_1) (hc0_1 : l0_1.length ≤ c0_1) (h : impl_GoodClock.f k a0_0 l0_1 = some r) :
  Calls Try.prog 25 #[.agg #[.int .i64 a0_0, .slice A0_1 l0_1.length c0_1]] w fun e w' => e = .returned (.bool r) ∧ Below w.heap.size w w' := by
 have hu30 := Try.underlying30
 have hu34 := Try.underlying34
 have HR0_1 := Aside0.mk hr0_1
 have HC0_1 := Aside0.mk hc0_1
 clear hr0_1 hc0_1
 have HB := Aside0.mk (Below.refl w.heap.size w)
 have H : ((impl_isTime.f a0_0).bind fun t162 => (if t162 = true then (impl_GoodClock.j0 k (decide ((l0_1.length : Int) > 20)) a0_0 l0_1) else (impl_GoodClock.j0 k true a0_0 l0_1))) = some r := h
 clear h
 have HC2 := Aside0.mk H
 clear H
 go_enter Try.func25, Try.ntmps25
 go_upto_region 1 with (first | ((with_reducible refine gate_dst (N := 1) rfl ?_); (try (refine gate_guard (by rfl) ?_; dsimp only)); refine box_event rfl (N := 1) rfl (cs := #[.int .i64 a0_0, .slice A0_1 l0_1.length c0_1]) (t := 30) sE ?_; intro gb161 hg w3 hbox hb; have BK161 := Aside0.mk hbox; have GW161 := gS w hg (lU); have GE161 := gS w hg (lU); replace HB := bH (lU) hb; clear hb hbox hg))
 (try simp only [Act.put, List.setIfInBounds_toArray, List.set_cons_zero, List.set_cons_succ])
 go_cut [14] (fun v14 wc => ∃ (kq : Nat) (x14_1 : Bool), v14 = .bool x14_1 ∧ Aside0 (impl_GoodClock.j0 kq x14_1 a0_0 l0_1 = some r) ∧ Aside0 (kq ≤ k) ∧ Aside0 (wc.heap[gb161]? = some (.cells #[.int .i64 a0_0, (.slice A0_1 l0_1.length c0_1)] 30 (0, 0))) ∧ Aside0 (Below w.heap.size w wc))
 case first =>
  have H := HC2.out
  clear HC2
  replace H := Option.bind_eq_some_iff.mp H
  obtain ⟨t162, A40, H⟩ := H
  replace H : (if t162 = true then (impl_GoodClock.j0 k (decide ((l0_1.length : Int) > 20)) a0_0 l0_1) else (impl_GoodClock.j0 k true a0_0 l0_1)) = some r := H
  have A4 := Aside0.mk A40
  clear A40
  by_cases c5 : t162 = true
  ·subst c5
   have H1 : (impl_GoodClock.j0 k (decide ((l0_1.length : Int) > 20)) a0_0 l0_1) = some r := by rw [if_pos rfl] at H; exact H
   clear H
   have H := H1
   clear H1
   have H' := Aside0.mk H
   clear H
   have hcz6_0 := cz BK161 0 (.int .i64 a0_0)
   have hcz6_1 := cz BK161 1 (.slice A0_1 l0_1.length c0_1)
   have hfz6_0 := fz BK161 0
   have hfz6_1 := fz BK161 1
   go_wp2_with (first | ((with_reducible refine gate_callee (f := 52) rfl ?_); refine goesL_ (some 7) rfl rfl Try.func52 (by kernel_rfl) rfl #[.int .i64 a0_0] rfl aE ?_; (with_reducible refine (impl_isTime.calls a0_0 true _ A4.out).mono ?_); rintro e w' ⟨rfl, ⟨nd, rfl⟩⟩; refine ⟨_, rfl, ?_⟩))
   go_meet
   case rel => exact ⟨_, (decide ((l0_1.length : Int) > 20)), tE, H', ⟨by first | omega | exact Nat.le_refl _⟩, ⟨by refine bU ?_; exact BK161.out⟩, ⟨by repeat (first | (with_reducible first | exact HB.out | apply below_alloc | apply pw_below_drewN | apply below_drew1 | refine below_set ?_ GE161.out) | exact HB.out)⟩⟩
  ·replace c5 := Bool.eq_false_iff.mpr c5
   subst c5
   have H1 : (impl_GoodClock.j0 k true a0_0 l0_1) = some r := by rw [if_neg (show ¬ (false = true) by decide)] at H; exact H
   clear H
   have H := H1
   clear H1
   have H' := Aside0.mk H
   clear H
   have hcz7_0 := cz BK161 0 (.int .i64 a0_0)
   have hcz7_1 := cz BK161 1 (.slice A0_1 l0_1.length c0_1)
   have hfz7_0 := fz BK161 0
   have hfz7_1 := fz BK161 1
   go_wp2_with (first | ((with_reducible refine gate_callee (f := 52) rfl ?_); refine goesL_ (some 7) rfl rfl Try.func52 (by kernel_rfl) rfl #[.int .i64 a0_0] rfl aE ?_; (with_reducible refine (impl_isTime.calls a0_0 false _ A4.out).mono ?_); rintro e w' ⟨rfl, ⟨nd, rfl⟩⟩; refine ⟨_, rfl, ?_⟩))
   go_meet
   case rel => exact ⟨_, (true), tE, H', ⟨by first | omega | exact Nat.le_refl _⟩, ⟨by refine bU ?_; exact BK161.out⟩, ⟨by repeat (first | (with_reducible first | exact HB.out | apply below_alloc | apply pw_below_drewN | apply below_drew1 | refine below_set ?_ GE161.out) | exact HB.out)⟩⟩
 case rest =>
  clear HC2
  try clear c2
  try clear p2
  try clear c5
  try clear hcz6_0
  try clear hcz6_1
  try clear hcz7_0
  try clear hcz7_1
  try clear hfz6_0
  try clear hfz6_1
  try clear hfz7_0
  try clear hfz7_1
  obtain ⟨kq, x14_1, rfl, HA, HJ1, BK161, HB⟩ := hcut
  cases kq with
  | zero => exact absurd HA.out (by simp [impl_GoodClock.j0])
  | succ kj1 =>
   have H := HA.out
   clear HA
   simp only [impl_GoodClock.j0] at H
   by_cases c8 : x14_1 = true
   ·subst c8
    have H1 : (some false) = some r := by rw [if_pos rfl] at H; exact H
    clear H
    have H := H1
    clear H1
    obtain rfl := Option.some.inj H
    go_wp2
    go_ret
    exact ⟨eE, lV1 GE161⟩
   ·replace c8 := Bool.eq_false_iff.mpr c8
    subst c8
    have H1 : (impl_GoodClock.l0 kj1 l0_1 (l0_1.length : Int) 0 a0_0 l0_1) = some r := by rw [if_neg (show ¬ (false = true) by decide)] at H; exact H
    clear H
    have H := H1
    clear H1
    have H' := Aside0.mk H
    clear H
    have hcz9_0 := cz BK161 0 (.int .i64 a0_0)
    have hcz9_1 := cz BK161 1 (.slice A0_1 l0_1.length c0_1)
    have hfz9_0 := fz BK161 0
    have hfz9_1 := fz BK161 1
    go_wp2
    go_loopg [18] kj1 (fun kq v18 w' => ∃ (x18_2 : Int), v18 = .int .i64 x18_2 ∧ Aside0 (impl_GoodClock.l0 kq l0_1 (l0_1.length : Int) x18_2 a0_0 l0_1 = some r) ∧ Aside0 (kq ≤ kj1) ∧ Aside0 (w'.heap[gb161]? = some (.cells #[.int .i64 a0_0, (.slice A0_1 l0_1.length c0_1)] 30 (0, 0))) ∧ Aside0 (Below w.heap.size w w'))
    case atStart => exact ⟨(0), tE, H', ⟨Nat.le_refl _⟩, ⟨by refine bU ?_; exact BK161.out⟩, ⟨by repeat (first | (with_reducible first | exact HB.out | apply below_alloc | apply pw_below_drewN | apply below_drew1 | refine below_set ?_ GE161.out) | exact HB.out)⟩⟩
    case round =>
     clear H'
     try clear c2
     try clear p2
     try clear c5
     try clear c8
     try clear hcz6_0
     try clear hcz6_1
     try clear hcz7_0
     try clear hcz7_1
     try clear hcz9_0
     try clear hcz9_1
     try clear hfz6_0
     try clear hfz6_1
     try clear hfz7_0
     try clear hfz7_1
     try clear hfz9_0
     try clear hfz9_1
     try clear p2
     obtain ⟨x18_2, rfl, HA, HK2, BK161, HB⟩ := hrel
     cases gk with
     | zero => exact absurd HA.out (by simp [impl_GoodClock.l0])
     | succ k2 =>
      have H := HA.out
      clear HA
      simp only [impl_GoodClock.l0] at H
      by_cases c10 : x18_2 < (l0_1.length : Int)
      ·rw [if_pos c10] at H
       have c10b0 : decide (x18_2 < (l0_1.length : Int)) = true := decide_eq_true c10
       clear c10
       by_cases c11 : 0 ≤ x18_2
       ·rw [if_pos c11] at H
        have c11b0 : decide (0 ≤ x18_2) = true := decide_eq_true c11
        clear c11
        by_cases c12 : x18_2 < (l0_1.length : Int)
        ·rw [if_pos c12] at H
         have c12b0 : decide (x18_2 < (l0_1.length : Int)) = true := decide_eq_true c12
         clear c12
         replace H := Option.bind_eq_some_iff.mp H
         obtain ⟨t165, A130, H⟩ := H
         replace H : (if t165 = true then (if x18_2 > 0 then (if 0 ≤ (wrap64 (x18_2 - 1)) then (if (wrap64 (x18_2 - 1)) < (l0_1.length : Int) then (if ((rd_T34 l0_1 (wrap64 (x18_2 - 1))).f0) ≥ ((rd_T34 l0_1 x18_2).f0) then (some false) else (impl_GoodClock.l0 k2 l0_1 (l0_1.length : Int) (wrap64 (x18_2 + 1)) a0_0 l0_1)) else (none)) else (none)) else (impl_GoodClock.l0 k2 l0_1 (l0_1.length : Int) (wrap64 (x18_2 + 1)) a0_0 l0_1)) else (some false)) = some r := H
         have A13 := Aside0.mk A130
         clear A130
         by_cases c14 : t165 = true
         ·subst c14
          have H1 : (if x18_2 > 0 then (if 0 ≤ (wrap64 (x18_2 - 1)) then (if (wrap64 (x18_2 - 1)) < (l0_1.length : Int) then (if ((rd_T34 l0_1 (wrap64 (x18_2 - 1))).f0) ≥ ((rd_T34 l0_1 x18_2).f0) then (some false) else (impl_GoodClock.l0 k2 l0_1 (l0_1.length : Int) (wrap64 (x18_2 + 1)) a0_0 l0_1)) else (none)) else (none)) else (impl_GoodClock.l0 k2 l0_1 (l0_1.length : Int) (wrap64 (x18_2 + 1)) a0_0 l0_1)) = some r := by rw [if_pos rfl] at H; exact H
          clear H
          have H := H1
          clear H1
          by_cases c15 : x18_2 > 0
          ·rw [if_pos c15] at H
           have c15b0 : decide (0 < x18_2) = true := decide_eq_true c15
           clear c15
           obtain ⟨ji16, hji16⟩ : ∃ j_ : Int, (wrap64 (x18_2 - 1)) = j_ := ⟨_, rfl⟩
           replace H : (if 0 ≤ (ji16) then (if (ji16) < (l0_1.length : Int) then (if ((rd_T34 l0_1 (ji16)).f0) ≥ ((rd_T34 l0_1 x18_2).f0) then (some false) else (impl_GoodClock.l0 k2 l0_1 (l0_1.length : Int) (wrap64 (x18_2 + 1)) a0_0 l0_1)) else (none)) else (none)) = some r := by first | (rw [hji16] at H; exact H) | (simp only [hji16] at H ⊢; exact H)
           (try rw [hji16] at A13)
           have hji16w : (IntKind.i64.wrap (x18_2 - 1)) = ji16 := (i64_w _).trans hji16
           by_cases c17 : 0 ≤ (ji16)
           ·rw [if_pos c17] at H
            have c17b0 : decide (0 ≤ (ji16)) = true := decide_eq_true c17
            clear c17
            by_cases c18 : (ji16) < (l0_1.length : Int)
            ·rw [if_pos c18] at H
             have c18b0 : decide ((ji16) < (l0_1.length : Int)) = true := decide_eq_true c18
             clear c18
             by_cases c19 : ((rd_T34 l0_1 (ji16)).f0) ≥ ((rd_T34 l0_1 x18_2).f0)
             ·rw [if_pos c19] at H
              have c19b0 : decide (((rd_T34 l0_1 x18_2).f0) ≤ ((rd_T34 l0_1 (ji16)).f0)) = true := decide_eq_true c19
              clear c19
              obtain rfl := Option.some.inj H
              have p163 : 0 ≤ (x18_2 : Int) := of_decide_eq_true hE
              have q163 : x18_2 < (l0_1.length : Int) := of_decide_eq_true hE
              obtain ⟨ad163, e163, hx163_0, hx163_1, hx163_2, hx163_3⟩ := at_T34 HR0_1.out x18_2 p163 q163
              cases e163
              replace hx163_0 := (HB.out.cell (World.block_lt_of_cell? w _ hx163_0)).trans hx163_0
              replace hx163_1 := (HB.out.cell (World.block_lt_of_cell? w _ hx163_1)).trans hx163_1
              replace hx163_2 := (HB.out.cell (World.block_lt_of_cell? w _ hx163_2)).trans hx163_2
              replace hx163_3 := (HB.out.cell (World.block_lt_of_cell? w _ hx163_3)).trans hx163_3
              replace p163 := eq_true p163
              replace q163 := eq_true q163
              try go_wp2_with (first | ((with_reducible refine gate_dst (N := 4) rfl ?_); (try (refine gate_guard (by rfl) ?_; dsimp only)); refine box_event rfl (N := 4) rfl (cs := #[.int .i64 0, .int .i64 0, .int .i64 0, .int .i64 0]) (t := 34) sE ?_; intro gb164 hg w20 hbox hb; have BK164 := Aside0.mk hbox; have GW164 := gS w hg (lV1 GE161); have GE164 := gS w hg (lV1 GE161); replace HB := bH (lV1 GE161) hb; have NB161_164 := nL hg (bV BK161); have NB164_161 := nG hg (bV BK161); replace BK161 := bB (bV BK161) hb; clear hb hbox hg; have hnb21 := NB164_161.out; have hnc21 := NB161_164.out; have hcz22_0 := cz BK164 0 (.int .i64 0); have hcz22_1 := cz BK164 1 (.int .i64 0); have hcz22_2 := cz BK164 2 (.int .i64 0); have hcz22_3 := cz BK164 3 (.int .i64 0); have hfz22_0 := fz BK164 0; have hfz22_1 := fz BK164 1; have hfz22_2 := fz BK164 2; have hfz22_3 := fz BK164 3) | ((with_reducible refine gate_store (t := 34) (p := 4) rfl ?_); refine store_event (t := 34) (p := 4) (v := ?vo_w23) (w1 := ((((w20.setCell ⟨gb164, 0, none⟩ (.int .i64 ((rd_T34 l0_1 x18_2).f0))).setCell ⟨gb164, 1, none⟩ (.int .i64 ((rd_T34 l0_1 x18_2).f1))).setCell ⟨gb164, 2, none⟩ (.int .i64 ((rd_T34 l0_1 x18_2).f2))).setCell ⟨gb164, 3, none⟩ (.int .i64 ((rd_T34 l0_1 x18_2).f3)))) ?hg ?ho ?hn ?hr ?_; (case ho => rfl); (case hg => rfl); (case hn => rfl); (case hr => first | (go_simp; done) | (go_simp; rfl) | (have hq0_ := (blk_cell BK164.out 0).trans (show _ = some _ from rfl); have hf0_ := blk_frozen BK164.out 0; have hq1_ := (blk_cell BK164.out 1).trans (show _ = some _ from rfl); have hf1_ := blk_frozen BK164.out 1; have hq2_ := (blk_cell BK164.out 2).trans (show _ = some _ from rfl); have hf2_ := blk_frozen BK164.out 2; have hq3_ := (blk_cell BK164.out 3).trans (show _ = some _ from rfl); have hf3_ := blk_frozen BK164.out 3; first | (go_simp; done) | (go_simp; rfl))); intro w23 hw; replace BK161 : Aside0 (w23.heap[gb161]? = some (.cells #[.int .i64 a0_0, .slice (some ad163) l0_1.length c0_1] 30 (0, 0))) := ⟨(by rw [hw]; exact (bG NB161_164 BK161))⟩; replace BK164 : Aside0 (w23.heap[gb164]? = some (.cells #[.int .i64 ((rd_T34 l0_1 x18_2).f0), .int .i64 ((rd_T34 l0_1 x18_2).f1), .int .i64 ((rd_T34 l0_1 x18_2).f2), .int .i64 ((rd_T34 l0_1 x18_2).f3)] 34 (0, 0))) := ⟨(by rw [hw]; exact (by refine bU ?_; refine blk_put (cs := #[.int .i64 ((rd_T34 l0_1 x18_2).f0), .int .i64 ((rd_T34 l0_1 x18_2).f1), .int .i64 ((rd_T34 l0_1 x18_2).f2), .int .i64 0]) ?_ 3 _ rfl; refine bU ?_; refine blk_put (cs := #[.int .i64 ((rd_T34 l0_1 x18_2).f0), .int .i64 ((rd_T34 l0_1 x18_2).f1), .int .i64 0, .int .i64 0]) ?_ 2 _ rfl; refine bU ?_; refine blk_put (cs := #[.int .i64 ((rd_T34 l0_1 x18_2).f0), .int .i64 0, .int .i64 0, .int .i64 0]) ?_ 1 _ rfl; refine bU ?_; refine blk_put (cs := #[.int .i64 0, .int .i64 0, .int .i64 0, .int .i64 0]) ?_ 0 _ rfl; refine bU ?_; exact BK164.out))⟩; replace HB : Aside0 (Below w.heap.size w w23) := ⟨(by rw [hw]; exact (lV2 GE161 GE164))⟩; clear hw))
              replace BK161 := Aside0.mk (blk_drew BK161.out)
              replace BK164 := Aside0.mk (blk_drew BK164.out)
              replace HB := Aside0.mk (below_drew1 HB.out)
              have p166 : 0 ≤ ((ji16) : Int) := of_decide_eq_true hE
              have q166 : (ji16) < (l0_1.length : Int) := of_decide_eq_true hE
              obtain ⟨ad166, e166, hx166_0, hx166_1, hx166_2, hx166_3⟩ := at_T34 HR0_1.out (ji16) p166 q166
              have hw166_3 := hx166_3
              have hw166_2 := hx166_2
              have hw166_1 := hx166_1
              have hw166_0 := hx166_0
              obtain rfl : ad163 = ad166 := (by injection e166)
              replace hx166_0 := (HB.out.cell (World.block_lt_of_cell? w _ hx166_0)).trans hx166_0
              replace hx166_1 := (HB.out.cell (World.block_lt_of_cell? w _ hx166_1)).trans hx166_1
              replace hx166_2 := (HB.out.cell (World.block_lt_of_cell? w _ hx166_2)).trans hx166_2
              replace hx166_3 := (HB.out.cell (World.block_lt_of_cell? w _ hx166_3)).trans hx166_3
              replace p166 := eq_true p166
              replace q166 := eq_true q166
              refine start_ (n := 21) (S := fun w' => w'.cell? ⟨gb164, 0, none⟩ = some (.int .i64 ((rd_T34 l0_1 x18_2).f0)) ∧ w'.cell? ⟨gb164, 1, none⟩ = some (.int .i64 ((rd_T34 l0_1 x18_2).f1)) ∧ w'.cell? ⟨gb164, 2, none⟩ = some (.int .i64 ((rd_T34 l0_1 x18_2).f2)) ∧ w'.cell? ⟨gb164, 3, none⟩ = some (.int .i64 ((rd_T34 l0_1 x18_2).f3)) ∧ w'.cell? ⟨gb161, 0, none⟩ = some (.int .i64 a0_0) ∧ w'.cell? ⟨gb161, 1, none⟩ = some (.slice (some ad163) l0_1.length c0_1) ∧ w'.cell? (ad163.add (((ji16)).toNat * 4)) = some (.int .i64 ((rd_T34 l0_1 (ji16)).f0)) ∧ w'.cell? ⟨(ad163.add (((ji16)).toNat * 4)).block, (ad163.add (((ji16)).toNat * 4)).off + 1, none⟩ = some (.int .i64 ((rd_T34 l0_1 (ji16)).f1)) ∧ w'.cell? ⟨(ad163.add (((ji16)).toNat * 4)).block, (ad163.add (((ji16)).toNat * 4)).off + 2, none⟩ = some (.int .i64 ((rd_T34 l0_1 (ji16)).f2)) ∧ w'.cell? ⟨(ad163.add (((ji16)).toNat * 4)).block, (ad163.add (((ji16)).toNat * 4)).off + 3, none⟩ = some (.int .i64 ((rd_T34 l0_1 (ji16)).f3))) (ds := []) #[false, false, false, false, false, false, false, false, false, false, false, false, false, false, false, false, false, false, false, false, false] (by kernel_rfl) rfl rfl ⟨cz BK164 0 _, cz BK164 1 _, cz BK164 2 _, cz BK164 3 _, cz BK161 0 _, cz BK161 1 _, ((HB.out.cell (World.block_lt_of_cell? w _ hw166_0)).trans hw166_0), ((HB.out.cell (World.block_lt_of_cell? w _ hw166_1)).trans hw166_1), ((HB.out.cell (World.block_lt_of_cell? w _ hw166_2)).trans hw166_2), ((HB.out.cell (World.block_lt_of_cell? w _ hw166_3)).trans hw166_3)⟩ (fun hHeld => ?_); refine with_tabW impl_GoodClock.tab6 impl_GoodClock.bits6 (fun HT_ HW_ => ?_)
              generalize w23.drew = w24 at BK161 BK164 HB hx166_0 hx166_1 hx166_2 hx166_3 hHeld ⊢
              refine pureA 1 24 (bz 21 2) rfl rfl (any_of HT_.out (by kernel_rfl)) ?_
              refine takeA 0 23 (bz 21 3) rfl rfl (take_ofW HT_.out HW_.out (by kernel_rfl)) hHeld (by rintro w' ⟨s0, s1, s2, s3, s4, s5, s6, s7, s8, s9⟩; go_simp; with_reducible rfl) ?_
              refine takeA 2 25 (bz 21 7) rfl rfl (take_ofW HT_.out HW_.out (by kernel_rfl)) hHeld (by rintro w' ⟨s0, s1, s2, s3, s4, s5, s6, s7, s8, s9⟩; go_simp; with_reducible rfl) ?_
              refine one_ (i := 3) (N := some 26) (bz 21 15) rfl rfl (one_of HT_.out (by kernel_rfl)) (by decide) (fun K hK => ?_)
              refine goes_ Try.func26 (by kernel_rfl) rfl #[.agg #[.int .i64 ((rd_T34 l0_1 x18_2).f0), .int .i64 ((rd_T34 l0_1 x18_2).f1), .int .i64 ((rd_T34 l0_1 x18_2).f2), .int .i64 ((rd_T34 l0_1 x18_2).f3)], .int .i64 a0_0] (by rfl) rfl rfl aE ?_
              with_reducible refine (impl_isTimer.calls ((rd_T34 l0_1 x18_2).f0) ((rd_T34 l0_1 x18_2).f1) ((rd_T34 l0_1 x18_2).f2) ((rd_T34 l0_1 x18_2).f3) a0_0 true _ A13.out).mono ?_
              rintro e w25 ⟨rfl, hb⟩
              refine ⟨_, rfl, ?_⟩
              replace BK161 := bB (bV BK161) hb
              replace BK164 := bB (bV BK164) hb
              replace HB := bH (lV2 GE161 GE164) hb
              (try clear hb)
              (try clear hb2)
              (try clear hk)
              (try clear hi)
              refine hK.out _ _ ⟨cz BK164 0 _, cz BK164 1 _, cz BK164 2 _, cz BK164 3 _, cz BK161 0 _, cz BK161 1 _, ((HB.out.cell (World.block_lt_of_cell? w _ hw166_0)).trans hw166_0), ((HB.out.cell (World.block_lt_of_cell? w _ hw166_1)).trans hw166_1), ((HB.out.cell (World.block_lt_of_cell? w _ hw166_2)).trans hw166_2), ((HB.out.cell (World.block_lt_of_cell? w _ hw166_3)).trans hw166_3)⟩ (fun hHeld => ?_)
              clear hK K
              refine norm_ (a' := ?_) ?_ ?_
              rotate_left
              ·show Act.put _ (some 26) _ = _
               simp only [Act.put, List.setIfInBounds_toArray, List.set_cons_zero, List.set_cons_succ, i64_w, i32_w]
               rfl
              refine pureA 4 27 (bz 21 31) rfl rfl (any_of HT_.out (by kernel_rfl)) ?_
              refine pureA 5 28 (bz 21 63) rfl rfl (any_of HT_.out (by kernel_rfl)) ?_
              refine pureA 6 29 (bz 21 127) rfl rfl (any_of HT_.out (by kernel_rfl)) ?_
              refine pureA 7 30 (bz 21 255) rfl rfl (any_of HT_.out (by kernel_rfl)) ?_
              refine pureA 8 31 (bz 21 511) rfl rfl (any_of HT_.out (by kernel_rfl)) ?_
              refine pureA 9 32 (bz 21 1023) rfl rfl (any_of HT_.out (by kernel_rfl)) ?_
              refine pureA 11 34 (bz 21 3071) rfl rfl (any_of HT_.out (by kernel_rfl)) ?_
              refine pureA 12 35 (bz 21 7167) rfl rfl (any_of HT_.out (by kernel_rfl)) ?_
              refine pureA 16 39 (bz 21 72703) rfl rfl (any_of HT_.out (by kernel_rfl)) ?_
              refine takeA 10 33 (bz 21 73727) rfl rfl (take_ofW HT_.out HW_.out (by kernel_rfl)) hHeld (by rintro w' ⟨s0, s1, s2, s3, s4, s5, s6, s7, s8, s9⟩; go_simp; with_reducible rfl) ?_
              refine pureA 13 36 (bz 21 81919) rfl rfl (any_of HT_.out (by kernel_rfl)) ?_
              refine pureA 14 37 (bz 21 98303) rfl rfl (any_of HT_.out (by kernel_rfl)) ?_
              refine takeA 15 38 (bz 21 131071) rfl rfl (take_ofW HT_.out HW_.out (by kernel_rfl)) hHeld (by rintro w' ⟨s0, s1, s2, s3, s4, s5, s6, s7, s8, s9⟩; go_simp; with_reducible rfl) ?_
              refine takeA 17 40 (bz 21 262143) rfl rfl (take_ofW HT_.out HW_.out (by kernel_rfl)) hHeld (by rintro w' ⟨s0, s1, s2, s3, s4, s5, s6, s7, s8, s9⟩; go_simp; with_reducible rfl) ?_
              refine pureA 18 41 (bz 21 524287) rfl rfl (any_of HT_.out (by kernel_rfl)) ?_
              refine pureA 19 42 (bz 21 1048575) rfl rfl (any_of HT_.out (by kernel_rfl)) ?_
              refine pureA 20 43 (bz 21 2097151) rfl rfl (any_of HT_.out (by kernel_rfl)) ?_
              refine done_ (done_of HT_.out (by kernel_rfl)) ?_
              try go_wp2
              go_ret
              exact ⟨by first | rfl | (simp [errW_none, errW_some] <;> rfl) | (simp only [← hji16]; first | rfl | (simp [errW_none, errW_some] <;> rfl)) | (simp [*, errW_none, errW_some] <;> rfl), lV2 GE161 GE164⟩
             ·rw [if_neg c19] at H
              have c19b0 : decide (((rd_T34 l0_1 x18_2).f0) ≤ ((rd_T34 l0_1 (ji16)).f0)) = false := decide_eq_false c19
              clear c19
              have H' := Aside0.mk H
              clear H
              have p163 : 0 ≤ (x18_2 : Int) := of_decide_eq_true hE
              have q163 : x18_2 < (l0_1.length : Int) := of_decide_eq_true hE
              obtain ⟨ad163, e163, hx163_0, hx163_1, hx163_2, hx163_3⟩ := at_T34 HR0_1.out x18_2 p163 q163
              cases e163
              replace hx163_0 := (HB.out.cell (World.block_lt_of_cell? w _ hx163_0)).trans hx163_0
              replace hx163_1 := (HB.out.cell (World.block_lt_of_cell? w _ hx163_1)).trans hx163_1
              replace hx163_2 := (HB.out.cell (World.block_lt_of_cell? w _ hx163_2)).trans hx163_2
              replace hx163_3 := (HB.out.cell (World.block_lt_of_cell? w _ hx163_3)).trans hx163_3
              replace p163 := eq_true p163
              replace q163 := eq_true q163
              try go_wp2_with (first | ((with_reducible refine gate_dst (N := 4) rfl ?_); (try (refine gate_guard (by rfl) ?_; dsimp only)); refine box_event rfl (N := 4) rfl (cs := #[.int .i64 0, .int .i64 0, .int .i64 0, .int .i64 0]) (t := 34) sE ?_; intro gb164 hg w26 hbox hb; have BK164 := Aside0.mk hbox; have GW164 := gS w hg (lV1 GE161); have GE164 := gS w hg (lV1 GE161); replace HB := bH (lV1 GE161) hb; have NB161_164 := nL hg (bV BK161); have NB164_161 := nG hg (bV BK161); replace BK161 := bB (bV BK161) hb; clear hb hbox hg; have hnb27 := NB164_161.out; have hnc27 := NB161_164.out; have hcz28_0 := cz BK164 0 (.int .i64 0); have hcz28_1 := cz BK164 1 (.int .i64 0); have hcz28_2 := cz BK164 2 (.int .i64 0); have hcz28_3 := cz BK164 3 (.int .i64 0); have hfz28_0 := fz BK164 0; have hfz28_1 := fz BK164 1; have hfz28_2 := fz BK164 2; have hfz28_3 := fz BK164 3) | ((with_reducible refine gate_store (t := 34) (p := 4) rfl ?_); refine store_event (t := 34) (p := 4) (v := ?vo_w29) (w1 := ((((w26.setCell ⟨gb164, 0, none⟩ (.int .i64 ((rd_T34 l0_1 x18_2).f0))).setCell ⟨gb164, 1, none⟩ (.int .i64 ((rd_T34 l0_1 x18_2).f1))).setCell ⟨gb164, 2, none⟩ (.int .i64 ((rd_T34 l0_1 x18_2).f2))).setCell ⟨gb164, 3, none⟩ (.int .i64 ((rd_T34 l0_1 x18_2).f3)))) ?hg ?ho ?hn ?hr ?_; (case ho => rfl); (case hg => rfl); (case hn => rfl); (case hr => first | (go_simp; done) | (go_simp; rfl) | (have hq0_ := (blk_cell BK164.out 0).trans (show _ = some _ from rfl); have hf0_ := blk_frozen BK164.out 0; have hq1_ := (blk_cell BK164.out 1).trans (show _ = some _ from rfl); have hf1_ := blk_frozen BK164.out 1; have hq2_ := (blk_cell BK164.out 2).trans (show _ = some _ from rfl); have hf2_ := blk_frozen BK164.out 2; have hq3_ := (blk_cell BK164.out 3).trans (show _ = some _ from rfl); have hf3_ := blk_frozen BK164.out 3; first | (go_simp; done) | (go_simp; rfl))); intro w29 hw; replace BK161 : Aside0 (w29.heap[gb161]? = some (.cells #[.int .i64 a0_0, .slice (some ad163) l0_1.length c0_1] 30 (0, 0))) := ⟨(by rw [hw]; exact (bG NB161_164 BK161))⟩; replace BK164 : Aside0 (w29.heap[gb164]? = some (.cells #[.int .i64 ((rd_T34 l0_1 x18_2).f0), .int .i64 ((rd_T34 l0_1 x18_2).f1), .int .i64 ((rd_T34 l0_1 x18_2).f2), .int .i64 ((rd_T34 l0_1 x18_2).f3)] 34 (0, 0))) := ⟨(by rw [hw]; exact (by refine bU ?_; refine blk_put (cs := #[.int .i64 ((rd_T34 l0_1 x18_2).f0), .int .i64 ((rd_T34 l0_1 x18_2).f1), .int .i64 ((rd_T34 l0_1 x18_2).f2), .int .i64 0]) ?_ 3 _ rfl; refine bU ?_; refine blk_put (cs := #[.int .i64 ((rd_T34 l0_1 x18_2).f0), .int .i64 ((rd_T34 l0_1 x18_2).f1), .int .i64 0, .int .i64 0]) ?_ 2 _ rfl; refine bU ?_; refine blk_put (cs := #[.int .i64 ((rd_T34 l0_1 x18_2).f0), .int .i64 0, .int .i64 0, .int .i64 0]) ?_ 1 _ rfl; refine bU ?_; refine blk_put (cs := #[.int .i64 0, .int .i64 0, .int .i64 0, .int .i64 0]) ?_ 0 _ rfl; refine bU ?_; exact BK164.out))⟩; replace HB : Aside0 (Below w.heap.size w w29) := ⟨(by rw [hw]; exact (lV2 GE161 GE164))⟩; clear hw))
              replace BK161 := Aside0.mk (blk_drew BK161.out)
              replace BK164 := Aside0.mk (blk_drew BK164.out)
              replace HB := Aside0.mk (below_drew1 HB.out)
              have p166 : 0 ≤ ((ji16) : Int) := of_decide_eq_true hE
              have q166 : (ji16) < (l0_1.length : Int) := of_decide_eq_true hE
              obtain ⟨ad166, e166, hx166_0, hx166_1, hx166_2, hx166_3⟩ := at_T34 HR0_1.out (ji16) p166 q166
              have hw166_3 := hx166_3
              have hw166_2 := hx166_2
              have hw166_1 := hx166_1
              have hw166_0 := hx166_0
              obtain rfl : ad163 = ad166 := (by injection e166)
              replace hx166_0 := (HB.out.cell (World.block_lt_of_cell? w _ hx166_0)).trans hx166_0
              replace hx166_1 := (HB.out.cell (World.block_lt_of_cell? w _ hx166_1)).trans hx166_1
              replace hx166_2 := (HB.out.cell (World.block_lt_of_cell? w _ hx166_2)).trans hx166_2
              replace hx166_3 := (HB.out.cell (World.block_lt_of_cell? w _ hx166_3)).trans hx166_3
              replace p166 := eq_true p166
              replace q166 := eq_true q166
              refine start_ (n := 21) (S := fun w' => w'.cell? ⟨gb164, 0, none⟩ = some (.int .i64 ((rd_T34 l0_1 x18_2).f0)) ∧ w'.cell? ⟨gb164, 1, none⟩ = some (.int .i64 ((rd_T34 l0_1 x18_2).f1)) ∧ w'.cell? ⟨gb164, 2, none⟩ = some (.int .i64 ((rd_T34 l0_1 x18_2).f2)) ∧ w'.cell? ⟨gb164, 3, none⟩ = some (.int .i64 ((rd_T34 l0_1 x18_2).f3)) ∧ w'.cell? ⟨gb161, 0, none⟩ = some (.int .i64 a0_0) ∧ w'.cell? ⟨gb161, 1, none⟩ = some (.slice (some ad163) l0_1.length c0_1) ∧ w'.cell? (ad163.add (((ji16)).toNat * 4)) = some (.int .i64 ((rd_T34 l0_1 (ji16)).f0)) ∧ w'.cell? ⟨(ad163.add (((ji16)).toNat * 4)).block, (ad163.add (((ji16)).toNat * 4)).off + 1, none⟩ = some (.int .i64 ((rd_T34 l0_1 (ji16)).f1)) ∧ w'.cell? ⟨(ad163.add (((ji16)).toNat * 4)).block, (ad163.add (((ji16)).toNat * 4)).off + 2, none⟩ = some (.int .i64 ((rd_T34 l0_1 (ji16)).f2)) ∧ w'.cell? ⟨(ad163.add (((ji16)).toNat * 4)).block, (ad163.add (((ji16)).toNat * 4)).off + 3, none⟩ = some (.int .i64 ((rd_T34 l0_1 (ji16)).f3))) (ds := []) #[false, false, false, false, false, false, false, false, false, false, false, false, false, false, false, false, false, false, false, false, false] (by kernel_rfl) rfl rfl ⟨cz BK164 0 _, cz BK164 1 _, cz BK164 2 _, cz BK164 3 _, cz BK161 0 _, cz BK161 1 _, ((HB.out.cell (World.block_lt_of_cell? w _ hw166_0)).trans hw166_0), ((HB.out.cell (World.block_lt_of_cell? w _ hw166_1)).trans hw166_1), ((HB.out.cell (World.block_lt_of_cell? w _ hw166_2)).trans hw166_2), ((HB.out.cell (World.block_lt_of_cell? w _ hw166_3)).trans hw166_3)⟩ (fun hHeld => ?_); refine with_tabW impl_GoodClock.tab6 impl_GoodClock.bits6 (fun HT_ HW_ => ?_)
              generalize w29.drew = w30 at BK161 BK164 HB hx166_0 hx166_1 hx166_2 hx166_3 hHeld ⊢
              refine pureA 1 24 (bz 21 2) rfl rfl (any_of HT_.out (by kernel_rfl)) ?_
              refine takeA 0 23 (bz 21 3) rfl rfl (take_ofW HT_.out HW_.out (by kernel_rfl)) hHeld (by rintro w' ⟨s0, s1, s2, s3, s4, s5, s6, s7, s8, s9⟩; go_simp; with_reducible rfl) ?_
              refine takeA 2 25 (bz 21 7) rfl rfl (take_ofW HT_.out HW_.out (by kernel_rfl)) hHeld (by rintro w' ⟨s0, s1, s2, s3, s4, s5, s6, s7, s8, s9⟩; go_simp; with_reducible rfl) ?_
              refine one_ (i := 3) (N := some 26) (bz 21 15) rfl rfl (one_of HT_.out (by kernel_rfl)) (by decide) (fun K hK => ?_)
              refine goes_ Try.func26 (by kernel_rfl) rfl #[.agg #[.int .i64 ((rd_T34 l0_1 x18_2).f0), .int .i64 ((rd_T34 l0_1 x18_2).f1), .int .i64 ((rd_T34 l0_1 x18_2).f2), .int .i64 ((rd_T34 l0_1 x18_2).f3)], .int .i64 a0_0] (by rfl) rfl rfl aE ?_
              with_reducible refine (impl_isTimer.calls ((rd_T34 l0_1 x18_2).f0) ((rd_T34 l0_1 x18_2).f1) ((rd_T34 l0_1 x18_2).f2) ((rd_T34 l0_1 x18_2).f3) a0_0 true _ A13.out).mono ?_
              rintro e w31 ⟨rfl, hb⟩
              refine ⟨_, rfl, ?_⟩
              replace BK161 := bB (bV BK161) hb
              replace BK164 := bB (bV BK164) hb
              replace HB := bH (lV2 GE161 GE164) hb
              (try clear hb)
              (try clear hb2)
              (try clear hk)
              (try clear hi)
              refine hK.out _ _ ⟨cz BK164 0 _, cz BK164 1 _, cz BK164 2 _, cz BK164 3 _, cz BK161 0 _, cz BK161 1 _, ((HB.out.cell (World.block_lt_of_cell? w _ hw166_0)).trans hw166_0), ((HB.out.cell (World.block_lt_of_cell? w _ hw166_1)).trans hw166_1), ((HB.out.cell (World.block_lt_of_cell? w _ hw166_2)).trans hw166_2), ((HB.out.cell (World.block_lt_of_cell? w _ hw166_3)).trans hw166_3)⟩ (fun hHeld => ?_)
              clear hK K
              refine norm_ (a' := ?_) ?_ ?_
              rotate_left
              ·show Act.put _ (some 26) _ = _
               simp only [Act.put, List.setIfInBounds_toArray, List.set_cons_zero, List.set_cons_succ, i64_w, i32_w]
               rfl
              refine pureA 4 27 (bz 21 31) rfl rfl (any_of HT_.out (by kernel_rfl)) ?_
              refine pureA 5 28 (bz 21 63) rfl rfl (any_of HT_.out (by kernel_rfl)) ?_
              refine pureA 6 29 (bz 21 127) rfl rfl (any_of HT_.out (by kernel_rfl)) ?_
              refine pureA 7 30 (bz 21 255) rfl rfl (any_of HT_.out (by kernel_rfl)) ?_
              refine pureA 8 31 (bz 21 511) rfl rfl (any_of HT_.out (by kernel_rfl)) ?_
              refine pureA 9 32 (bz 21 1023) rfl rfl (any_of HT_.out (by kernel_rfl)) ?_
              refine pureA 11 34 (bz 21 3071) rfl rfl (any_of HT_.out (by kernel_rfl)) ?_
              refine pureA 12 35 (bz 21 7167) rfl rfl (any_of HT_.out (by kernel_rfl)) ?_
              refine pureA 16 39 (bz 21 72703) rfl rfl (any_of HT_.out (by kernel_rfl)) ?_
              refine takeA 10 33 (bz 21 73727) rfl rfl (take_ofW HT_.out HW_.out (by kernel_rfl)) hHeld (by rintro w' ⟨s0, s1, s2, s3, s4, s5, s6, s7, s8, s9⟩; go_simp; with_reducible rfl) ?_
              refine pureA 13 36 (bz 21 81919) rfl rfl (any_of HT_.out (by kernel_rfl)) ?_
              refine pureA 14 37 (bz 21 98303) rfl rfl (any_of HT_.out (by kernel_rfl)) ?_
              refine takeA 15 38 (bz 21 131071) rfl rfl (take_ofW HT_.out HW_.out (by kernel_rfl)) hHeld (by rintro w' ⟨s0, s1, s2, s3, s4, s5, s6, s7, s8, s9⟩; go_simp; with_reducible rfl) ?_
              refine takeA 17 40 (bz 21 262143) rfl rfl (take_ofW HT_.out HW_.out (by kernel_rfl)) hHeld (by rintro w' ⟨s0, s1, s2, s3, s4, s5, s6, s7, s8, s9⟩; go_simp; with_reducible rfl) ?_
              refine pureA 18 41 (bz 21 524287) rfl rfl (any_of HT_.out (by kernel_rfl)) ?_
              refine pureA 19 42 (bz 21 1048575) rfl rfl (any_of HT_.out (by kernel_rfl)) ?_
              refine pureA 20 43 (bz 21 2097151) rfl rfl (any_of HT_.out (by kernel_rfl)) ?_
              refine done_ (done_of HT_.out (by kernel_rfl)) ?_
              try go_wp2
              go_roundg k2
              case measure => have := HJ1.out; have := HK2.out; omega
              case rel => exact ⟨(wrap64 (x18_2 + 1)), tE, H', ⟨by have := HJ1.out; have := HK2.out; omega⟩, ⟨by refine bU ?_; exact BK161.out⟩, ⟨by repeat (first | (with_reducible first | exact HB.out | apply below_alloc | apply pw_below_drewN | apply below_drew1 | refine below_set ?_ GE161.out | refine below_set ?_ GE164.out) | exact HB.out)⟩⟩
            ·rw [if_neg c18] at H
             exact absurd H (by simp)
           ·rw [if_neg c17] at H
            exact absurd H (by simp)
          ·rw [if_neg c15] at H
           have c15b0 : decide (0 < x18_2) = false := decide_eq_false c15
           clear c15
           have H' := Aside0.mk H
           clear H
           have p163 : 0 ≤ (x18_2 : Int) := of_decide_eq_true hE
           have q163 : x18_2 < (l0_1.length : Int) := of_decide_eq_true hE
           obtain ⟨ad163, e163, hx163_0, hx163_1, hx163_2, hx163_3⟩ := at_T34 HR0_1.out x18_2 p163 q163
           cases e163
           replace hx163_0 := (HB.out.cell (World.block_lt_of_cell? w _ hx163_0)).trans hx163_0
           replace hx163_1 := (HB.out.cell (World.block_lt_of_cell? w _ hx163_1)).trans hx163_1
           replace hx163_2 := (HB.out.cell (World.block_lt_of_cell? w _ hx163_2)).trans hx163_2
           replace hx163_3 := (HB.out.cell (World.block_lt_of_cell? w _ hx163_3)).trans hx163_3
           replace p163 := eq_true p163
           replace q163 := eq_true q163
           try go_wp2_with (first | ((with_reducible refine gate_dst (N := 4) rfl ?_); (try (refine gate_guard (by rfl) ?_; dsimp only)); refine box_event rfl (N := 4) rfl (cs := #[.int .i64 0, .int .i64 0, .int .i64 0, .int .i64 0]) (t := 34) sE ?_; intro gb164 hg w32 hbox hb; have BK164 := Aside0.mk hbox; have GW164 := gS w hg (lV1 GE161); have GE164 := gS w hg (lV1 GE161); replace HB := bH (lV1 GE161) hb; have NB161_164 := nL hg (bV BK161); have NB164_161 := nG hg (bV BK161); replace BK161 := bB (bV BK161) hb; clear hb hbox hg; have hnb33 := NB164_161.out; have hnc33 := NB161_164.out; have hcz34_0 := cz BK164 0 (.int .i64 0); have hcz34_1 := cz BK164 1 (.int .i64 0); have hcz34_2 := cz BK164 2 (.int .i64 0); have hcz34_3 := cz BK164 3 (.int .i64 0); have hfz34_0 := fz BK164 0; have hfz34_1 := fz BK164 1; have hfz34_2 := fz BK164 2; have hfz34_3 := fz BK164 3) | ((with_reducible refine gate_store (t := 34) (p := 4) rfl ?_); refine store_event (t := 34) (p := 4) (v := ?vo_w35) (w1 := ((((w32.setCell ⟨gb164, 0, none⟩ (.int .i64 ((rd_T34 l0_1 x18_2).f0))).setCell ⟨gb164, 1, none⟩ (.int .i64 ((rd_T34 l0_1 x18_2).f1))).setCell ⟨gb164, 2, none⟩ (.int .i64 ((rd_T34 l0_1 x18_2).f2))).setCell ⟨gb164, 3, none⟩ (.int .i64 ((rd_T34 l0_1 x18_2).f3)))) ?hg ?ho ?hn ?hr ?_; (case ho => rfl); (case hg => rfl); (case hn => rfl); (case hr => first | (go_simp; done) | (go_simp; rfl) | (have hq0_ := (blk_cell BK164.out 0).trans (show _ = some _ from rfl); have hf0_ := blk_frozen BK164.out 0; have hq1_ := (blk_cell BK164.out 1).trans (show _ = some _ from rfl); have hf1_ := blk_frozen BK164.out 1; have hq2_ := (blk_cell BK164.out 2).trans (show _ = some _ from rfl); have hf2_ := blk_frozen BK164.out 2; have hq3_ := (blk_cell BK164.out 3).trans (show _ = some _ from rfl); have hf3_ := blk_frozen BK164.out 3; first | (go_simp; done) | (go_simp; rfl))); intro w35 hw; replace BK161 : Aside0 (w35.heap[gb161]? = some (.cells #[.int .i64 a0_0, .slice (some ad163) l0_1.length c0_1] 30 (0, 0))) := ⟨(by rw [hw]; exact (bG NB161_164 BK161))⟩; replace BK164 : Aside0 (w35.heap[gb164]? = some (.cells #[.int .i64 ((rd_T34 l0_1 x18_2).f0), .int .i64 ((rd_T34 l0_1 x18_2).f1), .int .i64 ((rd_T34 l0_1 x18_2).f2), .int .i64 ((rd_T34 l0_1 x18_2).f3)] 34 (0, 0))) := ⟨(by rw [hw]; exact (by refine bU ?_; refine blk_put (cs := #[.int .i64 ((rd_T34 l0_1 x18_2).f0), .int .i64 ((rd_T34 l0_1 x18_2).f1), .int .i64 ((rd_T34 l0_1 x18_2).f2), .int .i64 0]) ?_ 3 _ rfl; refine bU ?_; refine blk_put (cs := #[.int .i64 ((rd_T34 l0_1 x18_2).f0), .int .i64 ((rd_T34 l0_1 x18_2).f1), .int .i64 0, .int .i64 0]) ?_ 2 _ rfl; refine bU ?_; refine blk_put (cs := #[.int .i64 ((rd_T34 l0_1 x18_2).f0), .int .i64 0, .int .i64 0, .int .i64 0]) ?_ 1 _ rfl; refine bU ?_; refine blk_put (cs := #[.int .i64 0, .int .i64 0, .int .i64 0, .int .i64 0]) ?_ 0 _ rfl; refine bU ?_; exact BK164.out))⟩; replace HB : Aside0 (Below w.heap.size w w35) := ⟨(by rw [hw]; exact (lV2 GE161 GE164))⟩; clear hw))
           replace BK161 := Aside0.mk (blk_drew BK161.out)
           replace BK164 := Aside0.mk (blk_drew BK164.out)
           replace HB := Aside0.mk (below_drew1 HB.out)
           refine start_ (n := 21) (S := fun w' => w'.cell? ⟨gb164, 0, none⟩ = some (.int .i64 ((rd_T34 l0_1 x18_2).f0)) ∧ w'.cell? ⟨gb164, 1, none⟩ = some (.int .i64 ((rd_T34 l0_1 x18_2).f1)) ∧ w'.cell? ⟨gb164, 2, none⟩ = some (.int .i64 ((rd_T34 l0_1 x18_2).f2)) ∧ w'.cell? ⟨gb164, 3, none⟩ = some (.int .i64 ((rd_T34 l0_1 x18_2).f3)) ∧ w'.cell? ⟨gb161, 0, none⟩ = some (.int .i64 a0_0) ∧ w'.cell? ⟨gb161, 1, none⟩ = some (.slice (some ad163) l0_1.length c0_1)) (ds := []) #[false, false, false, false, false, false, false, false, false, false, false, false, false, false, false, false, false, false, false, false, false] (by kernel_rfl) rfl rfl ⟨cz BK164 0 _, cz BK164 1 _, cz BK164 2 _, cz BK164 3 _, cz BK161 0 _, cz BK161 1 _⟩ (fun hHeld => ?_); refine with_tabW impl_GoodClock.tab6 impl_GoodClock.bits6 (fun HT_ HW_ => ?_)
           generalize w35.drew = w36 at BK161 BK164 HB hHeld ⊢
           refine pureA 1 24 (bz 21 2) rfl rfl (any_of HT_.out (by kernel_rfl)) ?_
           refine takeA 0 23 (bz 21 3) rfl rfl (take_ofW HT_.out HW_.out (by kernel_rfl)) hHeld (by rintro w' ⟨s0, s1, s2, s3, s4, s5⟩; go_simp; with_reducible rfl) ?_
           refine takeA 2 25 (bz 21 7) rfl rfl (take_ofW HT_.out HW_.out (by kernel_rfl)) hHeld (by rintro w' ⟨s0, s1, s2, s3, s4, s5⟩; go_simp; with_reducible rfl) ?_
           refine one_ (i := 3) (N := some 26) (bz 21 15) rfl rfl (one_of HT_.out (by kernel_rfl)) (by decide) (fun K hK => ?_)
           refine goes_ Try.func26 (by kernel_rfl) rfl #[.agg #[.int .i64 ((rd_T34 l0_1 x18_2).f0), .int .i64 ((rd_T34 l0_1 x18_2).f1), .int .i64 ((rd_T34 l0_1 x18_2).f2), .int .i64 ((rd_T34 l0_1 x18_2).f3)], .int .i64 a0_0] (by rfl) rfl rfl aE ?_
           with_reducible refine (impl_isTimer.calls ((rd_T34 l0_1 x18_2).f0) ((rd_T34 l0_1 x18_2).f1) ((rd_T34 l0_1 x18_2).f2) ((rd_T34 l0_1 x18_2).f3) a0_0 true _ A13.out).mono ?_
           rintro e w37 ⟨rfl, hb⟩
           refine ⟨_, rfl, ?_⟩
           replace BK161 := bB (bV BK161) hb
           replace BK164 := bB (bV BK164) hb
           replace HB := bH (lV2 GE161 GE164) hb
           (try clear hb)
           (try clear hb2)
           (try clear hk)
           (try clear hi)
           refine hK.out _ _ ⟨cz BK164 0 _, cz BK164 1 _, cz BK164 2 _, cz BK164 3 _, cz BK161 0 _, cz BK161 1 _⟩ (fun hHeld => ?_)
           clear hK K
           refine norm_ (a' := ?_) ?_ ?_
           rotate_left
           ·show Act.put _ (some 26) _ = _
            simp only [Act.put, List.setIfInBounds_toArray, List.set_cons_zero, List.set_cons_succ, i64_w, i32_w]
            rfl
           refine pureA 4 27 (bz 21 31) rfl rfl (any_of HT_.out (by kernel_rfl)) ?_
           refine pureA 5 28 (bz 21 63) rfl rfl (any_of HT_.out (by kernel_rfl)) ?_
           refine pureA 6 29 (bz 21 127) rfl rfl (any_of HT_.out (by kernel_rfl)) ?_
           refine pureA 7 30 (bz 21 255) rfl rfl (any_of HT_.out (by kernel_rfl)) ?_
           refine pureA 8 31 (bz 21 511) rfl rfl (any_of HT_.out (by kernel_rfl)) ?_
           refine pureU 9 32 (bz 21 1023) rfl rfl (any_of HT_.out (by kernel_rfl)) ?_
           refine pureU 10 33 (bz 21 2047) rfl rfl (any_of HT_.out (by kernel_rfl)) ?_
           refine pureU 11 34 (bz 21 4095) rfl rfl (any_of HT_.out (by kernel_rfl)) ?_
           refine pureU 12 35 (bz 21 8191) rfl rfl (any_of HT_.out (by kernel_rfl)) ?_
           refine pureU 13 36 (bz 21 16383) rfl rfl (any_of HT_.out (by kernel_rfl)) ?_
           refine pureU 14 37 (bz 21 32767) rfl rfl (any_of HT_.out (by kernel_rfl)) ?_
           refine pureU 15 38 (bz 21 65535) rfl rfl (any_of HT_.out (by kernel_rfl)) ?_
           refine pureU 16 39 (bz 21 131071) rfl rfl (any_of HT_.out (by kernel_rfl)) ?_
           refine pureU 17 40 (bz 21 262143) rfl rfl (any_of HT_.out (by kernel_rfl)) ?_
           refine pureU 18 41 (bz 21 524287) rfl rfl (any_of HT_.out (by kernel_rfl)) ?_
           refine pureA 19 42 (bz 21 1048575) rfl rfl (any_of HT_.out (by kernel_rfl)) ?_
           refine pureA 20 43 (bz 21 2097151) rfl rfl (any_of HT_.out (by kernel_rfl)) ?_
           refine done_ (done_of HT_.out (by kernel_rfl)) ?_
           try go_wp2
           go_roundg k2
           case measure => have := HJ1.out; have := HK2.out; omega
           case rel => exact ⟨(wrap64 (x18_2 + 1)), tE, H', ⟨by have := HJ1.out; have := HK2.out; omega⟩, ⟨by refine bU ?_; exact BK161.out⟩, ⟨by repeat (first | (with_reducible first | exact HB.out | apply below_alloc | apply pw_below_drewN | apply below_drew1 | refine below_set ?_ GE161.out | refine below_set ?_ GE164.out) | exact HB.out)⟩⟩
         ·replace c14 := Bool.eq_false_iff.mpr c14
          subst c14
          have H1 : (some false) = some r := by rw [if_neg (show ¬ (false = true) by decide)] at H; exact H
          clear H
          have H := H1
          clear H1
          obtain rfl := Option.some.inj H
          have p163 : 0 ≤ (x18_2 : Int) := of_decide_eq_true hE
          have q163 : x18_2 < (l0_1.length : Int) := of_decide_eq_true hE
          obtain ⟨ad163, e163, hx163_0, hx163_1, hx163_2, hx163_3⟩ := at_T34 HR0_1.out x18_2 p163 q163
          cases e163
          replace hx163_0 := (HB.out.cell (World.block_lt_of_cell? w _ hx163_0)).trans hx163_0
          replace hx163_1 := (HB.out.cell (World.block_lt_of_cell? w _ hx163_1)).trans hx163_1
          replace hx163_2 := (HB.out.cell (World.block_lt_of_cell? w _ hx163_2)).trans hx163_2
          replace hx163_3 := (HB.out.cell (World.block_lt_of_cell? w _ hx163_3)).trans hx163_3
          replace p163 := eq_true p163
          replace q163 := eq_true q163
          try go_wp2_with (first | ((with_reducible refine gate_dst (N := 4) rfl ?_); (try (refine gate_guard (by rfl) ?_; dsimp only)); refine box_event rfl (N := 4) rfl (cs := #[.int .i64 0, .int .i64 0, .int .i64 0, .int .i64 0]) (t := 34) sE ?_; intro gb164 hg w38 hbox hb; have BK164 := Aside0.mk hbox; have GW164 := gS w hg (lV1 GE161); have GE164 := gS w hg (lV1 GE161); replace HB := bH (lV1 GE161) hb; have NB161_164 := nL hg (bV BK161); have NB164_161 := nG hg (bV BK161); replace BK161 := bB (bV BK161) hb; clear hb hbox hg; have hnb39 := NB164_161.out; have hnc39 := NB161_164.out; have hcz40_0 := cz BK164 0 (.int .i64 0); have hcz40_1 := cz BK164 1 (.int .i64 0); have hcz40_2 := cz BK164 2 (.int .i64 0); have hcz40_3 := cz BK164 3 (.int .i64 0); have hfz40_0 := fz BK164 0; have hfz40_1 := fz BK164 1; have hfz40_2 := fz BK164 2; have hfz40_3 := fz BK164 3) | ((with_reducible refine gate_store (t := 34) (p := 4) rfl ?_); refine store_event (t := 34) (p := 4) (v := ?vo_w41) (w1 := ((((w38.setCell ⟨gb164, 0, none⟩ (.int .i64 ((rd_T34 l0_1 x18_2).f0))).setCell ⟨gb164, 1, none⟩ (.int .i64 ((rd_T34 l0_1 x18_2).f1))).setCell ⟨gb164, 2, none⟩ (.int .i64 ((rd_T34 l0_1 x18_2).f2))).setCell ⟨gb164, 3, none⟩ (.int .i64 ((rd_T34 l0_1 x18_2).f3)))) ?hg ?ho ?hn ?hr ?_; (case ho => rfl); (case hg => rfl); (case hn => rfl); (case hr => first | (go_simp; done) | (go_simp; rfl) | (have hq0_ := (blk_cell BK164.out 0).trans (show _ = some _ from rfl); have hf0_ := blk_frozen BK164.out 0; have hq1_ := (blk_cell BK164.out 1).trans (show _ = some _ from rfl); have hf1_ := blk_frozen BK164.out 1; have hq2_ := (blk_cell BK164.out 2).trans (show _ = some _ from rfl); have hf2_ := blk_frozen BK164.out 2; have hq3_ := (blk_cell BK164.out 3).trans (show _ = some _ from rfl); have hf3_ := blk_frozen BK164.out 3; first | (go_simp; done) | (go_simp; rfl))); intro w41 hw; replace BK161 : Aside0 (w41.heap[gb161]? = some (.cells #[.int .i64 a0_0, .slice (some ad163) l0_1.length c0_1] 30 (0, 0))) := ⟨(by rw [hw]; exact (bG NB161_164 BK161))⟩; replace BK164 : Aside0 (w41.heap[gb164]? = some (.cells #[.int .i64 ((rd_T34 l0_1 x18_2).f0), .int .i64 ((rd_T34 l0_1 x18_2).f1), .int .i64 ((rd_T34 l0_1 x18_2).f2), .int .i64 ((rd_T34 l0_1 x18_2).f3)] 34 (0, 0))) := ⟨(by rw [hw]; exact (by refine bU ?_; refine blk_put (cs := #[.int .i64 ((rd_T34 l0_1 x18_2).f0), .int .i64 ((rd_T34 l0_1 x18_2).f1), .int .i64 ((rd_T34 l0_1 x18_2).f2), .int .i64 0]) ?_ 3 _ rfl; refine bU ?_; refine blk_put (cs := #[.int .i64 ((rd_T34 l0_1 x18_2).f0), .int .i64 ((rd_T34 l0_1 x18_2).f1), .int .i64 0, .int .i64 0]) ?_ 2 _ rfl; refine bU ?_; refine blk_put (cs := #[.int .i64 ((rd_T34 l0_1 x18_2).f0), .int .i64 0, .int .i64 0, .int .i64 0]) ?_ 1 _ rfl; refine bU ?_; refine blk_put (cs := #[.int .i64 0, .int .i64 0, .int .i64 0, .int .i64 0]) ?_ 0 _ rfl; refine bU ?_; exact BK164.out))⟩; replace HB : Aside0 (Below w.heap.size w w41) := ⟨(by rw [hw]; exact (lV2 GE161 GE164))⟩; clear hw))
          replace BK161 := Aside0.mk (blk_drew BK161.out)
          replace BK164 := Aside0.mk (blk_drew BK164.out)
          replace HB := Aside0.mk (below_drew1 HB.out)
          refine start_ (n := 21) (S := fun w' => w'.cell? ⟨gb164, 0, none⟩ = some (.int .i64 ((rd_T34 l0_1 x18_2).f0)) ∧ w'.cell? ⟨gb164, 1, none⟩ = some (.int .i64 ((rd_T34 l0_1 x18_2).f1)) ∧ w'.cell? ⟨gb164, 2, none⟩ = some (.int .i64 ((rd_T34 l0_1 x18_2).f2)) ∧ w'.cell? ⟨gb164, 3, none⟩ = some (.int .i64 ((rd_T34 l0_1 x18_2).f3)) ∧ w'.cell? ⟨gb161, 0, none⟩ = some (.int .i64 a0_0) ∧ w'.cell? ⟨gb161, 1, none⟩ = some (.slice (some ad163) l0_1.length c0_1)) (ds := []) #[false, false, false, false, false, false, false, false, false, false, false, false, false, false, false, false, false, false, false, false, false] (by kernel_rfl) rfl rfl ⟨cz BK164 0 _, cz BK164 1 _, cz BK164 2 _, cz BK164 3 _, cz BK161 0 _, cz BK161 1 _⟩ (fun hHeld => ?_); refine with_tabW impl_GoodClock.tab6 impl_GoodClock.bits6 (fun HT_ HW_ => ?_)
          generalize w41.drew = w42 at BK161 BK164 HB hHeld ⊢
          refine pureA 1 24 (bz 21 2) rfl rfl (any_of HT_.out (by kernel_rfl)) ?_
          refine takeA 0 23 (bz 21 3) rfl rfl (take_ofW HT_.out HW_.out (by kernel_rfl)) hHeld (by rintro w' ⟨s0, s1, s2, s3, s4, s5⟩; go_simp; with_reducible rfl) ?_
          refine takeA 2 25 (bz 21 7) rfl rfl (take_ofW HT_.out HW_.out (by kernel_rfl)) hHeld (by rintro w' ⟨s0, s1, s2, s3, s4, s5⟩; go_simp; with_reducible rfl) ?_
          refine one_ (i := 3) (N := some 26) (bz 21 15) rfl rfl (one_of HT_.out (by kernel_rfl)) (by decide) (fun K hK => ?_)
          refine goes_ Try.func26 (by kernel_rfl) rfl #[.agg #[.int .i64 ((rd_T34 l0_1 x18_2).f0), .int .i64 ((rd_T34 l0_1 x18_2).f1), .int .i64 ((rd_T34 l0_1 x18_2).f2), .int .i64 ((rd_T34 l0_1 x18_2).f3)], .int .i64 a0_0] (by rfl) rfl rfl aE ?_
          with_reducible refine (impl_isTimer.calls ((rd_T34 l0_1 x18_2).f0) ((rd_T34 l0_1 x18_2).f1) ((rd_T34 l0_1 x18_2).f2) ((rd_T34 l0_1 x18_2).f3) a0_0 false _ A13.out).mono ?_
          rintro e w43 ⟨rfl, hb⟩
          refine ⟨_, rfl, ?_⟩
          replace BK161 := bB (bV BK161) hb
          replace BK164 := bB (bV BK164) hb
          replace HB := bH (lV2 GE161 GE164) hb
          (try clear hb)
          (try clear hb2)
          (try clear hk)
          (try clear hi)
          refine hK.out _ _ ⟨cz BK164 0 _, cz BK164 1 _, cz BK164 2 _, cz BK164 3 _, cz BK161 0 _, cz BK161 1 _⟩ (fun hHeld => ?_)
          clear hK K
          refine norm_ (a' := ?_) ?_ ?_
          rotate_left
          ·show Act.put _ (some 26) _ = _
           simp only [Act.put, List.setIfInBounds_toArray, List.set_cons_zero, List.set_cons_succ, i64_w, i32_w]
           rfl
          refine pureA 4 27 (bz 21 31) rfl rfl (any_of HT_.out (by kernel_rfl)) ?_
          refine pureA 5 28 (bz 21 63) rfl rfl (any_of HT_.out (by kernel_rfl)) ?_
          refine pureU 6 29 (bz 21 127) rfl rfl (any_of HT_.out (by kernel_rfl)) ?_
          refine pureU 7 30 (bz 21 255) rfl rfl (any_of HT_.out (by kernel_rfl)) ?_
          refine pureU 8 31 (bz 21 511) rfl rfl (any_of HT_.out (by kernel_rfl)) ?_
          refine pureU 9 32 (bz 21 1023) rfl rfl (any_of HT_.out (by kernel_rfl)) ?_
          refine pureU 10 33 (bz 21 2047) rfl rfl (any_of HT_.out (by kernel_rfl)) ?_
          refine pureU 11 34 (bz 21 4095) rfl rfl (any_of HT_.out (by kernel_rfl)) ?_
          refine pureU 12 35 (bz 21 8191) rfl rfl (any_of HT_.out (by kernel_rfl)) ?_
          refine pureU 13 36 (bz 21 16383) rfl rfl (any_of HT_.out (by kernel_rfl)) ?_
          refine pureU 14 37 (bz 21 32767) rfl rfl (any_of HT_.out (by kernel_rfl)) ?_
          refine pureU 15 38 (bz 21 65535) rfl rfl (any_of HT_.out (by kernel_rfl)) ?_
          refine pureU 16 39 (bz 21 131071) rfl rfl (any_of HT_.out (by kernel_rfl)) ?_
          refine pureU 17 40 (bz 21 262143) rfl rfl (any_of HT_.out (by kernel_rfl)) ?_
          refine pureU 18 41 (bz 21 524287) rfl rfl (any_of HT_.out (by kernel_rfl)) ?_
          refine pureU 19 42 (bz 21 1048575) rfl rfl (any_of HT_.out (by kernel_rfl)) ?_
          refine pureA 20 43 (bz 21 2097151) rfl rfl (any_of HT_.out (by kernel_rfl)) ?_
          refine done_ (done_of HT_.out (by kernel_rfl)) ?_
          try go_wp2
          go_ret
          exact ⟨eE, lV2 GE161 GE164⟩
        ·rw [if_neg c12] at H
         exact absurd H (by simp)
       ·rw [if_neg c11] at H
        exact absurd H (by simp)
      ·rw [if_neg c10] at H
       have c10b0 : decide (x18_2 < (l0_1.length : Int)) = false := decide_eq_false c10
       clear c10
       obtain rfl := Option.some.inj H
       go_wp2
       go_ret
       exact ⟨eE, lV1 GE161⟩
end Go.Proofs.Ytjmcahjcgfflgaa.PFnExactAddTimer
namespace Go.Proofs.Ytjmcahjcgfflgaa.PFnExactAddTimer
open Go.RowKit Go.Proofs.YtjmcahjcgfflgaaW.PrintWords Go.Proofs.YtjmcahjcgfflgaaW.PrintLast Go.Proofs.YtjmcahjcgfflgaaW.PrintMore
attribute [local go_sem] max2_int min2_int max_two min_two max_three min_three max_four min_four   -- for this text's walks alone
set_option linter.unusedVariables false
set_option linter.unusedSimpArgs false
def impl_Timer_27.f (l0 : List (S34)) : Option (List (S34)) := if l0.length < 4398046511104 then (some l0) else (none)
set_option maxHeartbeats 8000000 in
set_option maxRecDepth 100000 in
theorem impl_Timer_27.calls (A0 : Option Addr) (c0 : Nat) (l0 : List (S34)) (r : List (S34)) (w : World) (hr0 : Kd.C k34 w A0 l0.length l0) (hc0 : l0.length ≤ c0) (h : impl_Timer_27.f l0 = some r) :
  Calls Try.prog 27 #[.slice A0 l0.length c0] w fun e w' => ∃ v0_ : Value, e = .returned (v0_) ∧ Kd.R k34 34 w' w.heap.size (fun _ => True) v0_ r ∧ Below w.heap.size w w' := by
 have hl : l0.length < 4398046511104 ∧ l0 = r := by
  unfold impl_Timer_27.f at h
  split at h
  ·exact ⟨by assumption, Option.some.inj h⟩
  ·cases h
 clear h
 obtain ⟨hl, rfl⟩ := hl
 have HL := Aside0.mk hl
 have HR0 := Aside0.mk hr0
 clear hr0 hl
 have HT := Try.underlying28
 have u0 : ∀ w, Sem.run Try.prog (underlying 28) w = .ok (TypeDesc.slice 34) w := run_underlying HT
 have q0 : ∀ (w : World) (a : Option Addr) (n c n' c' : Nat), (binOp .eql 28 (.slice a n c) (.slice none n' c')).run Try.prog w = .ok (.bool a.isNone) w := fun w a n c n' c' => Lib.run_eql_slice_nil w _ _ a n c n' c' HT
 cases A0 with
 | none =>
  obtain rfl : l0 = [] := by
   rcases Nat.eq_zero_or_pos l0.length with h0 | h0
   ·exact List.eq_nil_of_length_eq_zero h0
   ·obtain ⟨ad, h1, _⟩ := HR0.out.2.2 h0
    cases h1
  go_enter Try.func27, Try.ntmps27
  go_wp2
  go_ret
  exact ⟨_, rfl, Kd.R_nil _ _ _ _ _, Below.refl _ _⟩
 | some ad =>
  go_enter Try.func27, Try.ntmps27
  go_wp2_with (first | ((with_reducible refine gate_builtin (b := .append) (xs := #[.tmp 5, .tmp 6]) rfl ?_); at_builtin; refine Kd.R_append_rows k34 (w0 := w) w.heap.size rfl (.tmp 5) (.tmp 6) 28 34 (.agg #[(.int .i64 0), (.int .i64 0), (.int .i64 0), (.int .i64 0)]) 32 rfl Try.underlying28 info34 rfl (by decide) (by omega) (.slice (some ⟨w.heap.size, 0, none⟩) 0 0) [] l0 (some ad) l0.length c0 (fun _ => True) (fun _ => False) rfl rfl ?aO ?aR (fun _ _ h => h) (fun _ h => h.elim) ?aF ?aB ?aS ?aL ?_; (case aR => exact Kd.C_below HR0.out (below_alloc (Below.refl _ _) _)); (case aB => exact below_alloc (Below.refl _ _) _); (case aF => exact fun _ _ => trivial); (case aO => exact ⟨fun _ _ => trivial, [], World.ownsRow_made w #[] 0 (Nat.le_refl _) (Nat.zero_le _) rfl, ⟨rfl, fun j p hj => by simp at hj⟩⟩); (case aS => simp); (case aL => have := HL.out; simp only [List.length_nil, Nat.zero_add]; omega); intro v1 w1 ho hb hg hat; rw [List.nil_append] at ho; have HO := Aside0.mk ho; have HB := Aside0.mk hb; clear ho hb hg hat))
  go_ret
  exact ⟨_, rfl, HO.out, HB.out⟩
def impl_Clock_place_1.f (a0_0 : Int) (a0_1 : Int) (a0_2 : Int) (a0_3 : Int) (a1 : Int) : Option (Int) := some (wrap64 (a0_0 - a1))
set_option maxHeartbeats 8000000 in
set_option maxRecDepth 100000 in
theorem impl_Clock_place_1.calls (a0_0 : Int) (a0_1 : Int) (a0_2 : Int) (a0_3 : Int) (a1 : Int) (r : Int) (w : World) (h : impl_Clock_place_1.f a0_0 a0_1 a0_2 a0_3 a1 = some r) :
  Calls Try.prog 55 #[.agg #[.int .i64 a0_0, .int .i64 a0_1, .int .i64 a0_2, .int .i64 a0_3], .int .i64 a1] w fun e w' => e = .returned (.int .i64 r) ∧ Below w.heap.size w w' := by
 have hu34 := Try.underlying34
 have HB := Aside0.mk (Below.refl w.heap.size w)
 have H : (some (wrap64 (a0_0 - a1))) = some r := h
 clear h
 obtain rfl := Option.some.inj H
 go_enter Try.func55, Try.ntmps55
 go_wp2_with (first | ((with_reducible refine gate_dst (N := 2) rfl ?_); refine box_event rfl (N := 2) rfl (cs := #[.int .i64 a0_0, .int .i64 a0_1, .int .i64 a0_2, .int .i64 a0_3]) (t := 34) sE ?_; intro gb167 hg w3 hbox hb; have BK167 := Aside0.mk hbox; have GW167 := gS w hg (lU); have GE167 := gS w hg (lU); replace HB := bH (lU) hb; clear hb hbox hg; have hcz4_0 := cz BK167 0 (.int .i64 a0_0); have hcz4_1 := cz BK167 1 (.int .i64 a0_1); have hcz4_2 := cz BK167 2 (.int .i64 a0_2); have hcz4_3 := cz BK167 3 (.int .i64 a0_3); have hfz4_0 := fz BK167 0; have hfz4_1 := fz BK167 1; have hfz4_2 := fz BK167 2; have hfz4_3 := fz BK167 3))
 go_ret
 exact ⟨eE, lV1 GE167⟩
def slices_BinarySearchFunc_w55.l0 : Nat → List (S34) → Int → Int → Int → Int → Option (Int × Bool)
 | 0, _, _, _, _, _ => none
 | k + 1, x0, x1, x8, x9, x10 => if x9 < x10 then (if 0 ≤ (wrap64 ((IntKind.u64.wrap (wrap64 (x9 + x10))) / 2)) then (if (wrap64 ((IntKind.u64.wrap (wrap64 (x9 + x10))) / 2)) < (x0.length : Int) then ((impl_Clock_place_1.f ((rd_T34 x0 (wrap64 ((IntKind.u64.wrap (wrap64 (x9 + x10))) / 2))).f0) ((rd_T34 x0 (wrap64 ((IntKind.u64.wrap (wrap64 (x9 + x10))) / 2))).f1) ((rd_T34 x0 (wrap64 ((IntKind.u64.wrap (wrap64 (x9 + x10))) / 2))).f2) ((rd_T34 x0 (wrap64 ((IntKind.u64.wrap (wrap64 (x9 + x10))) / 2))).f3) x1).bind fun t169 => (if t169 < 0 then (slices_BinarySearchFunc_w55.l0 k x0 x1 x8 (wrap64 ((wrap64 ((IntKind.u64.wrap (wrap64 (x9 + x10))) / 2)) + 1)) x10) else (slices_BinarySearchFunc_w55.l0 k x0 x1 x8 x9 (wrap64 ((IntKind.u64.wrap (wrap64 (x9 + x10))) / 2))))) else (none)) else (none)) else (if x9 < x8 then (if 0 ≤ x9 then (if x9 < (x0.length : Int) then ((impl_Clock_place_1.f ((rd_T34 x0 x9).f0) ((rd_T34 x0 x9).f1) ((rd_T34 x0 x9).f2) ((rd_T34 x0 x9).f3) x1).bind fun t171 => (some (x9, (t171 == 0)))) else (none)) else (none)) else (some (x9, false)))
def slices_BinarySearchFunc_w55.f (k : Nat) (l0 : List (S34)) (a1 : Int)  : Option (Int × Bool) := slices_BinarySearchFunc_w55.l0 k l0 a1 (l0.length : Int) 0 (l0.length : Int)
theorem slices_BinarySearchFunc_w55.mono_l : ∀ k, (∀ y0 y1 y2 y3 y4, LeO (slices_BinarySearchFunc_w55.l0 k y0 y1 y2 y3 y4) (slices_BinarySearchFunc_w55.l0 (k + 1) y0 y1 y2 y3 y4))
 | 0 => fun _ _ _ _ _ r h => by simp [slices_BinarySearchFunc_w55.l0] at h
 | k + 1 => by
  have ih0 := slices_BinarySearchFunc_w55.mono_l k
  ·intro y0 y1 y2 y3 y4
   unfold slices_BinarySearchFunc_w55.l0
   repeat' first
   | (with_reducible exact ih0 _ _ _ _ _)
   | (with_reducible exact LeO.refl _)
   | (with_reducible exact LeO.none _)
   | (with_reducible refine LeO.ite ?_ ?_)
   | (with_reducible refine LeO.bind ?_ (fun _ => ?_))
   | exact ih0 _ _ _ _ _
   | exact LeO.none _
   | refine LeO.ite ?_ ?_
   | refine LeO.bind ?_ (fun _ => ?_)
theorem slices_BinarySearchFunc_w55.mono : ∀ a0 a1 k, LeO (slices_BinarySearchFunc_w55.f k a0 a1) (slices_BinarySearchFunc_w55.f (k + 1) a0 a1) := by
 intro a0 a1 k
 have ih0 := slices_BinarySearchFunc_w55.mono_l k
 unfold slices_BinarySearchFunc_w55.f
 repeat' first
   | (with_reducible exact ih0 _ _ _ _ _)
   | (with_reducible exact LeO.refl _)
   | (with_reducible exact LeO.none _)
   | (with_reducible refine LeO.ite ?_ ?_)
   | (with_reducible refine LeO.bind ?_ (fun _ => ?_))
   | exact ih0 _ _ _ _ _
   | exact LeO.none _
   | refine LeO.ite ?_ ?_
   | refine LeO.bind ?_ (fun _ => ?_)
set_option maxHeartbeats 8000000 in
set_option maxRecDepth 100000 in
theorem slices_BinarySearchFunc_w55.calls (k : Nat) (A0 : Option Addr) (c0 : Nat) (l0 : List (S34)) (a1 : Int)  (r1 : Int) (r2 : Bool) (w : World) (hr0 : Kd.C k34 w A0 l0.length l0) (hc0 : l0.length ≤ c0) (h : slices_BinarySearchFunc_w55.f k l0 a1 = some (r1, r2)) :
  Calls Try.prog 54 #[.slice A0 l0.length c0, .int .i64 a1, .func (.func 55) #[] #[]] w fun e w' => e = .returned (.tuple #[.int .i64 r1, .bool r2]) ∧ Below w.heap.size w w' := by
 have hu34 := Try.underlying34
 have HR0 := Aside0.mk hr0
 have HC0 := Aside0.mk hc0
 clear hr0 hc0
 have HB := Aside0.mk (Below.refl w.heap.size w)
 have H : (slices_BinarySearchFunc_w55.l0 k l0 a1 (l0.length : Int) 0 (l0.length : Int)) = some (r1, r2) := h
 clear h
 have H' := Aside0.mk H
 clear H
 go_enter Try.func54, Try.ntmps54
 go_wp2
 go_loopg [9, 10] k (fun kq v9 v10 w' => ∃ (x9_1 : Int) (x10_1 : Int), v9 = .int .i64 x9_1 ∧ v10 = .int .i64 x10_1 ∧ Aside0 (slices_BinarySearchFunc_w55.l0 kq l0 a1 (l0.length : Int) x9_1 x10_1 = some (r1, r2)) ∧ Aside0 (kq ≤ k) ∧ Aside0 (Below w.heap.size w w'))
 case atStart => exact ⟨(0), ((l0.length : Int)), tE, tE, H', ⟨Nat.le_refl _⟩, ⟨by repeat (first | (with_reducible first | exact HB.out | apply below_alloc | apply pw_below_drewN | apply below_drew1) | exact HB.out)⟩⟩
 case round =>
  clear H'
  try clear p2
  obtain ⟨x9_1, x10_1, rfl, rfl, HA, HK1, HB⟩ := hrel
  cases gk with
  | zero => exact absurd HA.out (by simp [slices_BinarySearchFunc_w55.l0])
  | succ k1 =>
   have H := HA.out
   clear HA
   simp only [slices_BinarySearchFunc_w55.l0] at H
   by_cases c4 : x9_1 < x10_1
   ·rw [if_pos c4] at H
    have c4b0 : decide (x9_1 < x10_1) = true := decide_eq_true c4
    clear c4
    obtain ⟨ji5, hji5⟩ : ∃ j_ : Int, (wrap64 ((IntKind.u64.wrap (wrap64 (x9_1 + x10_1))) / 2)) = j_ := ⟨_, rfl⟩
    replace H : (if 0 ≤ (ji5) then (if (ji5) < (l0.length : Int) then ((impl_Clock_place_1.f ((rd_T34 l0 (ji5)).f0) ((rd_T34 l0 (ji5)).f1) ((rd_T34 l0 (ji5)).f2) ((rd_T34 l0 (ji5)).f3) a1).bind fun t169 => (if t169 < 0 then (slices_BinarySearchFunc_w55.l0 k1 l0 a1 (l0.length : Int) (wrap64 ((ji5) + 1)) x10_1) else (slices_BinarySearchFunc_w55.l0 k1 l0 a1 (l0.length : Int) x9_1 ji5))) else (none)) else (none)) = some (r1, r2) := by first | (rw [hji5] at H; exact H) | (simp only [hji5] at H ⊢; exact H)
    have hji5w : (IntKind.i64.wrap ((IntKind.u64.wrap (wrap64 (x9_1 + x10_1))) / 2)) = ji5 := (i64_w _).trans hji5
    by_cases c6 : 0 ≤ (ji5)
    ·rw [if_pos c6] at H
     have c6b0 : decide (0 ≤ (ji5)) = true := decide_eq_true c6
     clear c6
     by_cases c7 : (ji5) < (l0.length : Int)
     ·rw [if_pos c7] at H
      have c7b0 : decide ((ji5) < (l0.length : Int)) = true := decide_eq_true c7
      clear c7
      replace H := Option.bind_eq_some_iff.mp H
      obtain ⟨t169, A80, H⟩ := H
      replace H : (if t169 < 0 then (slices_BinarySearchFunc_w55.l0 k1 l0 a1 (l0.length : Int) (wrap64 ((ji5) + 1)) x10_1) else (slices_BinarySearchFunc_w55.l0 k1 l0 a1 (l0.length : Int) x9_1 ji5)) = some (r1, r2) := H
      have A8 := Aside0.mk A80
      clear A80
      by_cases c9 : t169 < 0
      ·rw [if_pos c9] at H
       have c9b0 : decide (t169 < 0) = true := decide_eq_true c9
       clear c9
       have H' := Aside0.mk H
       clear H
       have p168 : 0 ≤ ((ji5) : Int) := of_decide_eq_true hE
       have q168 : (ji5) < (l0.length : Int) := of_decide_eq_true hE
       obtain ⟨ad168, e168, hx168_0, hx168_1, hx168_2, hx168_3⟩ := at_T34 HR0.out (ji5) p168 q168
       cases e168
       replace hx168_0 := (HB.out.cell (World.block_lt_of_cell? w _ hx168_0)).trans hx168_0
       replace hx168_1 := (HB.out.cell (World.block_lt_of_cell? w _ hx168_1)).trans hx168_1
       replace hx168_2 := (HB.out.cell (World.block_lt_of_cell? w _ hx168_2)).trans hx168_2
       replace hx168_3 := (HB.out.cell (World.block_lt_of_cell? w _ hx168_3)).trans hx168_3
       replace p168 := eq_true p168
       replace q168 := eq_true q168
       go_wp2_with (first | ((with_reducible refine gateD_ rfl ?_); refine goesD_ (some 30) rfl rfl Try.func55 (by kernel_rfl) rfl rfl rfl #[.agg #[.int .i64 ((rd_T34 l0 (ji5)).f0), .int .i64 ((rd_T34 l0 (ji5)).f1), .int .i64 ((rd_T34 l0 (ji5)).f2), .int .i64 ((rd_T34 l0 (ji5)).f3)], .int .i64 a1] (by (try simp only [List.map_toArray, List.map_cons, List.map_nil]); first | done | (simp only [hji5]; rfl) | rfl | (simp only [List.length_drop, List.length_take]; rfl)) ?_; (with_reducible refine (impl_Clock_place_1.calls ((rd_T34 l0 (ji5)).f0) ((rd_T34 l0 (ji5)).f1) ((rd_T34 l0 (ji5)).f2) ((rd_T34 l0 (ji5)).f3) a1 t169 _ A8.out).mono ?_); rintro e w10 ⟨rfl, hb⟩; refine ⟨_, rfl, ?_⟩; replace HB := bH (lU) hb; (try clear hb)))
       go_roundg k1
       case measure => have := HK1.out; omega
       case rel => exact ⟨(wrap64 ((ji5) + 1)), (x10_1), (by first | rfl | (simp; done) | (simp only [← hji5] <;> (first | rfl | simp)) | (simp [*]; done) | exact not_isEmpty _ | exact (not_isEmpty _).symm | exact is_empty _ | exact (is_empty _).symm), tE, H', ⟨by have := HK1.out; omega⟩, ⟨by repeat (first | (with_reducible first | exact HB.out | apply below_alloc | apply pw_below_drewN | apply below_drew1) | exact HB.out)⟩⟩
      ·rw [if_neg c9] at H
       have c9b0 : decide (t169 < 0) = false := decide_eq_false c9
       clear c9
       have H' := Aside0.mk H
       clear H
       have p168 : 0 ≤ ((ji5) : Int) := of_decide_eq_true hE
       have q168 : (ji5) < (l0.length : Int) := of_decide_eq_true hE
       obtain ⟨ad168, e168, hx168_0, hx168_1, hx168_2, hx168_3⟩ := at_T34 HR0.out (ji5) p168 q168
       cases e168
       replace hx168_0 := (HB.out.cell (World.block_lt_of_cell? w _ hx168_0)).trans hx168_0
       replace hx168_1 := (HB.out.cell (World.block_lt_of_cell? w _ hx168_1)).trans hx168_1
       replace hx168_2 := (HB.out.cell (World.block_lt_of_cell? w _ hx168_2)).trans hx168_2
       replace hx168_3 := (HB.out.cell (World.block_lt_of_cell? w _ hx168_3)).trans hx168_3
       replace p168 := eq_true p168
       replace q168 := eq_true q168
       go_wp2_with (first | ((with_reducible refine gateD_ rfl ?_); refine goesD_ (some 30) rfl rfl Try.func55 (by kernel_rfl) rfl rfl rfl #[.agg #[.int .i64 ((rd_T34 l0 (ji5)).f0), .int .i64 ((rd_T34 l0 (ji5)).f1), .int .i64 ((rd_T34 l0 (ji5)).f2), .int .i64 ((rd_T34 l0 (ji5)).f3)], .int .i64 a1] (by (try simp only [List.map_toArray, List.map_cons, List.map_nil]); first | done | (simp only [hji5]; rfl) | rfl | (simp only [List.length_drop, List.length_take]; rfl)) ?_; (with_reducible refine (impl_Clock_place_1.calls ((rd_T34 l0 (ji5)).f0) ((rd_T34 l0 (ji5)).f1) ((rd_T34 l0 (ji5)).f2) ((rd_T34 l0 (ji5)).f3) a1 t169 _ A8.out).mono ?_); rintro e w11 ⟨rfl, hb⟩; refine ⟨_, rfl, ?_⟩; replace HB := bH (lU) hb; (try clear hb)))
       go_roundg k1
       case measure => have := HK1.out; omega
       case rel => exact ⟨(x9_1), (ji5), tE, (by first | rfl | (simp; done) | (simp only [← hji5] <;> (first | rfl | simp)) | (simp [*]; done) | exact not_isEmpty _ | exact (not_isEmpty _).symm | exact is_empty _ | exact (is_empty _).symm), H', ⟨by have := HK1.out; omega⟩, ⟨by repeat (first | (with_reducible first | exact HB.out | apply below_alloc | apply pw_below_drewN | apply below_drew1) | exact HB.out)⟩⟩
     ·rw [if_neg c7] at H
      exact absurd H (by simp)
    ·rw [if_neg c6] at H
     exact absurd H (by simp)
   ·rw [if_neg c4] at H
    have c4b0 : decide (x9_1 < x10_1) = false := decide_eq_false c4
    clear c4
    by_cases c12 : x9_1 < (l0.length : Int)
    ·rw [if_pos c12] at H
     have c12b0 : decide (x9_1 < (l0.length : Int)) = true := decide_eq_true c12
     clear c12
     by_cases c13 : 0 ≤ x9_1
     ·rw [if_pos c13] at H
      have c13b0 : decide (0 ≤ x9_1) = true := decide_eq_true c13
      clear c13
      by_cases c14 : x9_1 < (l0.length : Int)
      ·rw [if_pos c14] at H
       have c14b0 : decide (x9_1 < (l0.length : Int)) = true := decide_eq_true c14
       clear c14
       replace H := Option.bind_eq_some_iff.mp H
       obtain ⟨t171, A150, H⟩ := H
       replace H : (some (x9_1, (t171 == 0))) = some (r1, r2) := H
       have A15 := Aside0.mk A150
       clear A150
       simp only [Option.some.injEq, Prod.mk.injEq] at H
       obtain ⟨rfl, rfl⟩ := H
       have p170 : 0 ≤ (x9_1 : Int) := of_decide_eq_true hE
       have q170 : x9_1 < (l0.length : Int) := of_decide_eq_true hE
       obtain ⟨ad170, e170, hx170_0, hx170_1, hx170_2, hx170_3⟩ := at_T34 HR0.out x9_1 p170 q170
       cases e170
       replace hx170_0 := (HB.out.cell (World.block_lt_of_cell? w _ hx170_0)).trans hx170_0
       replace hx170_1 := (HB.out.cell (World.block_lt_of_cell? w _ hx170_1)).trans hx170_1
       replace hx170_2 := (HB.out.cell (World.block_lt_of_cell? w _ hx170_2)).trans hx170_2
       replace hx170_3 := (HB.out.cell (World.block_lt_of_cell? w _ hx170_3)).trans hx170_3
       replace p170 := eq_true p170
       replace q170 := eq_true q170
       go_wp2_with (first | (go_at_call 55; (with_reducible refine (impl_Clock_place_1.calls ((rd_T34 l0 x9_1).f0) ((rd_T34 l0 x9_1).f1) ((rd_T34 l0 x9_1).f2) ((rd_T34 l0 x9_1).f3) a1 t171 _ A15.out).mono ?_); rintro e w16 ⟨rfl, hb⟩; replace HB := bH (lU) hb; (try clear hb)))
       go_ret2
       exact ⟨eE, lU⟩
      ·rw [if_neg c14] at H
       exact absurd H (by simp)
     ·rw [if_neg c13] at H
      exact absurd H (by simp)
    ·rw [if_neg c12] at H
     have c12b0 : decide (x9_1 < (l0.length : Int)) = false := decide_eq_false c12
     clear c12
     simp only [Option.some.injEq, Prod.mk.injEq] at H
     obtain ⟨rfl, rfl⟩ := H
     go_wp2
     go_ret2
     exact ⟨eE, lU⟩
def impl_Clock_place.f (k : Nat) (a0_0 : Int) (l0_1 : List (S34)) (a1 : Int) : Option (Int × Bool) := (slices_BinarySearchFunc_w55.f k l0_1 a1).bind fun bt173 => (some (bt173.1, bt173.2))
theorem impl_Clock_place.mono : ∀ a0 a1 a2 k, LeO (impl_Clock_place.f k a0 a1 a2) (impl_Clock_place.f (k + 1) a0 a1 a2) := by
 intro a0 a1 a2 k
 unfold impl_Clock_place.f
 repeat' first
   | (with_reducible exact slices_BinarySearchFunc_w55.mono _ _ _)
   | (with_reducible exact LeO.refl _)
   | (with_reducible exact LeO.none _)
   | (with_reducible refine LeO.ite ?_ ?_)
   | (with_reducible refine LeO.bind ?_ (fun _ => ?_))
   | exact slices_BinarySearchFunc_w55.mono _ _ _
   | exact LeO.none _
   | refine LeO.ite ?_ ?_
   | refine LeO.bind ?_ (fun _ => ?_)
set_option maxHeartbeats 8000000 in
set_option maxRecDepth 100000 in
theorem impl_Clock_place.calls (k : Nat) (a0_0 : Int) (A0_1 : Option Addr) (c0_1 : Nat) (l0_1 : List (S34)) (a1 : Int) (r1 : Int) (r2 : Bool) (w : World) (hr0_1 : Kd.C k34 w A0_1 l0_1.length l0_1) (hc0_1 : l0_1.length ≤ c0_1) (h : impl_Clock_place.f k a0_0 l0_1 a1 = some (r1, r2)) :
  Calls Try.prog 28 #[.agg #[.int .i64 a0_0, .slice A0_1 l0_1.length c0_1], .int .i64 a1] w fun e w' => e = .returned (.tuple #[.int .i64 r1, .bool r2]) ∧ Below w.heap.size w w' := by
 have hu30 := Try.underlying30
 have HR0_1 := Aside0.mk hr0_1
 have HC0_1 := Aside0.mk hc0_1
 clear hr0_1 hc0_1
 have HB := Aside0.mk (Below.refl w.heap.size w)
 have H : ((slices_BinarySearchFunc_w55.f k l0_1 a1).bind fun bt173 => (some (bt173.1, bt173.2))) = some (r1, r2) := h
 clear h
 replace H := Option.bind_eq_some_iff.mp H
 obtain ⟨⟨t173, t174⟩, A30, H⟩ := H
 replace H : (some (t173, t174)) = some (r1, r2) := H
 have A3 := Aside0.mk A30
 clear A30
 simp only [Option.some.injEq, Prod.mk.injEq] at H
 obtain ⟨rfl, rfl⟩ := H
 go_enter Try.func28, Try.ntmps28
 go_wp2_with (first | ((with_reducible refine gate_dst (N := 2) rfl ?_); refine box_event rfl (N := 2) rfl (cs := #[.int .i64 a0_0, .slice A0_1 l0_1.length c0_1]) (t := 30) sE ?_; intro gb172 hg w4 hbox hb; have BK172 := Aside0.mk hbox; have GW172 := gS w hg (lU); have GE172 := gS w hg (lU); replace HB := bH (lU) hb; clear hb hbox hg; have hcz5_0 := cz BK172 0 (.int .i64 a0_0); have hcz5_1 := cz BK172 1 (.slice A0_1 l0_1.length c0_1); have hfz5_0 := fz BK172 0; have hfz5_1 := fz BK172 1) | ((with_reducible refine gate_callee (f := 54) rfl ?_); refine goesL_ (some 9) rfl rfl Try.func54 (by kernel_rfl) rfl #[.slice A0_1 l0_1.length c0_1, .int .i64 a1, .func (.func 55) #[] #[]] rfl aE ?_; (with_reducible refine (slices_BinarySearchFunc_w55.calls k _ _ l0_1 a1  t173 t174 _ ?side1 ?side2 A3.out).mono ?_); (case side1 => exact cU (Kd.C_below HR0_1.out HB.out)); (case side2 => exact HC0_1.out); rintro e w6 ⟨rfl, hb⟩; refine ⟨_, rfl, ?_⟩; replace BK172 := bB (bV BK172) hb; replace HB := bH (lV1 GE172) hb; (try clear hb)))
 go_ret2
 exact ⟨eE, lV1 GE172⟩
def impl_Timer_29.f (l0 : List (S34)) (a1 : Int) (l2 : List (S34)) : Option (List (S34)) := if 0 ≤ a1 then (if a1 ≤ (l0.length : Int) then (if l2.length = 1 then (if (l0.length + 1) * 32 ≤ 140737488355328 then (some (l0.take a1.toNat ++ l2 ++ l0.drop a1.toNat)) else (none)) else (none)) else (none)) else (none)
set_option maxHeartbeats 8000000 in
set_option maxRecDepth 100000 in
theorem impl_Timer_29.calls (P0_ : Nat → Prop) (u9000_ : Value) (l0 : List (S34)) (a1 : Int) (A2 : Option Addr) (c2 : Nat) (l2 : List (S34)) (r : List (S34)) (w0 w : World) (hB : Below w0.heap.size w0 w) (ho0 : Kd.R k34 34 w w0.heap.size P0_ u9000_ l0) (hr2 : ∀ W_, Kept w W_ (fun k_ => P0_ k_) → Kd.C k34 W_ A2 l2.length l2) (hc2 : l2.length ≤ c2) (h : impl_Timer_29.f l0 a1 l2 = some r) :
  Calls Try.prog 29 #[u9000_, .int .i64 a1, .slice A2 l2.length c2] w fun e w' => ∃ v0_ : Value, e = .returned (v0_) ∧ Kd.R k34 34 w' w0.heap.size (fun k_ => (P0_ k_ ∨ w.heap.size ≤ k_)) v0_ r ∧ Below w0.heap.size w0 w' ∧ Kept w w' (fun k_ => P0_ k_) := by
 obtain ⟨h0, h1, h2, h3, rfl⟩ : 0 ≤ a1 ∧ a1 ≤ (l0.length : Int) ∧ l2.length = 1 ∧ (l0.length + 1) * 32 ≤ 140737488355328 ∧ l0.take a1.toNat ++ l2 ++ l0.drop a1.toNat = r := by
  unfold impl_Timer_29.f at h
  split at h
  ·split at h
   ·split at h
    ·split at h
     ·exact ⟨by assumption, by assumption, by assumption, by assumption, Option.some.inj h⟩
     ·cases h
    ·cases h
   ·cases h
  ·cases h
 clear h
 obtain ⟨x, rfl⟩ : ∃ x, l2 = [x] := List.length_eq_one_iff.1 h2
 obtain ⟨i, rfl⟩ : ∃ i : Nat, a1 = (i : Int) := ⟨a1.toNat, by omega⟩
 rw [Int.toNat_natCast]
 have hi : i ≤ l0.length := by omega
 obtain ⟨A0, c0, rfl⟩ := Kd.R_slice ho0
 obtain ⟨_, hnc, _⟩ := Kd.R_reads' ho0
 have HT := Try.underlying28
 obtain ⟨i0, hi0, hz0, hz1, hz2⟩ := info_parts info34
 have cut := cut_from (P := Try.prog) 28 34 .i64 HT hi0 4 hz1 A0 l0.length c0 (i : Int) (by omega) (by omega)
 have ei : ((i : Int)).toNat = i := rfl
 rw [ei] at cut
 obtain ⟨A3, hA3⟩ : ∃ A3, A3 = (if c0 = i then A0 else A0.map (·.add (i * 4))) := ⟨_, rfl⟩
 rw [← hA3] at cut
 clear hA3 ei
 have HC2 := Aside0.mk hr2
 have HO := Aside0.mk ho0
 have HB := Aside0.mk hB
 have HS := Aside0.mk hB.size
 have H3 := Aside0.mk h3
 clear hr2 ho0 hB h3 hi0 hz0 hz1 hz2
 by_cases hin : i = l0.length
 ·have HIN := Aside0.mk hin
  have hb1 : ((i : Int) == (l0.length : Int)) = true := by simp; omega
  go_enter Try.func29, Try.ntmps29
  go_wp2_with (first | ((with_reducible refine gate_builtin (b := .append) (xs := #[.tmp 23, .tmp 24]) rfl ?_); at_builtin; refine Kd.R_append_rows k34 (w0 := w0) (Rr := fun y cs => ∀ (W : World) (b_ : Nat) (q_ : Nat → Prop), k34.M W b_ q_ y cs) w0.heap.size rfl (.tmp 23) (.tmp 24) 28 34 (.agg #[(.int .i64 0), (.int .i64 0), (.int .i64 0), (.int .i64 0)]) 32 rfl Try.underlying28 info34 rfl (by decide) (by decide) _ l0 [x] A2 1 c2 (fun k_ => P0_ k_ ∨ w.heap.size ≤ k_) (fun _ => False) rfl rfl ?aO ?aR ?aM (fun _ h => h.elim) ?aF ?aB ?aS H3.out ?_; (case aO => exact Kd.R_mono HO.out (fun _ h => .inl h)); (case aR => exact (HC2.out w (Kept.refl w _)).imp_ (Below.refl _ _) (fun y _ hp => by rw [k34_open hp]; exact fun _ _ _ => k34_mkM _ _ _ y)); (case aM => exact fun _ _ hy => hy _ _ _); (case aF => exact fun _ h => .inr h); (case aB => exact HB.out); (case aS => exact HS.out); intro v1 w1 ho hb hg hat))
  all_goals go_ret
  all_goals exact ⟨_, rfl, by have := ho; simpa [List.take_length, List.drop_length] using this, hb, Kept.of_grown hg (Kept.refl w _) (fun k hk => .inl (HO.out.1 k hk))⟩
 ·have hlt : i < l0.length := by omega
  obtain ⟨g, c, he, hg0, hg1, hg2⟩ := Kd.R_form HO.out (by omega)
  have hcc : c = c0 := by injection he with _ _ h; exact h.symm
  subst hcc
  have hA : A0 = some ⟨g, 0, none⟩ := by injection he
  subst hA
  have HLT := Aside0.mk hlt
  have hb1 : ((i : Int) == (l0.length : Int)) = false := by simp; omega
  obtain ⟨A2v, rfl⟩ : ∃ ad, A2 = some ad := by
   obtain ⟨ad, h, _⟩ := (HC2.out w (Kept.refl w _)).2.2 (by simp)
   exact ⟨ad, h⟩
  obtain ⟨j0, hj0, _, hj1, _⟩ := info_parts info34
  have hel : Try.prog.elem 28 = 34 := by simp [Program.elem, HT]
  have hu : Try.prog.underlying 28 = some (.slice (Try.prog.elem 28)) := by rw [hel]; exact HT
  have cutA : ∀ W : World, (Instr.slice 28 (.slice (some ⟨g, 0, none⟩) l0.length c) (some (.int .i64 (i : Int))) none none).run Try.prog W = .ok (.slice (some ⟨g, i * 4, none⟩) (l0.length - i) (c - i)) W := by
   intro W
   rw [run_slice_l W 28 (some ⟨g, 0, none⟩) l0.length c hu .i64 (i : Int) (by omega) (by omega), hel]
   have e1 : ¬ c = i := by omega
   simp [sizeOf, typeInfo, hj0, hj1, sliced, Result.andThen, e1, add_plain]
  by_cases hroom : l0.length + 1 ≤ c
  ·have cutB : ∀ W : World, (Instr.slice 28 (.slice (some ⟨g, 0, none⟩) l0.length c) none (some (.int .i64 ((l0.length : Int) + 1))) none).run Try.prog W = .ok (.slice (some ⟨g, 0, none⟩) (l0.length + 1) c) W := by
    intro W
    rw [run_slice_h W 28 (some ⟨g, 0, none⟩) l0.length c hu .i64 ((l0.length : Int) + 1) (by omega) (by omega), hel]
    have e2 : ((l0.length : Int) + 1).toNat = l0.length + 1 := by omega
    simp [sizeOf, typeInfo, hj0, hj1, sliced, Result.andThen, e2, add_plain]
   have cutC : ∀ W : World, (Instr.slice 28 (.slice (some ⟨g, 0, none⟩) (l0.length + 1) c) (some (.int .i64 ((i : Int) + 1))) none none).run Try.prog W = .ok (.slice (some ⟨g, (i + 1) * 4, none⟩) (l0.length - i) (c - (i + 1))) W := by
    intro W
    rw [run_slice_l W 28 (some ⟨g, 0, none⟩) (l0.length + 1) c hu .i64 ((i : Int) + 1) (by omega) (by omega), hel]
    have e1 : ¬ c = i + 1 := by omega
    have e2 : ((i : Int) + 1).toNat = i + 1 := by omega
    have e3 : l0.length + 1 - (i + 1) = l0.length - i := by omega
    simp [sizeOf, typeInfo, hj0, hj1, sliced, Result.andThen, e1, e2, add_plain]
   have cutD : ∀ W : World, (Instr.slice 28 (.slice (some ⟨g, 0, none⟩) (l0.length + 1) c) (some (.int .i64 (i : Int))) none none).run Try.prog W = .ok (.slice (some ⟨g, i * 4, none⟩) (l0.length + 1 - i) (c - i)) W := by
    intro W
    rw [run_slice_l W 28 (some ⟨g, 0, none⟩) (l0.length + 1) c hu .i64 (i : Int) (by omega) (by omega), hel]
    have e1 : ¬ c = i := by omega
    simp [sizeOf, typeInfo, hj0, hj1, sliced, Result.andThen, e1, add_plain]
   obtain ⟨gcur, hgcur⟩ : ∃ cur, w.heap[g]? = some (.cells cur 34 (0, 0)) := own_typed HO.out.2.choose_spec.1 g (by simp [Value.ownBlock])
   obtain ⟨adx, hadx, hadg, vc_, vt_, vf_, hvh, hvs⟩ := Kd.C_apart k34 (by decide) (by simp) HC2.out (HO.out.1 g (by simp [Value.ownBlock]))
   obtain rfl : A2v = adx := by injection hadx
   have hov : ∀ ca o lb cb, (callFunc 56 #[.slice (some A2v) 1 ca, .slice (some ⟨g, o, none⟩) lb cb]).run Try.prog w = .ok (.value (.bool false)) w := fun ca o lb cb => by
    rw [run_callFunc_extern Try.func56 (by kernel_rfl) (by kernel_rfl) (by kernel_rfl) (e := Extern.SlicesOverlaps.overlaps #[28, 28] #[4]) (by kernel_rfl),
     run_overlaps_own w 28 4 34 HT 4 (by intro W; simp [sizeOf, typeInfo, hj0, hj1]) A2v ⟨g, o, none⟩ 1 ca lb cb hadg vc_ gcur vt_ 34 vf_ hvh hvs hgcur]
    rfl
   have hz2 : ¬ ((i : Int) = (l0.length : Int)) := by omega
   have hz3 : ¬ ((c : Int) < (l0.length : Int) + 1) := by omega
   have hw1 : IntKind.i64.wrap ((i : Int) + 1) = (i : Int) + 1 := by rw [IntKind.wrap_i64]; have := H3.out; omega
   have hw2 : IntKind.i64.wrap ((l0.length : Int) + 1) = (l0.length : Int) + 1 := by rw [IntKind.wrap_i64]; have := H3.out; omega
   have hbi : (0 : Int) ≤ (i : Int) + 1 := by omega
   have htn : ((i : Int) + 1).toNat = i + 1 := by omega
   have htn2 : ((l0.length : Int) + 1).toNat = l0.length + 1 := by omega
   have hb3 : (i : Int) ≤ (l0.length : Int) + 1 := by omega
   have hb3' : (i : Int) ≤ (l0.length : Int) := by omega
   have HRM := Aside0.mk hroom
   have HGB := Aside0.mk hg0
   clear hroom hlt hg0 hg1 hg2 hj0 hj1 hu hel hadx hadg hvh hvs hgcur cut he
   go_enter Try.func29, Try.ntmps29
   go_wp2_with (simp only [hov])
   obtain ⟨w1, hrun, hu1, hg1⟩ := Kd.R_shift_run (P := Try.prog) k34 (W := w.drew) w0.heap.size 28 28 3 34 HT (by kernel_rfl) (cc1 := c - (i + 1)) (cc2 := c - i) (Kd.R_drew HO.out) HLT.out HRM.out
   have HU1 := Aside0.mk hu1
   have HG1 := Aside0.mk hg1
   have hrun : (Builtin.copy_ #[28, 28] 3 #[.slice (some ⟨g, (i + 1) * 4, none⟩) (l0.length - i) (c - (i + 1)), .slice (some ⟨g, i * 4, none⟩) (l0.length + 1 - i) (c - i)]).run Try.prog w.drew = .ok (goInt ((l0.length - i : Nat) : Int)) w1 := hrun
   clear hu1 hg1
   go_region_law (refine step_copyI rfl _ _ 28 28 rfl _ _ (by simp [Act.eval, Act.put]) (by simp [Act.eval, Act.put]) hrun ?_)
   have hgP : P0_ g := HO.out.1 g (by simp [Value.ownBlock])
   have hk1 : Kept w w1 (fun k_ => P0_ k_) := Kept.of_grown HG1.out (Kept.drew (Kept.refl w _)) (fun k hk => by injection hk with hk; exact .inl (hk ▸ hgP))
   have hC1 := HC2.out w1 hk1
   obtain ⟨adx, hA, hc⟩ := hC1.2.2 (by simp)
   obtain rfl : A2v = adx := by injection hA
   obtain ⟨cs, hcl, hK, hcell⟩ := hc 0 x rfl
   obtain ⟨w2, hrun2, hR2, hg2⟩ := Kd.U_fill_cells (P := Try.prog) k34 (W := w1) w0.heap.size 28 28 3 34 HT (by kernel_rfl) (cc1 := c - i) (cv := c2) HU1.out HLT.out hcl (fun j u hj => by have := hcell j u hj; rwa [Nat.zero_mul, Nat.zero_add] at this) (by rw [k34_open hK]; exact k34_mkM _ _ _ x)
   have HR2 := Aside0.mk hR2
   have HG2 := Aside0.mk hg2
   have hrun2 : (Builtin.copy_ #[28, 28] 3 #[.slice (some ⟨g, i * 4, none⟩) (l0.length + 1 - i) (c - i), .slice (some A2v) 1 c2]).run Try.prog w1 = .ok (goInt ((1 : Nat) : Int)) w2 := hrun2
   clear hR2 hg2 hC1 hA hc hcell hcl hK hk1
   go_wp2_with (at_builtin; refine wpList_copyI _ rfl _ _ 28 28 rfl _ _ rfl rfl hrun2 ?_)
   go_ret
   exact ⟨_, rfl, Kd.R_mono HR2.out (fun _ hk => .inl hk), ((below_drew1 HB.out).grown HG1.out HS.out (fun k hk => by injection hk with hk; exact hk ▸ HGB.out)).grown HG2.out (Nat.le_trans HS.out HG1.out.size) (fun k hk => by injection hk with hk; exact hk ▸ HGB.out), Kept.of_grown HG2.out (Kept.of_grown HG1.out (Kept.drew (Kept.refl w _)) (fun k hk => by injection hk with hk; exact .inl (hk ▸ hgP))) (fun k hk => by injection hk with hk; exact .inl (hk ▸ hgP))⟩
  ·have cutE : ∀ W : World, (Instr.slice 28 (.slice (some ⟨g, 0, none⟩) l0.length c) none (some (.int .i64 (i : Int))) none).run Try.prog W = .ok (.slice (some ⟨g, 0, none⟩) i c) W := by
    intro W
    rw [run_slice_h W 28 (some ⟨g, 0, none⟩) l0.length c hu .i64 (i : Int) (by omega) (by omega), hel]
    simp [sizeOf, typeInfo, hj0, hj1, sliced, Result.andThen, add_plain]
   have cutF : ∀ (W : World) (b G : Nat), l0.length + 1 ≤ G → (Instr.slice 28 (.slice (some ⟨b, 0, none⟩) (l0.length + 1) G) (some (.int .i64 (i : Int))) none none).run Try.prog W = .ok (.slice (some ⟨b, i * 4, none⟩) (l0.length + 1 - i) (G - i)) W := by
    intro W b G hG
    rw [run_slice_l W 28 (some ⟨b, 0, none⟩) (l0.length + 1) G hu .i64 (i : Int) (by omega) (by omega), hel]
    have e1 : ¬ G = i := by omega
    simp [sizeOf, typeInfo, hj0, hj1, sliced, Result.andThen, e1, add_plain]
   have cutH : ∀ (W : World) (b G : Nat), l0.length + 1 ≤ G → (Instr.slice 28 (.slice (some ⟨b, 0, none⟩) (l0.length + 1) G) (some (.int .i64 ((i : Int) + 1))) none none).run Try.prog W = .ok (.slice (some ⟨b, (i + 1) * 4, none⟩) (l0.length - i) (G - (i + 1))) W := by
    intro W b G hG
    rw [run_slice_l W 28 (some ⟨b, 0, none⟩) (l0.length + 1) G hu .i64 ((i : Int) + 1) (by omega) (by omega), hel]
    have e1 : ¬ G = i + 1 := by omega
    have e2 : ((i : Int) + 1).toNat = i + 1 := by omega
    have e3 : l0.length + 1 - (i + 1) = l0.length - i := by omega
    simp [sizeOf, typeInfo, hj0, hj1, sliced, Result.andThen, e1, e2, add_plain]
   have hz2 : ¬ ((i : Int) = (l0.length : Int)) := by omega
   have hz3 : (c : Int) < (l0.length : Int) + 1 := by omega
   have hw1 : IntKind.i64.wrap ((i : Int) + 1) = (i : Int) + 1 := by rw [IntKind.wrap_i64]; have := H3.out; omega
   have hw2 : IntKind.i64.wrap ((l0.length : Int) + 1) = (l0.length : Int) + 1 := by rw [IntKind.wrap_i64]; have := H3.out; omega
   have hkk : (l0.length : Int) + 1 - (i : Int) = ((l0.length + 1 - i : Nat) : Int) := by omega
   have hw3 : IntKind.i64.wrap ((l0.length : Int) + 1 - (i : Int)) = ((l0.length + 1 - i : Nat) : Int) := by rw [IntKind.wrap_i64, hkk]; have := H3.out; omega
   obtain ⟨w1, G, hrun, hG, hT1, hb1'⟩ := Kd.T_grow_run (P := Try.prog) k34 (W := w) w0.heap.size 28 3 28 34 j0 (.agg #[(.int .i64 0), (.int .i64 0), (.int .i64 0), (.int .i64 0)]) .i64 .i64 HT (by kernel_rfl) hj0 (by assumption) (by rw [hj1]; rfl) rfl (by decide) (by omega) HO.out (k := i) (by omega) (by omega) (by have := H3.out; simp_all) HS.out
   have hgP : P0_ g := HO.out.1 g (by simp [Value.ownBlock])
   have htl : (l0.take i).length = i := by rw [List.length_take]; omega
   obtain ⟨w2, hrun2, hT2, hg2⟩ : ∃ w2, (Builtin.copy_ #[28, 28] 3 #[.slice (some ⟨w.heap.size, i * 4, none⟩) (l0.length + 1 - i) (G - i), .slice (some A2v) 1 c2]).run Try.prog w1 = .ok (goInt ((1 : Nat) : Int)) w2 ∧ Kd.T k34 34 w2 w0.heap.size (fun k' => P0_ k' ∨ w.heap.size ≤ k') w.heap.size G (l0.take i ++ [x]) ∧ w1.grownBy w2 (some w.heap.size) := by
    obtain ⟨adx, hA, hc⟩ := (HC2.out w1 (Kept.of_below hb1' _)).2.2 (by simp)
    obtain rfl : A2v = adx := by injection hA
    obtain ⟨cs, hcl, hK, hcell⟩ := hc 0 x rfl
    have h := Kd.T_extend_cells (P := Try.prog) k34 (W := w1) w0.heap.size 28 28 3 34 HT (by kernel_rfl) (dLen := l0.length + 1 - i) (cc1 := G - i) (cv := c2) hT1 (by omega) (by rw [htl]; omega) hcl (fun j u hj => by have := hcell j u hj; rwa [Nat.zero_mul, Nat.zero_add] at this) (by rw [k34_open hK]; exact k34_mkM _ _ _ x)
    rw [htl] at h
    exact h
   have htl2 : (l0.take i ++ [x]).length = i + 1 := by rw [List.length_append, htl]; rfl
   obtain ⟨w3, hrun3, hT3, hg3⟩ : ∃ w3, (Builtin.copy_ #[28, 28] 3 #[.slice (some ⟨w.heap.size, (i + 1) * 4, none⟩) (l0.length - i) (G - (i + 1)), .slice (some ⟨g, i * 4, none⟩) (l0.length - i) (c - i)]).run Try.prog w2.drew = .ok (goInt ((l0.length - i : Nat) : Int)) w3 ∧ Kd.T k34 34 w3 w0.heap.size (fun k' => P0_ k' ∨ w.heap.size ≤ k') w.heap.size G (l0.take i ++ [x] ++ l0.drop i) ∧ w2.drew.grownBy w3 (some w.heap.size) := by
    have hS : Kd.R k34 34 w2.drew w0.heap.size _ (.slice (some ⟨g, 0, none⟩) l0.length c) l0 := Kd.R_drew (Kd.R_grown (Kd.R_below (Kd.R_bound HO.out) hb1') hg2 (fun k hk he => by injection he with he; have := hk.2.2.1; omega))
    have hT2' : Kd.T k34 34 w2.drew w0.heap.size (fun k' => P0_ k' ∨ w.heap.size ≤ k') w.heap.size G (l0.take i ++ [x]) := Kd.T_drew hT2
    have h := Kd.T_extend_run (P := Try.prog) k34 (W := w2.drew) w0.heap.size 28 28 3 34 HT (by kernel_rfl) (dLen := l0.length - i) (cc1 := G - (i + 1)) (cc2 := c - i) (j := i) (m := l0.length - i) hT2' hS (by omega) (by omega) (by rw [htl2]; omega) (fun p q hp => k34.M_mono (fun k hk => ⟨.inl hk.1.1, by intro he; injection he with he; have := hk.1.2.2.1; omega⟩) hp)
    rw [htl2] at h
    exact h
   have hT3' := Kd.T_done _ hT3
   have htl3 : (l0.take i ++ [x] ++ l0.drop i).length = l0.length + 1 := by rw [List.length_append, htl2, List.length_drop]; omega
   rw [htl3] at hT3'
   have HT3 := Aside0.mk hT3'
   have HG2 := Aside0.mk hg2
   have HG3 := Aside0.mk hg3
   have HB1 := Aside0.mk hb1'
   have cutF1 : ∀ (W : World), (Instr.slice 28 (.slice (some ⟨w.heap.size, 0, none⟩) (l0.length + 1) G) (some (.int .i64 (i : Int))) none none).run Try.prog W = .ok (.slice (some ⟨w.heap.size, i * 4, none⟩) (l0.length + 1 - i) (G - i)) W := fun W => cutF W _ G hG
   have cutH1 : ∀ (W : World), (Instr.slice 28 (.slice (some ⟨w.heap.size, 0, none⟩) (l0.length + 1) G) (some (.int .i64 ((i : Int) + 1))) none none).run Try.prog W = .ok (.slice (some ⟨w.heap.size, (i + 1) * 4, none⟩) (l0.length - i) (G - (i + 1))) W := fun W => cutH W _ G hG
   have hb3 : (i : Int) ≤ (l0.length : Int) := by omega
   clear cutF cutH hlt hg0 hg1 hg2 hj0 hj1 hu hel cut he hT1 hT2 hT3 hT3' hg3 hb1' htl htl2 htl3 hG hkk
   go_enter Try.func29, Try.ntmps29
   go_wp2_with (first | (at_builtin; refine Lib.wpList_append_run _ rfl _ _ _ _ rfl _ _ rfl rfl _ _ hrun ?_) | (at_builtin; refine wpList_copyI _ rfl _ _ 28 28 rfl _ _ rfl rfl hrun2 ?_))
   go_region_law (refine step_copyI rfl _ _ 28 28 rfl _ _ (by simp [Act.eval, Act.put]) (by simp [Act.eval, Act.put]) hrun3 ?_)
   go_wp2
   go_ret
   exact ⟨_, rfl, HT3.out, ((below_drew1 ((below_step HB.out HB1.out).grown HG2.out (Nat.le_trans HS.out HB1.out.size) (fun k hk => by injection hk with hk; exact hk ▸ HS.out))).grown HG3.out (Nat.le_trans HS.out (Nat.le_trans HB1.out.size HG2.out.size)) (fun k hk => by injection hk with hk; exact hk ▸ HS.out)), Kept.of_grown HG3.out (Kept.drew (Kept.of_grown HG2.out (Kept.of_below HB1.out _) (fun k hk => by injection hk with hk; exact .inr (hk ▸ Nat.le_refl _)))) (fun k hk => by injection hk with hk; exact .inr (hk ▸ Nat.le_refl _))⟩
end Go.Proofs.Ytjmcahjcgfflgaa.PFnExactAddTimer
