/- Texts of a row. -/
import Derived.Test.YthacmchmppnldaaZFnPieces3
import Derived.Test.YthacmchmppnldaaZFnPieces4
namespace Go.Proofs.Ythacmchmppnldaa.PFnPieces
open Go.RowKit Go.Proofs.YthacmchmppnldaaW.PrintWords Go.Proofs.YthacmchmppnldaaW.PrintLast Go.Proofs.YthacmchmppnldaaW.PrintMore
attribute [local go_sem] max2_int min2_int max_two min_two max_three min_three max_four min_four   -- for this text's walks alone
set_option linter.unusedVariables false
set_option linter.unusedSimpArgs false
mutual
def spec_AddTimer.l0 : Nat → List (S47) → Bool → List (S47) → Int → Int → Int → List (S47) → Int → Int → Int → Int → Option (Int × (List (S47)) × Bool)
 | 0, _, _, _, _, _, _, _, _, _, _, _ => none
 | k + 1, x6, x7, x16, x17, x18, x172000, x172001, x173000, x173001, x173002, x173003 => if x18 < x17 then (if 0 ≤ x18 then (if x18 < (x16.length : Int) then (if x7 = true then (spec_AddTimer.j1 k x6 x7 x16 x17 x18 false x172000 x172001 x173000 x173001 x173002 x173003 ((rd_T47 x16 x18).f0) ((rd_T47 x16 x18).f1) ((rd_T47 x16 x18).f2) ((rd_T47 x16 x18).f3)) else (spec_AddTimer.j1 k x6 x7 x16 x17 x18 (decide (((rd_T47 x16 x18).f0) ≥ x173000)) x172000 x172001 x173000 x173001 x173002 x173003 ((rd_T47 x16 x18).f0) ((rd_T47 x16 x18).f1) ((rd_T47 x16 x18).f2) ((rd_T47 x16 x18).f3))) else (none)) else (none)) else (if x7 = true then ((spec_GoodClock.f k x172000 x6).bind fun t187 => (if t187 = true then (some (x172000, x6, true)) else (some (0, ([] : List (S47)), false)))) else (if x6.length < 4398046511104 then ((some (x6 ++ [(⟨x173000, x173001, x173002, x173003⟩ : S47)] : List (S47))).bind fun y188 => ((spec_GoodClock.f k x172000 y188).bind fun t192 => (if t192 = true then (some (x172000, y188, true)) else (some (0, ([] : List (S47)), false))))) else (none)))
def spec_AddTimer.j1 : Nat → List (S47) → Bool → List (S47) → Int → Int → Bool → Int → List (S47) → Int → Int → Int → Int → Int → Int → Int → Int → Option (Int × (List (S47)) × Bool)
 | 0, _, _, _, _, _, _, _, _, _, _, _, _, _, _, _, _ => none
 | k + 1, x6, x7, x16, x17, x18, x30, x172000, x172001, x173000, x173001, x173002, x173003, x177000, x177001, x177002, x177003 => if x30 = true then (if x6.length < 4398046511104 then ((some (x6 ++ [(⟨x173000, x173001, x173002, x173003⟩ : S47)] : List (S47))).bind fun y177 => (if x177000 = x173000 then (spec_AddTimer.l0 k y177 true x16 x17 (wrap64 (x18 + 1)) x172000 x172001 x173000 x173001 x173002 x173003) else (if y177.length < 4398046511104 then (spec_AddTimer.l0 k (y177 ++ [(⟨x177000, x177001, x177002, x177003⟩ : S47)]) true x16 x17 (wrap64 (x18 + 1)) x172000 x172001 x173000 x173001 x173002 x173003) else (none)))) else (none)) else (if x177000 = x173000 then (spec_AddTimer.l0 k x6 x7 x16 x17 (wrap64 (x18 + 1)) x172000 x172001 x173000 x173001 x173002 x173003) else (if x6.length < 4398046511104 then (spec_AddTimer.l0 k (x6 ++ [(⟨x177000, x177001, x177002, x177003⟩ : S47)]) x7 x16 x17 (wrap64 (x18 + 1)) x172000 x172001 x173000 x173001 x173002 x173003) else (none)))
end
def spec_AddTimer.f (k : Nat) (a0_0 : Int) (l0_1 : List (S47)) (a1_0 : Int) (a1_1 : Int) (a1_2 : Int) (a1_3 : Int) : Option (Int × (List (S47)) × Bool) := (spec_GoodClock.f k a0_0 l0_1).bind fun t174 => (if t174 = true then (spec_AddTimer.l0 k ([] : List (S47)) false l0_1 (l0_1.length : Int) 0 a0_0 l0_1 a1_0 a1_1 a1_2 a1_3) else (some (0, ([] : List (S47)), false)))
theorem spec_AddTimer.mono_l : ∀ k, (∀ y0 y1 y2 y3 y4 y5 y6 y7 y8 y9 y10, LeO (spec_AddTimer.l0 k y0 y1 y2 y3 y4 y5 y6 y7 y8 y9 y10) (spec_AddTimer.l0 (k + 1) y0 y1 y2 y3 y4 y5 y6 y7 y8 y9 y10)) ∧ (∀ y0 y1 y2 y3 y4 y5 y6 y7 y8 y9 y10 y11 y12 y13 y14 y15, LeO (spec_AddTimer.j1 k y0 y1 y2 y3 y4 y5 y6 y7 y8 y9 y10 y11 y12 y13 y14 y15) (spec_AddTimer.j1 (k + 1) y0 y1 y2 y3 y4 y5 y6 y7 y8 y9 y10 y11 y12 y13 y14 y15))
 | 0 => ⟨fun _ _ _ _ _ _ _ _ _ _ _ r h => by simp [spec_AddTimer.l0] at h, fun _ _ _ _ _ _ _ _ _ _ _ _ _ _ _ _ r h => by simp [spec_AddTimer.j1] at h⟩
 | k + 1 => by
  obtain ⟨ih0, ih1⟩ := spec_AddTimer.mono_l k
  refine ⟨?_, ?_⟩
  ·intro y0 y1 y2 y3 y4 y5 y6 y7 y8 y9 y10
   unfold spec_AddTimer.l0
   repeat' first
   | (with_reducible exact ih0 _ _ _ _ _ _ _ _ _ _ _)
   | (with_reducible exact ih1 _ _ _ _ _ _ _ _ _ _ _ _ _ _ _ _)
   | (with_reducible exact spec_GoodClock.mono _ _ _)
   | (with_reducible first | exact LeO.refl _ | exact LeO.none _ | refine LeO.ite ?_ ?_ | refine LeO.bind ?_ (fun _ => ?_))
   | exact ih0 _ _ _ _ _ _ _ _ _ _ _
   | exact ih1 _ _ _ _ _ _ _ _ _ _ _ _ _ _ _ _
   | exact spec_GoodClock.mono _ _ _ | exact LeO.none _ | refine LeO.ite ?_ ?_ | refine LeO.bind ?_ (fun _ => ?_)
  ·intro y0 y1 y2 y3 y4 y5 y6 y7 y8 y9 y10 y11 y12 y13 y14 y15
   unfold spec_AddTimer.j1
   repeat' first
   | (with_reducible exact ih0 _ _ _ _ _ _ _ _ _ _ _)
   | (with_reducible exact ih1 _ _ _ _ _ _ _ _ _ _ _ _ _ _ _ _)
   | (with_reducible exact spec_GoodClock.mono _ _ _)
   | (with_reducible first | exact LeO.refl _ | exact LeO.none _ | refine LeO.ite ?_ ?_ | refine LeO.bind ?_ (fun _ => ?_))
   | exact ih0 _ _ _ _ _ _ _ _ _ _ _
   | exact ih1 _ _ _ _ _ _ _ _ _ _ _ _ _ _ _ _
   | exact spec_GoodClock.mono _ _ _ | exact LeO.none _ | refine LeO.ite ?_ ?_ | refine LeO.bind ?_ (fun _ => ?_)
theorem spec_AddTimer.mono : ∀ a0 a1 a2 a3 a4 a5 k, LeO (spec_AddTimer.f k a0 a1 a2 a3 a4 a5) (spec_AddTimer.f (k + 1) a0 a1 a2 a3 a4 a5) := by
 intro a0 a1 a2 a3 a4 a5 k
 obtain ⟨ih0, ih1⟩ := spec_AddTimer.mono_l k
 unfold spec_AddTimer.f
 repeat' first
   | (with_reducible exact ih0 _ _ _ _ _ _ _ _ _ _ _)
   | (with_reducible exact ih1 _ _ _ _ _ _ _ _ _ _ _ _ _ _ _ _)
   | (with_reducible exact spec_GoodClock.mono _ _ _)
   | (with_reducible first | exact LeO.refl _ | exact LeO.none _ | refine LeO.ite ?_ ?_ | refine LeO.bind ?_ (fun _ => ?_))
   | exact ih0 _ _ _ _ _ _ _ _ _ _ _
   | exact ih1 _ _ _ _ _ _ _ _ _ _ _ _ _ _ _ _
   | exact spec_GoodClock.mono _ _ _ | exact LeO.none _ | refine LeO.ite ?_ ?_ | refine LeO.bind ?_ (fun _ => ?_)
set_option maxHeartbeats 8000000 in
set_option maxRecDepth 100000 in
theorem spec_AddTimer.calls (k : Nat) (a0_0 : Int) (A0_1 : Option Addr) (c0_1 : Nat) (l0_1 : List (S47)) (a1_0 : Int) (a1_1 : Int) (a1_2 : Int) (a1_3 : Int) (r1 : Int) (r2 : List (S47)) (r3 : Bool) (w : World) (hr0_1 : Kd.C k47 w A0_1 l0_1.length l0_1) (hc0_1 : l0_1.length ≤ c0_1) (h : spec_AddTimer.f k a0_0 l0_1 a1_0 a1_1 a1_2 a1_3 = some (r1, r2, r3)) :
  Calls Try.prog 20 #[.agg #[.int .i64 a0_0, .slice A0_1 l0_1.length c0_1], .agg #[.int .i64 a1_0, .int .i64 a1_1, .int .i64 a1_2, .int .i64 a1_3]] w fun e w' => ∃ v1_ : Value, e = .returned (.tuple #[.agg #[.int .i64 r1, v1_], .bool r3]) ∧ Kd.R k47 47 w' w.heap.size (fun _ => True) v1_ r2 ∧ Below w.heap.size w w' := by
 have hu25 := Try.underlying25
 have hu47 := Try.underlying47
 have HR0_1 := Aside0.mk hr0_1
 have HC0_1 := Aside0.mk hc0_1
 clear hr0_1 hc0_1
 have HB := Aside0.mk (Below.refl w.heap.size w)
 have H : ((spec_GoodClock.f k a0_0 l0_1).bind fun t174 => (if t174 = true then (spec_AddTimer.l0 k ([] : List (S47)) false l0_1 (l0_1.length : Int) 0 a0_0 l0_1 a1_0 a1_1 a1_2 a1_3) else (some (0, ([] : List (S47)), false)))) = some (r1, r2, r3) := h
 clear h
 replace H := Option.bind_eq_some_iff.mp H
 obtain ⟨t174, A30, H⟩ := H
 replace H : (if t174 = true then (spec_AddTimer.l0 k ([] : List (S47)) false l0_1 (l0_1.length : Int) 0 a0_0 l0_1 a1_0 a1_1 a1_2 a1_3) else (some (0, ([] : List (S47)), false))) = some (r1, r2, r3) := H
 have A3 := Aside0.mk A30
 clear A30
 by_cases c4 : t174 = true
 ·subst c4
  have H1 : (spec_AddTimer.l0 k ([] : List (S47)) false l0_1 (l0_1.length : Int) 0 a0_0 l0_1 a1_0 a1_1 a1_2 a1_3) = some (r1, r2, r3) := by rw [if_pos rfl] at H; exact H
  clear H
  have H := H1
  clear H1
  have H' := Aside0.mk H
  clear H
  go_enter Try.func20, Try.ntmps20
  go_wp2_with (first | ((with_reducible refine gate_dst (N := 2) rfl ?_); refine box_event rfl (N := 2) rfl (cs := #[.int .i64 a0_0, .slice A0_1 l0_1.length c0_1]) (t := 25) sE ?_; intro gb171 hg w5 hbox hb; have BK171 := Aside0.mk hbox; have GW171 := gS w hg (lU); have GE171 := gS w hg (lU); replace HB := bH (lU) hb; clear hb hbox hg) | ((with_reducible refine gate_dst (N := 3) rfl ?_); refine box_event rfl (N := 3) rfl (cs := #[.int .i64 a1_0, .int .i64 a1_1, .int .i64 a1_2, .int .i64 a1_3]) (t := 47) sE ?_; intro gb172 hg w6 hbox hb; have BK172 := Aside0.mk hbox; have GW172 := gS w hg (lV1 GE171); have GE172 := gS w hg (lV1 GE171); replace HB := bH (lV1 GE171) hb; have NB171_172 := nL hg (bV BK171); have NB172_171 := nG hg (bV BK171); replace BK171 := bB (bV BK171) hb; clear hb hbox hg) | ((with_reducible refine gate_dst (N := 4) rfl ?_); refine box_event rfl (N := 4) rfl (cs := #[.int .i64 0, .slice none 0 0]) (t := 25) sE ?_; intro gb173 hg w7 hbox hb; have BK173 := Aside0.mk hbox; have GW173 := gS w hg (lV2 GE171 GE172); have GE173 := gS w hg (lV2 GE171 GE172); replace HB := bH (lV2 GE171 GE172) hb; have NB171_173 := nL hg (bV BK171); have NB173_171 := nG hg (bV BK171); replace BK171 := bB (bV BK171) hb; have NB172_173 := nL hg (bV BK172); have NB173_172 := nG hg (bV BK172); replace BK172 := bB (bV BK172) hb; clear hb hbox hg; have hnb8 := NB171_172.out; have hnc8 := NB172_171.out; have hnb9 := NB171_173.out; have hnc9 := NB173_171.out; have hcz10_0 := cz BK171 0 (.int .i64 a0_0); have hcz10_1 := cz BK171 1 (.slice A0_1 l0_1.length c0_1); have hfz10_0 := fz BK171 0; have hfz10_1 := fz BK171 1) | ((with_reducible refine gate_callee (f := 17) rfl ?_); refine goesL_ (some 12) rfl rfl Try.func17 (by kernel_rfl) rfl #[.agg #[.int .i64 a0_0, .slice A0_1 l0_1.length c0_1]] rfl aE ?_; (with_reducible refine (spec_GoodClock.calls k a0_0 _ _ l0_1 true _ ?side1 ?side2 A3.out).mono ?_); (case side1 => exact cU (Kd.C_below HR0_1.out HB.out)); (case side2 => exact HC0_1.out); rintro e w11 ⟨rfl, hb⟩; refine ⟨_, rfl, ?_⟩; replace BK171 := bB (bV BK171) hb; replace BK172 := bB (bV BK172) hb; replace BK173 := bB (bV BK173) hb; replace HB := bH (lV3 GE171 GE172 GE173) hb; (try clear hb); have hcz12_0 := cz BK171 0 (.int .i64 a0_0); have hcz12_1 := cz BK171 1 (.slice A0_1 l0_1.length c0_1); have hfz12_0 := fz BK171 0; have hfz12_1 := fz BK171 1))
  (try simp only [Act.put, List.setIfInBounds_toArray, List.set_cons_zero, List.set_cons_succ])
  go_loopg [6, 7, 18] k (fun kq v6 v7 v18 w' => ∃ (x6_1 : List (S47)) (x7_1 : Bool) (x18_1 : Int), v7 = .bool x7_1 ∧ v18 = .int .i64 x18_1 ∧ Aside0 (spec_AddTimer.l0 kq x6_1 x7_1 l0_1 (l0_1.length : Int) x18_1 a0_0 l0_1 a1_0 a1_1 a1_2 a1_3 = some (r1, r2, r3)) ∧ Aside0 (kq ≤ k) ∧ Aside0 (Kd.R k47 47 w' w.heap.size (fun k_ => k_ ≠ gb172) v6 x6_1) ∧ Aside0 (w'.heap[gb171]? = some (.cells #[.int .i64 a0_0, (.slice A0_1 l0_1.length c0_1)] 25 (0, 0))) ∧ Aside0 (w'.heap[gb172]? = some (.cells #[.int .i64 a1_0, .int .i64 a1_1, .int .i64 a1_2, .int .i64 a1_3] 47 (0, 0))) ∧ Aside0 (w'.heap[gb173]? = some (.cells #[.int .i64 0, (.slice none 0 0)] 25 (0, 0))) ∧ Aside0 (Below w.heap.size w w'))
  case atStart => exact ⟨(([] : List (S47))), (false), (0), tE, tE, H', ⟨Nat.le_refl _⟩, ⟨by first | exact Kd.R_nil _ _ _ _ _ | exact Kd.N_nil _ _ _ _ _ | exact Kd.V_nil _ _ _ _ _ | exact Kd.Q_nil _ _ _ _ _ | exact Kd.S_nil _ _ _ _ _⟩, ⟨by refine bU ?_; exact BK171.out⟩, ⟨by refine bU ?_; exact BK172.out⟩, ⟨by refine bU ?_; exact BK173.out⟩, ⟨by repeat (first | (with_reducible first | exact HB.out | apply below_alloc | apply pw_below_drewN | apply below_drew1 | refine below_set ?_ GE171.out | refine below_set ?_ GE172.out | refine below_set ?_ GE173.out) | exact HB.out)⟩⟩
  case round =>
   clear H'
   try clear c1
   try clear c2
   try clear p2
   try clear c4
   try clear c8
   try clear c9
   try clear hcz10_0
   try clear hcz10_1
   try clear hcz12_0
   try clear hcz12_1
   try clear hfz10_0
   try clear hfz10_1
   try clear hfz12_0
   try clear hfz12_1
   obtain ⟨x6_1, x7_1, x18_1, rfl, rfl, HA, HK1, HO_6, BK171, BK172, BK173, HB⟩ := hrel
   cases gk with
   | zero => exact absurd HA.out (by simp [spec_AddTimer.l0])
   | succ k1 =>
    have H := HA.out
    clear HA
    simp only [spec_AddTimer.l0] at H
    by_cases c13 : x18_1 < (l0_1.length : Int)
    ·rw [if_pos c13] at H
     have c13b0 : decide (x18_1 < (l0_1.length : Int)) = true := decide_eq_true c13
     clear c13
     by_cases c14 : 0 ≤ x18_1
     ·rw [if_pos c14] at H
      have c14b0 : decide (0 ≤ x18_1) = true := decide_eq_true c14
      clear c14
      by_cases c15 : x18_1 < (l0_1.length : Int)
      ·rw [if_pos c15] at H
       have c15b0 : decide (x18_1 < (l0_1.length : Int)) = true := decide_eq_true c15
       clear c15
       have HC16 := Aside0.mk H
       clear H
       have p175 : 0 ≤ (x18_1 : Int) := of_decide_eq_true hE
       have q175 : x18_1 < (l0_1.length : Int) := of_decide_eq_true hE
       obtain ⟨ad175, e175, hx175_0, hx175_1, hx175_2, hx175_3⟩ := at_T47 HR0_1.out x18_1 p175 q175
       cases e175
       replace hx175_0 := (HB.out.cell (World.block_lt_of_cell? w _ hx175_0)).trans hx175_0
       replace hx175_1 := (HB.out.cell (World.block_lt_of_cell? w _ hx175_1)).trans hx175_1
       replace hx175_2 := (HB.out.cell (World.block_lt_of_cell? w _ hx175_2)).trans hx175_2
       replace hx175_3 := (HB.out.cell (World.block_lt_of_cell? w _ hx175_3)).trans hx175_3
       replace p175 := eq_true p175
       replace q175 := eq_true q175
       go_upto_region 8 with (first | ((with_reducible refine gate_dst (N := 9) rfl ?_); refine box_event rfl (N := 9) rfl (cs := #[.int .i64 0, .int .i64 0, .int .i64 0, .int .i64 0]) (t := 47) sE ?_; intro gb176 hg w17 hbox hb; replace HO_6 := Aside0.mk (Kd.R_below (Kd.R_elderB (rU HO_6.out) gb176 (Nat.le_of_eq hg.symm)) hb); have BK176 := Aside0.mk hbox; have GW176 := gS w hg (lV3 GE171 GE172 GE173); have GE176 := gS w hg (lV3 GE171 GE172 GE173); replace HB := bH (lV3 GE171 GE172 GE173) hb; have NB171_176 := nL hg (bV BK171); have NB176_171 := nG hg (bV BK171); replace BK171 := bB (bV BK171) hb; have NB172_176 := nL hg (bV BK172); have NB176_172 := nG hg (bV BK172); replace BK172 := bB (bV BK172) hb; have NB173_176 := nL hg (bV BK173); have NB176_173 := nG hg (bV BK173); replace BK173 := bB (bV BK173) hb; clear hb hbox hg; have hnb18 := NB176_171.out; have hnc18 := NB171_176.out; have hnb19 := NB176_172.out; have hnc19 := NB172_176.out; have hnb20 := NB176_173.out; have hnc20 := NB173_176.out; have hcz21_0 := cz BK176 0 (.int .i64 0); have hcz21_1 := cz BK176 1 (.int .i64 0); have hcz21_2 := cz BK176 2 (.int .i64 0); have hcz21_3 := cz BK176 3 (.int .i64 0); have hfz21_0 := fz BK176 0; have hfz21_1 := fz BK176 1; have hfz21_2 := fz BK176 2; have hfz21_3 := fz BK176 3))
       (try simp only [Act.put, List.setIfInBounds_toArray, List.set_cons_zero, List.set_cons_succ])
       go_cut [30] (fun v30 wc => ∃ (kq : Nat) (x30_15 : Bool), v30 = .bool x30_15 ∧ Aside0 (spec_AddTimer.j1 kq x6_1 x7_1 l0_1 (l0_1.length : Int) x18_1 x30_15 a0_0 l0_1 a1_0 a1_1 a1_2 a1_3 ((rd_T47 l0_1 x18_1).f0) ((rd_T47 l0_1 x18_1).f1) ((rd_T47 l0_1 x18_1).f2) ((rd_T47 l0_1 x18_1).f3) = some (r1, r2, r3)) ∧ Aside0 (kq ≤ k1) ∧ Aside0 (Kd.R k47 47 wc w.heap.size (fun k_ => k_ ≠ gb172 ∧ k_ ≠ gb176) u6 x6_1) ∧ Aside0 (wc.heap[gb171]? = some (.cells #[.int .i64 a0_0, (.slice (some ad175) l0_1.length c0_1)] 25 (0, 0))) ∧ Aside0 (wc.heap[gb172]? = some (.cells #[.int .i64 a1_0, .int .i64 a1_1, .int .i64 a1_2, .int .i64 a1_3] 47 (0, 0))) ∧ Aside0 (wc.heap[gb173]? = some (.cells #[.int .i64 0, (.slice none 0 0)] 25 (0, 0))) ∧ Aside0 (wc.heap[gb176]? = some (.cells #[.int .i64 ((rd_T47 l0_1 x18_1).f0), .int .i64 ((rd_T47 l0_1 x18_1).f1), .int .i64 ((rd_T47 l0_1 x18_1).f2), .int .i64 ((rd_T47 l0_1 x18_1).f3)] 47 (0, 0))) ∧ Aside0 (Below w.heap.size w wc))
       case first =>
        have H := HC16.out
        clear HC16
        by_cases c22 : x7_1 = true
        ·subst c22
         have H1 : (spec_AddTimer.j1 k1 x6_1 true l0_1 (l0_1.length : Int) x18_1 false a0_0 l0_1 a1_0 a1_1 a1_2 a1_3 ((rd_T47 l0_1 x18_1).f0) ((rd_T47 l0_1 x18_1).f1) ((rd_T47 l0_1 x18_1).f2) ((rd_T47 l0_1 x18_1).f3)) = some (r1, r2, r3) := by rw [if_pos rfl] at H; exact H
         clear H
         have H := H1
         clear H1
         have H' := Aside0.mk H
         clear H
         go_wp2
         go_meet
         case rel => exact ⟨_, (false), tE, H', ⟨by have := HK1.out; first | omega | exact Nat.le_refl _⟩, ⟨by (with_reducible repeat (first | apply Kd.R_alloc | apply Kd.R_drewN | apply Kd.R_drew)); exact Kd.R_mono (Kd.R_far (p := ⟨gb176, 3, none⟩) (Kd.R_far (p := ⟨gb176, 2, none⟩) (Kd.R_far (p := ⟨gb176, 1, none⟩) (Kd.R_far (p := ⟨gb176, 0, none⟩) (Kd.R_mono HO_6.out (fun k_ hk => (⟨hk, hk.2⟩ : _ ∧ k_ ≠ gb176))) (fun _ hk => hk.2) (.int .i64 ((rd_T47 l0_1 x18_1).f0))) (fun _ hk => hk.2) (.int .i64 ((rd_T47 l0_1 x18_1).f1))) (fun _ hk => hk.2) (.int .i64 ((rd_T47 l0_1 x18_1).f2))) (fun _ hk => hk.2) (.int .i64 ((rd_T47 l0_1 x18_1).f3))) (fun _ hk => ⟨hk.1.1, hk.1.2⟩)⟩, ⟨by refine bU ?_; refine blk_far ?_ NB171_176.out _; refine bU ?_; refine blk_far ?_ NB171_176.out _; refine bU ?_; refine blk_far ?_ NB171_176.out _; refine bU ?_; refine blk_far ?_ NB171_176.out _; refine bU ?_; exact BK171.out⟩, ⟨by refine bU ?_; refine blk_far ?_ NB172_176.out _; refine bU ?_; refine blk_far ?_ NB172_176.out _; refine bU ?_; refine blk_far ?_ NB172_176.out _; refine bU ?_; refine blk_far ?_ NB172_176.out _; refine bU ?_; exact BK172.out⟩, ⟨by refine bU ?_; refine blk_far ?_ NB173_176.out _; refine bU ?_; refine blk_far ?_ NB173_176.out _; refine bU ?_; refine blk_far ?_ NB173_176.out _; refine bU ?_; refine blk_far ?_ NB173_176.out _; refine bU ?_; exact BK173.out⟩, ⟨by refine bU ?_; refine blk_put (cs := #[.int .i64 ((rd_T47 l0_1 x18_1).f0), .int .i64 ((rd_T47 l0_1 x18_1).f1), .int .i64 ((rd_T47 l0_1 x18_1).f2), .int .i64 0]) ?_ 3 _ rfl; refine bU ?_; refine blk_put (cs := #[.int .i64 ((rd_T47 l0_1 x18_1).f0), .int .i64 ((rd_T47 l0_1 x18_1).f1), .int .i64 0, .int .i64 0]) ?_ 2 _ rfl; refine bU ?_; refine blk_put (cs := #[.int .i64 ((rd_T47 l0_1 x18_1).f0), .int .i64 0, .int .i64 0, .int .i64 0]) ?_ 1 _ rfl; refine bU ?_; refine blk_put (cs := #[.int .i64 0, .int .i64 0, .int .i64 0, .int .i64 0]) ?_ 0 _ rfl; refine bU ?_; exact BK176.out⟩, ⟨by repeat (first | (with_reducible first | exact HB.out | apply below_alloc | apply pw_below_drewN | apply below_drew1 | refine below_set ?_ GE171.out | refine below_set ?_ GE172.out | refine below_set ?_ GE173.out | refine below_set ?_ GE176.out) | exact HB.out)⟩⟩
        ·replace c22 := Bool.eq_false_iff.mpr c22
         subst c22
         have H1 : (spec_AddTimer.j1 k1 x6_1 false l0_1 (l0_1.length : Int) x18_1 (decide (((rd_T47 l0_1 x18_1).f0) ≥ a1_0)) a0_0 l0_1 a1_0 a1_1 a1_2 a1_3 ((rd_T47 l0_1 x18_1).f0) ((rd_T47 l0_1 x18_1).f1) ((rd_T47 l0_1 x18_1).f2) ((rd_T47 l0_1 x18_1).f3)) = some (r1, r2, r3) := by rw [if_neg (show ¬ (false = true) by decide)] at H; exact H
         clear H
         have H := H1
         clear H1
         have H' := Aside0.mk H
         clear H
         have hnb23 := NB176_171.out
         have hnc23 := NB171_176.out
         have hnb24 := NB176_172.out
         have hnc24 := NB172_176.out
         have hnb25 := NB176_173.out
         have hnc25 := NB173_176.out
         have hcz26_0 := cz BK176 0 (.int .i64 0)
         have hcz26_1 := cz BK176 1 (.int .i64 0)
         have hcz26_2 := cz BK176 2 (.int .i64 0)
         have hcz26_3 := cz BK176 3 (.int .i64 0)
         have hfz26_0 := fz BK176 0
         have hfz26_1 := fz BK176 1
         have hfz26_2 := fz BK176 2
         have hfz26_3 := fz BK176 3
         have hnb27 := NB172_171.out
         have hnc27 := NB171_172.out
         have hnb28 := NB172_173.out
         have hnc28 := NB173_172.out
         have hcz29_0 := cz BK172 0 (.int .i64 a1_0)
         have hcz29_1 := cz BK172 1 (.int .i64 a1_1)
         have hcz29_2 := cz BK172 2 (.int .i64 a1_2)
         have hcz29_3 := cz BK172 3 (.int .i64 a1_3)
         have hfz29_0 := fz BK172 0
         have hfz29_1 := fz BK172 1
         have hfz29_2 := fz BK172 2
         have hfz29_3 := fz BK172 3
         go_wp2
         go_meet
         case rel => exact ⟨_, (decide (((rd_T47 l0_1 x18_1).f0) ≥ a1_0)), tE, H', ⟨by have := HK1.out; first | omega | exact Nat.le_refl _⟩, ⟨by (with_reducible repeat (first | apply Kd.R_alloc | apply Kd.R_drewN | apply Kd.R_drew)); exact Kd.R_mono (Kd.R_far (p := ⟨gb176, 3, none⟩) (Kd.R_far (p := ⟨gb176, 2, none⟩) (Kd.R_far (p := ⟨gb176, 1, none⟩) (Kd.R_far (p := ⟨gb176, 0, none⟩) (Kd.R_mono HO_6.out (fun k_ hk => (⟨hk, hk.2⟩ : _ ∧ k_ ≠ gb176))) (fun _ hk => hk.2) (.int .i64 ((rd_T47 l0_1 x18_1).f0))) (fun _ hk => hk.2) (.int .i64 ((rd_T47 l0_1 x18_1).f1))) (fun _ hk => hk.2) (.int .i64 ((rd_T47 l0_1 x18_1).f2))) (fun _ hk => hk.2) (.int .i64 ((rd_T47 l0_1 x18_1).f3))) (fun _ hk => ⟨hk.1.1, hk.1.2⟩)⟩, ⟨by refine bU ?_; refine blk_far ?_ NB171_176.out _; refine bU ?_; refine blk_far ?_ NB171_176.out _; refine bU ?_; refine blk_far ?_ NB171_176.out _; refine bU ?_; refine blk_far ?_ NB171_176.out _; refine bU ?_; exact BK171.out⟩, ⟨by refine bU ?_; refine blk_far ?_ NB172_176.out _; refine bU ?_; refine blk_far ?_ NB172_176.out _; refine bU ?_; refine blk_far ?_ NB172_176.out _; refine bU ?_; refine blk_far ?_ NB172_176.out _; refine bU ?_; exact BK172.out⟩, ⟨by refine bU ?_; refine blk_far ?_ NB173_176.out _; refine bU ?_; refine blk_far ?_ NB173_176.out _; refine bU ?_; refine blk_far ?_ NB173_176.out _; refine bU ?_; refine blk_far ?_ NB173_176.out _; refine bU ?_; exact BK173.out⟩, ⟨by refine bU ?_; refine blk_put (cs := #[.int .i64 ((rd_T47 l0_1 x18_1).f0), .int .i64 ((rd_T47 l0_1 x18_1).f1), .int .i64 ((rd_T47 l0_1 x18_1).f2), .int .i64 0]) ?_ 3 _ rfl; refine bU ?_; refine blk_put (cs := #[.int .i64 ((rd_T47 l0_1 x18_1).f0), .int .i64 ((rd_T47 l0_1 x18_1).f1), .int .i64 0, .int .i64 0]) ?_ 2 _ rfl; refine bU ?_; refine blk_put (cs := #[.int .i64 ((rd_T47 l0_1 x18_1).f0), .int .i64 0, .int .i64 0, .int .i64 0]) ?_ 1 _ rfl; refine bU ?_; refine blk_put (cs := #[.int .i64 0, .int .i64 0, .int .i64 0, .int .i64 0]) ?_ 0 _ rfl; refine bU ?_; exact BK176.out⟩, ⟨by repeat (first | (with_reducible first | exact HB.out | apply below_alloc | apply pw_below_drewN | apply below_drew1 | refine below_set ?_ GE171.out | refine below_set ?_ GE172.out | refine below_set ?_ GE173.out | refine below_set ?_ GE176.out) | exact HB.out)⟩⟩
       case rest =>
        clear HC16
        try clear c1
        try clear p1
        try clear q1
        try clear hx1
        try clear c2
        try clear p2
        try clear c4
        try clear c8
        try clear c9
        try clear c13
        try clear c13b0
        try clear c14
        try clear c14b0
        try clear c15
        try clear c15b0
        try clear c17
        try clear p17
        try clear q17
        try clear hx17
        try clear c18
        try clear c19
        try clear c20
        try clear c22
        try clear c23
        try clear c24
        try clear c25
        try clear c27
        try clear c28
        try clear hcz10_0
        try clear hcz10_1
        try clear hcz12_0
        try clear hcz12_1
        try clear hcz21_0
        try clear hcz21_1
        try clear hcz21_2
        try clear hcz21_3
        try clear hcz26_0
        try clear hcz26_1
        try clear hcz26_2
        try clear hcz26_3
        try clear hcz29_0
        try clear hcz29_1
        try clear hcz29_2
        try clear hcz29_3
        try clear hfz10_0
        try clear hfz10_1
        try clear hfz12_0
        try clear hfz12_1
        try clear hfz21_0
        try clear hfz21_1
        try clear hfz21_2
        try clear hfz21_3
        try clear hfz26_0
        try clear hfz26_1
        try clear hfz26_2
        try clear hfz26_3
        try clear hfz29_0
        try clear hfz29_1
        try clear hfz29_2
        try clear hfz29_3
        try clear hx175_0
        try clear hx175_1
        try clear hx175_2
        try clear hx175_3
        try clear p175
        try clear p2
        try clear q175
        obtain ⟨kq, x30_15, rfl, HA, HJ15, HO_6, BK171, BK172, BK173, BK176, HB⟩ := hcut
        cases kq with
        | zero => exact absurd HA.out (by simp [spec_AddTimer.j1])
        | succ kj15 =>
         have H := HA.out
         clear HA
         simp only [spec_AddTimer.j1] at H
         by_cases c30 : x30_15 = true
         ·subst c30
          have H1 : (if x6_1.length < 4398046511104 then ((some (x6_1 ++ [(⟨a1_0, a1_1, a1_2, a1_3⟩ : S47)] : List (S47))).bind fun y177 => (if ((rd_T47 l0_1 x18_1).f0) = a1_0 then (spec_AddTimer.l0 kj15 y177 true l0_1 (l0_1.length : Int) (wrap64 (x18_1 + 1)) a0_0 l0_1 a1_0 a1_1 a1_2 a1_3) else (if y177.length < 4398046511104 then (spec_AddTimer.l0 kj15 (y177 ++ [(⟨((rd_T47 l0_1 x18_1).f0), ((rd_T47 l0_1 x18_1).f1), ((rd_T47 l0_1 x18_1).f2), ((rd_T47 l0_1 x18_1).f3)⟩ : S47)]) true l0_1 (l0_1.length : Int) (wrap64 (x18_1 + 1)) a0_0 l0_1 a1_0 a1_1 a1_2 a1_3) else (none)))) else (none)) = some (r1, r2, r3) := by rw [if_pos rfl] at H; exact H
          clear H
          have H := H1
          clear H1
          by_cases c31 : x6_1.length < 4398046511104
          ·rw [if_pos c31] at H
           have LMc31 := Aside0.mk c31
           clear c31
           obtain ⟨y177, hy177⟩ : ∃ y_ : List (S47), y_ = (x6_1 ++ [(⟨a1_0, a1_1, a1_2, a1_3⟩ : S47)]) := ⟨_, rfl⟩
           replace H : (if ((rd_T47 l0_1 x18_1).f0) = a1_0 then (spec_AddTimer.l0 kj15 y177 true l0_1 (l0_1.length : Int) (wrap64 (x18_1 + 1)) a0_0 l0_1 a1_0 a1_1 a1_2 a1_3) else (if y177.length < 4398046511104 then (spec_AddTimer.l0 kj15 (y177 ++ [(⟨((rd_T47 l0_1 x18_1).f0), ((rd_T47 l0_1 x18_1).f1), ((rd_T47 l0_1 x18_1).f2), ((rd_T47 l0_1 x18_1).f3)⟩ : S47)]) true l0_1 (l0_1.length : Int) (wrap64 (x18_1 + 1)) a0_0 l0_1 a1_0 a1_1 a1_2 a1_3) else (none))) = some (r1, r2, r3) := by first | (rw [hy177]; with_reducible exact H) | (have H2_ := (Option.bind_some _ _).symm.trans H; rw [hy177]; with_reducible exact H2_) | (have H2_ := (Option.bind_some _ _).symm.trans H; with_reducible exact H2_) | with_reducible exact H | (rw [hy177]; exact H) | exact H
           have Ny177 := Aside0.mk hy177
           clear hy177
           by_cases c32 : ((rd_T47 l0_1 x18_1).f0) = a1_0
           ·rw [if_pos c32] at H
            have c32b0 : (((rd_T47 l0_1 x18_1).f0) == a1_0) = true := beq_iff_eq.mpr c32
            have c32b1 : (((rd_T47 l0_1 x18_1).f0) != a1_0) = false := bne_eq_false_iff_eq.mpr c32
            clear c32
            have H' := Aside0.mk H
            clear H
            have hnb33 := NB172_171.out
            have hnc33 := NB171_172.out
            have hnb34 := NB172_173.out
            have hnc34 := NB173_172.out
            have hnb35 := NB172_176.out
            have hnc35 := NB176_172.out
            have hcz36_0 := cz BK172 0 (.int .i64 a1_0)
            have hcz36_1 := cz BK172 1 (.int .i64 a1_1)
            have hcz36_2 := cz BK172 2 (.int .i64 a1_2)
            have hcz36_3 := cz BK172 3 (.int .i64 a1_3)
            have hfz36_0 := fz BK172 0
            have hfz36_1 := fz BK172 1
            have hfz36_2 := fz BK172 2
            have hfz36_3 := fz BK172 3
            go_wp2_with (first | ((with_reducible refine gate_builtin (b := .append) (xs := #[.tmp 31, .tmp 33]) rfl ?_); at_builtin; refine Kd.R_append k47 (w0 := w) w.heap.size rfl (.tmp 31) (.tmp 33) 23 47 (.agg #[(.int .i64 0), (.int .i64 0), (.int .i64 0), (.int .i64 0)]) 32 rfl Try.underlying23 info47 rfl (by decide) (by omega) u6 x6_1 (⟨a1_0, a1_1, a1_2, a1_3⟩ : S47) [.int .i64 a1_0, .int .i64 a1_1, .int .i64 a1_2, .int .i64 a1_3] (fun k_ => k_ ≠ gb172 ∧ k_ ≠ gb176) (fun _ => False) rfl rfl ?aP (fun _ hk => hk.elim) ?aF ?aO ?aB ?aS ?aL ?_; (case aP => exact k47_mkM _ _ _ (⟨a1_0, a1_1, a1_2, a1_3⟩ : S47)); (case aB => exact (lV4 GE171 GE172 GE173 GE176)); (case aF => exact (fun k_ hk => ⟨Kd.freshB (g := gb172) (o := .cells #[.int .i64 a1_0, .int .i64 a1_1, .int .i64 a1_2, .int .i64 a1_3] 47 (0, 0)) (bV BK172) k_ hk, Kd.freshB (g := gb176) (o := .cells #[.int .i64 ((rd_T47 l0_1 x18_1).f0), .int .i64 ((rd_T47 l0_1 x18_1).f1), .int .i64 ((rd_T47 l0_1 x18_1).f2), .int .i64 ((rd_T47 l0_1 x18_1).f3)] 47 (0, 0)) (bV BK176) k_ hk⟩)); (case aO => exact (rU HO_6.out)); (case aS => exact (below_size (lV4 GE171 GE172 GE173 GE176))); (case aL => have := LMc31.out; omega); intro v178 w37 ho hb hg hat; rw [← Ny177.out] at ho; replace BK171 := Aside0.mk (blk_grown (g := gb171) (o := .cells #[.int .i64 a0_0, .slice (some ad175) l0_1.length c0_1] 25 (0, 0)) (bV BK171) hg (Kd.R_ne HO_6.out BK171.out (by decide))); replace BK172 := Aside0.mk (blk_grown (g := gb172) (o := .cells #[.int .i64 a1_0, .int .i64 a1_1, .int .i64 a1_2, .int .i64 a1_3] 47 (0, 0)) (bV BK172) hg (Kd.R_away HO_6.out (fun _ hk => hk.1))); replace BK173 := Aside0.mk (blk_grown (g := gb173) (o := .cells #[.int .i64 0, .slice none 0 0] 25 (0, 0)) (bV BK173) hg (Kd.R_ne HO_6.out BK173.out (by decide))); replace BK176 := Aside0.mk (blk_grown (g := gb176) (o := .cells #[.int .i64 ((rd_T47 l0_1 x18_1).f0), .int .i64 ((rd_T47 l0_1 x18_1).f1), .int .i64 ((rd_T47 l0_1 x18_1).f2), .int .i64 ((rd_T47 l0_1 x18_1).f3)] 47 (0, 0)) (bV BK176) hg (Kd.R_away HO_6.out (fun _ hk => hk.2))); replace HB := Aside0.mk hb; have HO179 := Aside0.mk ho; clear HO_6; clear ho hb hg hat; have hnb38 := NB176_171.out; have hnc38 := NB171_176.out; have hnb39 := NB176_173.out; have hnc39 := NB173_176.out; have hcz40_0 := cz BK176 0 (.int .i64 ((rd_T47 l0_1 x18_1).f0)); have hcz40_1 := cz BK176 1 (.int .i64 ((rd_T47 l0_1 x18_1).f1)); have hcz40_2 := cz BK176 2 (.int .i64 ((rd_T47 l0_1 x18_1).f2)); have hcz40_3 := cz BK176 3 (.int .i64 ((rd_T47 l0_1 x18_1).f3)); have hfz40_0 := fz BK176 0; have hfz40_1 := fz BK176 1; have hfz40_2 := fz BK176 2; have hfz40_3 := fz BK176 3; have hcz41_0 := cz BK172 0 (.int .i64 a1_0); have hcz41_1 := cz BK172 1 (.int .i64 a1_1); have hcz41_2 := cz BK172 2 (.int .i64 a1_2); have hcz41_3 := cz BK172 3 (.int .i64 a1_3); have hfz41_0 := fz BK172 0; have hfz41_1 := fz BK172 1; have hfz41_2 := fz BK172 2; have hfz41_3 := fz BK172 3))
            go_roundg kj15
            case measure => have := HK1.out; have := HJ15.out; omega
            case rel => exact ⟨(y177), (true), (wrap64 (x18_1 + 1)), tE, tE, H', ⟨by have := HK1.out; have := HJ15.out; omega⟩, ⟨by (with_reducible repeat (first | apply Kd.R_alloc | apply Kd.R_drewN | apply Kd.R_drew)); exact Kd.R_mono HO179.out (fun _ hk => hk.1)⟩, ⟨by refine bU ?_; exact BK171.out⟩, ⟨by refine bU ?_; exact BK172.out⟩, ⟨by refine bU ?_; exact BK173.out⟩, ⟨by repeat (first | (with_reducible first | exact HB.out | apply below_alloc | apply pw_below_drewN | apply below_drew1 | refine below_set ?_ GE171.out | refine below_set ?_ GE172.out | refine below_set ?_ GE173.out | refine below_set ?_ GE176.out) | exact HB.out)⟩⟩
           ·rw [if_neg c32] at H
            have c32b0 : (((rd_T47 l0_1 x18_1).f0) == a1_0) = false := beq_eq_false_iff_ne.mpr c32
            have c32b1 : (((rd_T47 l0_1 x18_1).f0) != a1_0) = true := bne_iff_ne.mpr c32
            by_cases c42 : y177.length < 4398046511104
            ·rw [if_pos c42] at H
             have LMc42 := Aside0.mk c42
             clear c42
             obtain ⟨y180, hy180⟩ : ∃ y_ : List (S47), y_ = (y177 ++ [(⟨((rd_T47 l0_1 x18_1).f0), ((rd_T47 l0_1 x18_1).f1), ((rd_T47 l0_1 x18_1).f2), ((rd_T47 l0_1 x18_1).f3)⟩ : S47)]) := ⟨_, rfl⟩
             replace H : (spec_AddTimer.l0 kj15 y180 true l0_1 (l0_1.length : Int) (wrap64 (x18_1 + 1)) a0_0 l0_1 a1_0 a1_1 a1_2 a1_3) = some (r1, r2, r3) := by first | (rw [hy180]; with_reducible exact H) | (have H2_ := (Option.bind_some _ _).symm.trans H; rw [hy180]; with_reducible exact H2_) | (have H2_ := (Option.bind_some _ _).symm.trans H; with_reducible exact H2_) | with_reducible exact H | (rw [hy180]; exact H) | exact H
             have Ny180 := Aside0.mk hy180
             clear hy180
             have H' := Aside0.mk H
             clear H
             have hnb43 := NB172_171.out
             have hnc43 := NB171_172.out
             have hnb44 := NB172_173.out
             have hnc44 := NB173_172.out
             have hnb45 := NB172_176.out
             have hnc45 := NB176_172.out
             have hcz46_0 := cz BK172 0 (.int .i64 a1_0)
             have hcz46_1 := cz BK172 1 (.int .i64 a1_1)
             have hcz46_2 := cz BK172 2 (.int .i64 a1_2)
             have hcz46_3 := cz BK172 3 (.int .i64 a1_3)
             have hfz46_0 := fz BK172 0
             have hfz46_1 := fz BK172 1
             have hfz46_2 := fz BK172 2
             have hfz46_3 := fz BK172 3
             go_wp2_with (first | ((with_reducible refine gate_builtin (b := .append) (xs := #[.tmp 31, .tmp 33]) rfl ?_); at_builtin; refine Kd.R_append k47 (w0 := w) w.heap.size rfl (.tmp 31) (.tmp 33) 23 47 (.agg #[(.int .i64 0), (.int .i64 0), (.int .i64 0), (.int .i64 0)]) 32 rfl Try.underlying23 info47 rfl (by decide) (by omega) u6 x6_1 (⟨a1_0, a1_1, a1_2, a1_3⟩ : S47) [.int .i64 a1_0, .int .i64 a1_1, .int .i64 a1_2, .int .i64 a1_3] (fun k_ => k_ ≠ gb172 ∧ k_ ≠ gb176) (fun _ => False) rfl rfl ?aP (fun _ hk => hk.elim) ?aF ?aO ?aB ?aS ?aL ?_; (case aP => exact k47_mkM _ _ _ (⟨a1_0, a1_1, a1_2, a1_3⟩ : S47)); (case aB => exact (lV4 GE171 GE172 GE173 GE176)); (case aF => exact (fun k_ hk => ⟨Kd.freshB (g := gb172) (o := .cells #[.int .i64 a1_0, .int .i64 a1_1, .int .i64 a1_2, .int .i64 a1_3] 47 (0, 0)) (bV BK172) k_ hk, Kd.freshB (g := gb176) (o := .cells #[.int .i64 ((rd_T47 l0_1 x18_1).f0), .int .i64 ((rd_T47 l0_1 x18_1).f1), .int .i64 ((rd_T47 l0_1 x18_1).f2), .int .i64 ((rd_T47 l0_1 x18_1).f3)] 47 (0, 0)) (bV BK176) k_ hk⟩)); (case aO => exact (rU HO_6.out)); (case aS => exact (below_size (lV4 GE171 GE172 GE173 GE176))); (case aL => have := LMc31.out; omega); intro v178 w47 ho hb hg hat; rw [← Ny177.out] at ho; replace BK171 := Aside0.mk (blk_grown (g := gb171) (o := .cells #[.int .i64 a0_0, .slice (some ad175) l0_1.length c0_1] 25 (0, 0)) (bV BK171) hg (Kd.R_ne HO_6.out BK171.out (by decide))); replace BK172 := Aside0.mk (blk_grown (g := gb172) (o := .cells #[.int .i64 a1_0, .int .i64 a1_1, .int .i64 a1_2, .int .i64 a1_3] 47 (0, 0)) (bV BK172) hg (Kd.R_away HO_6.out (fun _ hk => hk.1))); replace BK173 := Aside0.mk (blk_grown (g := gb173) (o := .cells #[.int .i64 0, .slice none 0 0] 25 (0, 0)) (bV BK173) hg (Kd.R_ne HO_6.out BK173.out (by decide))); replace BK176 := Aside0.mk (blk_grown (g := gb176) (o := .cells #[.int .i64 ((rd_T47 l0_1 x18_1).f0), .int .i64 ((rd_T47 l0_1 x18_1).f1), .int .i64 ((rd_T47 l0_1 x18_1).f2), .int .i64 ((rd_T47 l0_1 x18_1).f3)] 47 (0, 0)) (bV BK176) hg (Kd.R_away HO_6.out (fun _ hk => hk.2))); replace HB := Aside0.mk hb; have HO179 := Aside0.mk ho; clear HO_6; clear ho hb hg hat; have hnb48 := NB176_171.out; have hnc48 := NB171_176.out; have hnb49 := NB176_173.out; have hnc49 := NB173_176.out; have hcz50_0 := cz BK176 0 (.int .i64 ((rd_T47 l0_1 x18_1).f0)); have hcz50_1 := cz BK176 1 (.int .i64 ((rd_T47 l0_1 x18_1).f1)); have hcz50_2 := cz BK176 2 (.int .i64 ((rd_T47 l0_1 x18_1).f2)); have hcz50_3 := cz BK176 3 (.int .i64 ((rd_T47 l0_1 x18_1).f3)); have hfz50_0 := fz BK176 0; have hfz50_1 := fz BK176 1; have hfz50_2 := fz BK176 2; have hfz50_3 := fz BK176 3; have hcz51_0 := cz BK172 0 (.int .i64 a1_0); have hcz51_1 := cz BK172 1 (.int .i64 a1_1); have hcz51_2 := cz BK172 2 (.int .i64 a1_2); have hcz51_3 := cz BK172 3 (.int .i64 a1_3); have hfz51_0 := fz BK172 0; have hfz51_1 := fz BK172 1; have hfz51_2 := fz BK172 2; have hfz51_3 := fz BK172 3) | ((with_reducible refine gate_builtin (b := .append) (xs := #[.tmp 40, .tmp 42]) rfl ?_); at_builtin; refine Kd.R_append k47 (w0 := w) w.heap.size rfl (.tmp 40) (.tmp 42) 23 47 (.agg #[(.int .i64 0), (.int .i64 0), (.int .i64 0), (.int .i64 0)]) 32 rfl Try.underlying23 info47 rfl (by decide) (by omega) v178 y177 (⟨((rd_T47 l0_1 x18_1).f0), ((rd_T47 l0_1 x18_1).f1), ((rd_T47 l0_1 x18_1).f2), ((rd_T47 l0_1 x18_1).f3)⟩ : S47) [.int .i64 ((rd_T47 l0_1 x18_1).f0), .int .i64 ((rd_T47 l0_1 x18_1).f1), .int .i64 ((rd_T47 l0_1 x18_1).f2), .int .i64 ((rd_T47 l0_1 x18_1).f3)] (fun k_ => k_ ≠ gb172 ∧ k_ ≠ gb176) (fun _ => False) rfl rfl ?aP (fun _ hk => hk.elim) ?aF ?aO ?aB ?aS ?aL ?_; (case aP => exact k47_mkM _ _ _ (⟨((rd_T47 l0_1 x18_1).f0), ((rd_T47 l0_1 x18_1).f1), ((rd_T47 l0_1 x18_1).f2), ((rd_T47 l0_1 x18_1).f3)⟩ : S47)); (case aB => exact (lV4 GE171 GE172 GE173 GE176)); (case aF => exact (fun k_ hk => ⟨Kd.freshB (g := gb172) (o := .cells #[.int .i64 a1_0, .int .i64 a1_1, .int .i64 a1_2, .int .i64 a1_3] 47 (0, 0)) (bV BK172) k_ hk, Kd.freshB (g := gb176) (o := .cells #[.int .i64 ((rd_T47 l0_1 x18_1).f0), .int .i64 ((rd_T47 l0_1 x18_1).f1), .int .i64 ((rd_T47 l0_1 x18_1).f2), .int .i64 ((rd_T47 l0_1 x18_1).f3)] 47 (0, 0)) (bV BK176) k_ hk⟩)); (case aO => exact (rU HO179.out)); (case aS => exact (below_size (lV4 GE171 GE172 GE173 GE176))); (case aL => have := LMc42.out; omega); intro v181 w52 ho hb hg hat; rw [← Ny180.out] at ho; replace BK171 := Aside0.mk (blk_grown (g := gb171) (o := .cells #[.int .i64 a0_0, .slice (some ad175) l0_1.length c0_1] 25 (0, 0)) (bV BK171) hg (Kd.R_ne HO179.out BK171.out (by decide))); replace BK172 := Aside0.mk (blk_grown (g := gb172) (o := .cells #[.int .i64 a1_0, .int .i64 a1_1, .int .i64 a1_2, .int .i64 a1_3] 47 (0, 0)) (bV BK172) hg (Kd.R_away HO179.out (fun _ hk => hk.1))); replace BK173 := Aside0.mk (blk_grown (g := gb173) (o := .cells #[.int .i64 0, .slice none 0 0] 25 (0, 0)) (bV BK173) hg (Kd.R_ne HO179.out BK173.out (by decide))); replace BK176 := Aside0.mk (blk_grown (g := gb176) (o := .cells #[.int .i64 ((rd_T47 l0_1 x18_1).f0), .int .i64 ((rd_T47 l0_1 x18_1).f1), .int .i64 ((rd_T47 l0_1 x18_1).f2), .int .i64 ((rd_T47 l0_1 x18_1).f3)] 47 (0, 0)) (bV BK176) hg (Kd.R_away HO179.out (fun _ hk => hk.2))); replace HB := Aside0.mk hb; have HO182 := Aside0.mk ho; clear HO179; clear ho hb hg hat))
             go_roundg kj15
             case measure => have := HK1.out; have := HJ15.out; omega
             case rel => exact ⟨(y180), (true), (wrap64 (x18_1 + 1)), tE, tE, H', ⟨by have := HK1.out; have := HJ15.out; omega⟩, ⟨by (with_reducible repeat (first | apply Kd.R_alloc | apply Kd.R_drewN | apply Kd.R_drew)); exact Kd.R_mono HO182.out (fun _ hk => hk.1)⟩, ⟨by refine bU ?_; exact BK171.out⟩, ⟨by refine bU ?_; exact BK172.out⟩, ⟨by refine bU ?_; exact BK173.out⟩, ⟨by repeat (first | (with_reducible first | exact HB.out | apply below_alloc | apply pw_below_drewN | apply below_drew1 | refine below_set ?_ GE171.out | refine below_set ?_ GE172.out | refine below_set ?_ GE173.out | refine below_set ?_ GE176.out) | exact HB.out)⟩⟩
            ·rw [if_neg c42] at H
             exact absurd H (by simp)
          ·rw [if_neg c31] at H
           exact absurd H (by simp)
         ·replace c30 := Bool.eq_false_iff.mpr c30
          subst c30
          have H1 : (if ((rd_T47 l0_1 x18_1).f0) = a1_0 then (spec_AddTimer.l0 kj15 x6_1 x7_1 l0_1 (l0_1.length : Int) (wrap64 (x18_1 + 1)) a0_0 l0_1 a1_0 a1_1 a1_2 a1_3) else (if x6_1.length < 4398046511104 then (spec_AddTimer.l0 kj15 (x6_1 ++ [(⟨((rd_T47 l0_1 x18_1).f0), ((rd_T47 l0_1 x18_1).f1), ((rd_T47 l0_1 x18_1).f2), ((rd_T47 l0_1 x18_1).f3)⟩ : S47)]) x7_1 l0_1 (l0_1.length : Int) (wrap64 (x18_1 + 1)) a0_0 l0_1 a1_0 a1_1 a1_2 a1_3) else (none))) = some (r1, r2, r3) := by rw [if_neg (show ¬ (false = true) by decide)] at H; exact H
          clear H
          have H := H1
          clear H1
          by_cases c53 : ((rd_T47 l0_1 x18_1).f0) = a1_0
          ·rw [if_pos c53] at H
           have c53b0 : (((rd_T47 l0_1 x18_1).f0) == a1_0) = true := beq_iff_eq.mpr c53
           have c53b1 : (((rd_T47 l0_1 x18_1).f0) != a1_0) = false := bne_eq_false_iff_eq.mpr c53
           clear c53
           have H' := Aside0.mk H
           clear H
           have hnb54 := NB176_171.out
           have hnc54 := NB171_176.out
           have hnb55 := NB176_172.out
           have hnc55 := NB172_176.out
           have hnb56 := NB176_173.out
           have hnc56 := NB173_176.out
           have hcz57_0 := cz BK176 0 (.int .i64 ((rd_T47 l0_1 x18_1).f0))
           have hcz57_1 := cz BK176 1 (.int .i64 ((rd_T47 l0_1 x18_1).f1))
           have hcz57_2 := cz BK176 2 (.int .i64 ((rd_T47 l0_1 x18_1).f2))
           have hcz57_3 := cz BK176 3 (.int .i64 ((rd_T47 l0_1 x18_1).f3))
           have hfz57_0 := fz BK176 0
           have hfz57_1 := fz BK176 1
           have hfz57_2 := fz BK176 2
           have hfz57_3 := fz BK176 3
           have hnb58 := NB172_171.out
           have hnc58 := NB171_172.out
           have hnb59 := NB172_173.out
           have hnc59 := NB173_172.out
           have hcz60_0 := cz BK172 0 (.int .i64 a1_0)
           have hcz60_1 := cz BK172 1 (.int .i64 a1_1)
           have hcz60_2 := cz BK172 2 (.int .i64 a1_2)
           have hcz60_3 := cz BK172 3 (.int .i64 a1_3)
           have hfz60_0 := fz BK172 0
           have hfz60_1 := fz BK172 1
           have hfz60_2 := fz BK172 2
           have hfz60_3 := fz BK172 3
           go_wp2
           go_roundg kj15
           case measure => have := HK1.out; have := HJ15.out; omega
           case rel => exact ⟨(x6_1), (x7_1), (wrap64 (x18_1 + 1)), tE, tE, H', ⟨by have := HK1.out; have := HJ15.out; omega⟩, ⟨by (with_reducible repeat (first | apply Kd.R_alloc | apply Kd.R_drewN | apply Kd.R_drew)); exact Kd.R_mono HO_6.out (fun _ hk => hk.1)⟩, ⟨by refine bU ?_; exact BK171.out⟩, ⟨by refine bU ?_; exact BK172.out⟩, ⟨by refine bU ?_; exact BK173.out⟩, ⟨by repeat (first | (with_reducible first | exact HB.out | apply below_alloc | apply pw_below_drewN | apply below_drew1 | refine below_set ?_ GE171.out | refine below_set ?_ GE172.out | refine below_set ?_ GE173.out | refine below_set ?_ GE176.out) | exact HB.out)⟩⟩
          ·rw [if_neg c53] at H
           have c53b0 : (((rd_T47 l0_1 x18_1).f0) == a1_0) = false := beq_eq_false_iff_ne.mpr c53
           have c53b1 : (((rd_T47 l0_1 x18_1).f0) != a1_0) = true := bne_iff_ne.mpr c53
           by_cases c61 : x6_1.length < 4398046511104
           ·rw [if_pos c61] at H
            have LMc61 := Aside0.mk c61
            clear c61
            obtain ⟨y183, hy183⟩ : ∃ y_ : List (S47), y_ = (x6_1 ++ [(⟨((rd_T47 l0_1 x18_1).f0), ((rd_T47 l0_1 x18_1).f1), ((rd_T47 l0_1 x18_1).f2), ((rd_T47 l0_1 x18_1).f3)⟩ : S47)]) := ⟨_, rfl⟩
            replace H : (spec_AddTimer.l0 kj15 y183 x7_1 l0_1 (l0_1.length : Int) (wrap64 (x18_1 + 1)) a0_0 l0_1 a1_0 a1_1 a1_2 a1_3) = some (r1, r2, r3) := by first | (rw [hy183]; with_reducible exact H) | (have H2_ := (Option.bind_some _ _).symm.trans H; rw [hy183]; with_reducible exact H2_) | (have H2_ := (Option.bind_some _ _).symm.trans H; with_reducible exact H2_) | with_reducible exact H | (rw [hy183]; exact H) | exact H
            have Ny183 := Aside0.mk hy183
            clear hy183
            have H' := Aside0.mk H
            clear H
            have hnb62 := NB176_171.out
            have hnc62 := NB171_176.out
            have hnb63 := NB176_172.out
            have hnc63 := NB172_176.out
            have hnb64 := NB176_173.out
            have hnc64 := NB173_176.out
            have hcz65_0 := cz BK176 0 (.int .i64 ((rd_T47 l0_1 x18_1).f0))
            have hcz65_1 := cz BK176 1 (.int .i64 ((rd_T47 l0_1 x18_1).f1))
            have hcz65_2 := cz BK176 2 (.int .i64 ((rd_T47 l0_1 x18_1).f2))
            have hcz65_3 := cz BK176 3 (.int .i64 ((rd_T47 l0_1 x18_1).f3))
            have hfz65_0 := fz BK176 0
            have hfz65_1 := fz BK176 1
            have hfz65_2 := fz BK176 2
            have hfz65_3 := fz BK176 3
            have hnb66 := NB172_171.out
            have hnc66 := NB171_172.out
            have hnb67 := NB172_173.out
            have hnc67 := NB173_172.out
            have hcz68_0 := cz BK172 0 (.int .i64 a1_0)
            have hcz68_1 := cz BK172 1 (.int .i64 a1_1)
            have hcz68_2 := cz BK172 2 (.int .i64 a1_2)
            have hcz68_3 := cz BK172 3 (.int .i64 a1_3)
            have hfz68_0 := fz BK172 0
            have hfz68_1 := fz BK172 1
            have hfz68_2 := fz BK172 2
            have hfz68_3 := fz BK172 3
            go_wp2_with (first | ((with_reducible refine gate_builtin (b := .append) (xs := #[.tmp 40, .tmp 42]) rfl ?_); at_builtin; refine Kd.R_append k47 (w0 := w) w.heap.size rfl (.tmp 40) (.tmp 42) 23 47 (.agg #[(.int .i64 0), (.int .i64 0), (.int .i64 0), (.int .i64 0)]) 32 rfl Try.underlying23 info47 rfl (by decide) (by omega) u6 x6_1 (⟨((rd_T47 l0_1 x18_1).f0), ((rd_T47 l0_1 x18_1).f1), ((rd_T47 l0_1 x18_1).f2), ((rd_T47 l0_1 x18_1).f3)⟩ : S47) [.int .i64 ((rd_T47 l0_1 x18_1).f0), .int .i64 ((rd_T47 l0_1 x18_1).f1), .int .i64 ((rd_T47 l0_1 x18_1).f2), .int .i64 ((rd_T47 l0_1 x18_1).f3)] (fun k_ => k_ ≠ gb172 ∧ k_ ≠ gb176) (fun _ => False) rfl rfl ?aP (fun _ hk => hk.elim) ?aF ?aO ?aB ?aS ?aL ?_; (case aP => exact k47_mkM _ _ _ (⟨((rd_T47 l0_1 x18_1).f0), ((rd_T47 l0_1 x18_1).f1), ((rd_T47 l0_1 x18_1).f2), ((rd_T47 l0_1 x18_1).f3)⟩ : S47)); (case aB => exact (lV4 GE171 GE172 GE173 GE176)); (case aF => exact (fun k_ hk => ⟨Kd.freshB (g := gb172) (o := .cells #[.int .i64 a1_0, .int .i64 a1_1, .int .i64 a1_2, .int .i64 a1_3] 47 (0, 0)) (bV BK172) k_ hk, Kd.freshB (g := gb176) (o := .cells #[.int .i64 ((rd_T47 l0_1 x18_1).f0), .int .i64 ((rd_T47 l0_1 x18_1).f1), .int .i64 ((rd_T47 l0_1 x18_1).f2), .int .i64 ((rd_T47 l0_1 x18_1).f3)] 47 (0, 0)) (bV BK176) k_ hk⟩)); (case aO => exact (rU HO_6.out)); (case aS => exact (below_size (lV4 GE171 GE172 GE173 GE176))); (case aL => have := LMc61.out; omega); intro v184 w69 ho hb hg hat; rw [← Ny183.out] at ho; replace BK171 := Aside0.mk (blk_grown (g := gb171) (o := .cells #[.int .i64 a0_0, .slice (some ad175) l0_1.length c0_1] 25 (0, 0)) (bV BK171) hg (Kd.R_ne HO_6.out BK171.out (by decide))); replace BK172 := Aside0.mk (blk_grown (g := gb172) (o := .cells #[.int .i64 a1_0, .int .i64 a1_1, .int .i64 a1_2, .int .i64 a1_3] 47 (0, 0)) (bV BK172) hg (Kd.R_away HO_6.out (fun _ hk => hk.1))); replace BK173 := Aside0.mk (blk_grown (g := gb173) (o := .cells #[.int .i64 0, .slice none 0 0] 25 (0, 0)) (bV BK173) hg (Kd.R_ne HO_6.out BK173.out (by decide))); replace BK176 := Aside0.mk (blk_grown (g := gb176) (o := .cells #[.int .i64 ((rd_T47 l0_1 x18_1).f0), .int .i64 ((rd_T47 l0_1 x18_1).f1), .int .i64 ((rd_T47 l0_1 x18_1).f2), .int .i64 ((rd_T47 l0_1 x18_1).f3)] 47 (0, 0)) (bV BK176) hg (Kd.R_away HO_6.out (fun _ hk => hk.2))); replace HB := Aside0.mk hb; have HO185 := Aside0.mk ho; clear HO_6; clear ho hb hg hat))
            go_roundg kj15
            case measure => have := HK1.out; have := HJ15.out; omega
            case rel => exact ⟨(y183), (x7_1), (wrap64 (x18_1 + 1)), tE, tE, H', ⟨by have := HK1.out; have := HJ15.out; omega⟩, ⟨by (with_reducible repeat (first | apply Kd.R_alloc | apply Kd.R_drewN | apply Kd.R_drew)); exact Kd.R_mono HO185.out (fun _ hk => hk.1)⟩, ⟨by refine bU ?_; exact BK171.out⟩, ⟨by refine bU ?_; exact BK172.out⟩, ⟨by refine bU ?_; exact BK173.out⟩, ⟨by repeat (first | (with_reducible first | exact HB.out | apply below_alloc | apply pw_below_drewN | apply below_drew1 | refine below_set ?_ GE171.out | refine below_set ?_ GE172.out | refine below_set ?_ GE173.out | refine below_set ?_ GE176.out) | exact HB.out)⟩⟩
           ·rw [if_neg c61] at H
            exact absurd H (by simp)
      ·rw [if_neg c15] at H
       exact absurd H (by simp)
     ·rw [if_neg c14] at H
      exact absurd H (by simp)
    ·rw [if_neg c13] at H
     have c13b0 : decide (x18_1 < (l0_1.length : Int)) = false := decide_eq_false c13
     clear c13
     by_cases c70 : x7_1 = true
     ·subst c70
      have H1 : ((spec_GoodClock.f k1 a0_0 x6_1).bind fun t187 => (if t187 = true then (some (a0_0, x6_1, true)) else (some (0, ([] : List (S47)), false)))) = some (r1, r2, r3) := by rw [if_pos rfl] at H; exact H
      clear H
      have H := H1
      clear H1
      replace H := Option.bind_eq_some_iff.mp H
      obtain ⟨t187, A710, H⟩ := H
      replace H : (if t187 = true then (some (a0_0, x6_1, true)) else (some (0, ([] : List (S47)), false))) = some (r1, r2, r3) := H
      have A71 := Aside0.mk A710
      clear A710
      by_cases c72 : t187 = true
      ·subst c72
       have H1 : (some (a0_0, x6_1, true)) = some (r1, r2, r3) := by rw [if_pos rfl] at H; exact H
       clear H
       have H := H1
       clear H1
       simp only [Option.some.injEq, Prod.mk.injEq] at H
       obtain ⟨rfl, rfl, rfl⟩ := H
       have hnb73 := NB171_172.out
       have hnc73 := NB172_171.out
       have hnb74 := NB171_173.out
       have hnc74 := NB173_171.out
       have hcz75_0 := cz BK171 0 (.int .i64 a0_0)
       have hcz75_1 := cz BK171 1 (.slice A0_1 l0_1.length c0_1)
       have hfz75_0 := fz BK171 0
       have hfz75_1 := fz BK171 1
       obtain ⟨Ao76, co76, eo76⟩ := Kd.R_slice HO_6.out
       subst eo76
       go_wp2_with (first | ((with_reducible refine gate_dst (N := 10) rfl ?_); refine box_event rfl (N := 10) rfl (cs := #[.int .i64 0, .slice none 0 0]) (t := 25) sE ?_; intro gb186 hg w77 hbox hb; replace HO_6 := Aside0.mk (Kd.R_below (rU HO_6.out) hb); have BK186 := Aside0.mk hbox; have GW186 := gS w hg (lV3 GE171 GE172 GE173); have GE186 := gS w hg (lV3 GE171 GE172 GE173); replace HB := bH (lV3 GE171 GE172 GE173) hb; have NB171_186 := nL hg (bV BK171); have NB186_171 := nG hg (bV BK171); replace BK171 := bB (bV BK171) hb; have NB172_186 := nL hg (bV BK172); have NB186_172 := nG hg (bV BK172); replace BK172 := bB (bV BK172) hb; have NB173_186 := nL hg (bV BK173); have NB186_173 := nG hg (bV BK173); replace BK173 := bB (bV BK173) hb; clear hb hbox hg; have hnb78 := NB186_171.out; have hnc78 := NB171_186.out; have hnb79 := NB186_172.out; have hnc79 := NB172_186.out; have hnb80 := NB186_173.out; have hnc80 := NB173_186.out; have hcz81_0 := cz BK186 0 (.int .i64 0); have hcz81_1 := cz BK186 1 (.slice none 0 0); have hfz81_0 := fz BK186 0; have hfz81_1 := fz BK186 1) | ((with_reducible refine gate_callee (f := 17) rfl ?_); refine goesL_ (some 56) rfl rfl Try.func17 (by kernel_rfl) rfl #[.agg #[.int .i64 a0_0, .slice Ao76 x6_1.length co76]] rfl aE ?_; (with_reducible refine (spec_GoodClock.calls k1 a0_0 _ _ x6_1 true _ ?side1 ?side2 A71.out).mono ?_); (case side1 => refine (Kd.R_reads' (e := 47) (base := w.heap.size) (ok := fun k_ => k_ ≠ gb172) (n := x6_1.length) (c := co76) ?_).2.2; exact (rU (Kd.R_mono (Kd.R_far (p := ⟨gb186, 1, none⟩) (Kd.R_far (p := ⟨gb186, 0, none⟩) (Kd.R_types HO_6.out BK186.out (by decide)) (fun _ hk => hk.2) (.int .i64 a0_0)) (fun _ hk => hk.2) (.slice Ao76 x6_1.length co76)) (fun _ h_ => h_.1)))); (case side2 => exact (Kd.R_reads' HO_6.out).2.1); rintro e w82 ⟨rfl, hb⟩; refine ⟨_, rfl, ?_⟩; replace HO_6 := Aside0.mk (Kd.R_below (rU (Kd.R_mono (Kd.R_far (p := ⟨gb186, 1, none⟩) (Kd.R_far (p := ⟨gb186, 0, none⟩) (Kd.R_types HO_6.out BK186.out (by decide)) (fun _ hk => hk.2) (.int .i64 a0_0)) (fun _ hk => hk.2) (.slice Ao76 x6_1.length co76)) (fun _ h_ => h_.1))) hb); replace BK171 := bB (bG NB171_186 BK171) hb; replace BK172 := bB (bG NB172_186 BK172) hb; replace BK173 := bB (bG NB173_186 BK173) hb; replace BK186 := Aside0.mk (blk_below (g := gb186) (o := .cells #[.int .i64 a0_0, .slice Ao76 x6_1.length co76] 25 (0, 0)) (by refine bU ?_; refine blk_put (cs := #[.int .i64 a0_0, .slice none 0 0]) ?_ 1 _ rfl; refine bU ?_; refine blk_put (cs := #[.int .i64 0, .slice none 0 0]) ?_ 0 _ rfl; refine bU ?_; exact BK186.out) hb); replace HB := bH (lV4 GE171 GE172 GE173 GE186) hb; (try clear hb); have hcz83_0 := cz BK186 0 (.int .i64 a0_0); have hcz83_1 := cz BK186 1 (.slice Ao76 x6_1.length co76); have hfz83_0 := fz BK186 0; have hfz83_1 := fz BK186 1; have hnb84 := NB173_172.out; have hnc84 := NB172_173.out; have hcz85_0 := cz BK173 0 (.int .i64 0); have hcz85_1 := cz BK173 1 (.slice none 0 0); have hfz85_0 := fz BK173 0; have hfz85_1 := fz BK173 1))
       refine bodyPost_ret (results_ct rfl _ _ gb173 25 #[.int .i64 a0_0, .slice Ao76 x6_1.length co76] (0, 0) _ rfl (by refine bU ?_; refine blk_put (cs := #[.int .i64 a0_0, .slice none 0 0]) ?_ 1 _ rfl; refine bU ?_; refine blk_put (cs := #[.int .i64 0, .slice none 0 0]) ?_ 0 _ rfl; refine bU ?_; exact BK173.out) Try.underlying25 rfl (by kernel_rfl)) rfl ?_
       exact ⟨_, eE, by (with_reducible repeat (first | apply Kd.R_alloc | apply Kd.R_drewN | apply Kd.R_drew)); exact Kd.R_mono (Kd.R_far (p := ⟨gb173, 1, none⟩) (Kd.R_far (p := ⟨gb173, 0, none⟩) (Kd.R_types HO_6.out BK173.out (by decide)) (fun _ hk => hk.2) (.int .i64 a0_0)) (fun _ hk => hk.2) (.slice Ao76 x6_1.length co76)) (fun _ hk => trivial), lV4 GE171 GE172 GE173 GE186⟩
      ·replace c72 := Bool.eq_false_iff.mpr c72
       subst c72
       have H1 : (some (0, ([] : List (S47)), false)) = some (r1, r2, r3) := by rw [if_neg (show ¬ (false = true) by decide)] at H; exact H
       clear H
       have H := H1
       clear H1
       simp only [Option.some.injEq, Prod.mk.injEq] at H
       obtain ⟨rfl, rfl, rfl⟩ := H
       have hnb86 := NB171_172.out
       have hnc86 := NB172_171.out
       have hnb87 := NB171_173.out
       have hnc87 := NB173_171.out
       have hcz88_0 := cz BK171 0 (.int .i64 a0_0)
       have hcz88_1 := cz BK171 1 (.slice A0_1 l0_1.length c0_1)
       have hfz88_0 := fz BK171 0
       have hfz88_1 := fz BK171 1
       obtain ⟨Ao89, co89, eo89⟩ := Kd.R_slice HO_6.out
       subst eo89
       go_wp2_with (first | ((with_reducible refine gate_dst (N := 10) rfl ?_); refine box_event rfl (N := 10) rfl (cs := #[.int .i64 0, .slice none 0 0]) (t := 25) sE ?_; intro gb186 hg w90 hbox hb; replace HO_6 := Aside0.mk (Kd.R_below (rU HO_6.out) hb); have BK186 := Aside0.mk hbox; have GW186 := gS w hg (lV3 GE171 GE172 GE173); have GE186 := gS w hg (lV3 GE171 GE172 GE173); replace HB := bH (lV3 GE171 GE172 GE173) hb; have NB171_186 := nL hg (bV BK171); have NB186_171 := nG hg (bV BK171); replace BK171 := bB (bV BK171) hb; have NB172_186 := nL hg (bV BK172); have NB186_172 := nG hg (bV BK172); replace BK172 := bB (bV BK172) hb; have NB173_186 := nL hg (bV BK173); have NB186_173 := nG hg (bV BK173); replace BK173 := bB (bV BK173) hb; clear hb hbox hg; have hnb91 := NB186_171.out; have hnc91 := NB171_186.out; have hnb92 := NB186_172.out; have hnc92 := NB172_186.out; have hnb93 := NB186_173.out; have hnc93 := NB173_186.out; have hcz94_0 := cz BK186 0 (.int .i64 0); have hcz94_1 := cz BK186 1 (.slice none 0 0); have hfz94_0 := fz BK186 0; have hfz94_1 := fz BK186 1) | ((with_reducible refine gate_callee (f := 17) rfl ?_); refine goesL_ (some 56) rfl rfl Try.func17 (by kernel_rfl) rfl #[.agg #[.int .i64 a0_0, .slice Ao89 x6_1.length co89]] rfl aE ?_; (with_reducible refine (spec_GoodClock.calls k1 a0_0 _ _ x6_1 false _ ?side1 ?side2 A71.out).mono ?_); (case side1 => refine (Kd.R_reads' (e := 47) (base := w.heap.size) (ok := fun k_ => k_ ≠ gb172) (n := x6_1.length) (c := co89) ?_).2.2; exact (rU (Kd.R_mono (Kd.R_far (p := ⟨gb186, 1, none⟩) (Kd.R_far (p := ⟨gb186, 0, none⟩) (Kd.R_types HO_6.out BK186.out (by decide)) (fun _ hk => hk.2) (.int .i64 a0_0)) (fun _ hk => hk.2) (.slice Ao89 x6_1.length co89)) (fun _ h_ => h_.1)))); (case side2 => exact (Kd.R_reads' HO_6.out).2.1); rintro e w95 ⟨rfl, hb⟩; refine ⟨_, rfl, ?_⟩; replace HO_6 := Aside0.mk (Kd.R_below (rU (Kd.R_mono (Kd.R_far (p := ⟨gb186, 1, none⟩) (Kd.R_far (p := ⟨gb186, 0, none⟩) (Kd.R_types HO_6.out BK186.out (by decide)) (fun _ hk => hk.2) (.int .i64 a0_0)) (fun _ hk => hk.2) (.slice Ao89 x6_1.length co89)) (fun _ h_ => h_.1))) hb); replace BK171 := bB (bG NB171_186 BK171) hb; replace BK172 := bB (bG NB172_186 BK172) hb; replace BK173 := bB (bG NB173_186 BK173) hb; replace BK186 := Aside0.mk (blk_below (g := gb186) (o := .cells #[.int .i64 a0_0, .slice Ao89 x6_1.length co89] 25 (0, 0)) (by refine bU ?_; refine blk_put (cs := #[.int .i64 a0_0, .slice none 0 0]) ?_ 1 _ rfl; refine bU ?_; refine blk_put (cs := #[.int .i64 0, .slice none 0 0]) ?_ 0 _ rfl; refine bU ?_; exact BK186.out) hb); replace HB := bH (lV4 GE171 GE172 GE173 GE186) hb; (try clear hb); have hnb96 := NB173_172.out; have hnc96 := NB172_173.out; have hcz97_0 := cz BK173 0 (.int .i64 0); have hcz97_1 := cz BK173 1 (.slice none 0 0); have hfz97_0 := fz BK173 0; have hfz97_1 := fz BK173 1))
       refine bodyPost_ret (results_ct rfl _ _ gb173 25 #[.int .i64 0, .slice none 0 0] (0, 0) _ rfl (by refine bU ?_; refine blk_put (cs := #[.int .i64 0, .slice none 0 0]) ?_ 1 _ rfl; refine bU ?_; refine blk_put (cs := #[.int .i64 0, .slice none 0 0]) ?_ 0 _ rfl; refine bU ?_; exact BK173.out) Try.underlying25 rfl (by kernel_rfl)) rfl ?_
       exact ⟨_, eE, by first | exact Kd.R_nil _ _ _ _ _ | exact Kd.N_nil _ _ _ _ _ | exact Kd.V_nil _ _ _ _ _ | exact Kd.Q_nil _ _ _ _ _ | exact Kd.S_nil _ _ _ _ _, lV4 GE171 GE172 GE173 GE186⟩
     ·replace c70 := Bool.eq_false_iff.mpr c70
      subst c70
      have H1 : (if x6_1.length < 4398046511104 then ((some (x6_1 ++ [(⟨a1_0, a1_1, a1_2, a1_3⟩ : S47)] : List (S47))).bind fun y188 => ((spec_GoodClock.f k1 a0_0 y188).bind fun t192 => (if t192 = true then (some (a0_0, y188, true)) else (some (0, ([] : List (S47)), false))))) else (none)) = some (r1, r2, r3) := by rw [if_neg (show ¬ (false = true) by decide)] at H; exact H
      clear H
      have H := H1
      clear H1
      by_cases c98 : x6_1.length < 4398046511104
      ·rw [if_pos c98] at H
       have LMc98 := Aside0.mk c98
       clear c98
       obtain ⟨y188, hy188⟩ : ∃ y_ : List (S47), y_ = (x6_1 ++ [(⟨a1_0, a1_1, a1_2, a1_3⟩ : S47)]) := ⟨_, rfl⟩
       replace H : ((spec_GoodClock.f k1 a0_0 y188).bind fun t192 => (if t192 = true then (some (a0_0, y188, true)) else (some (0, ([] : List (S47)), false)))) = some (r1, r2, r3) := by first | (rw [hy188]; with_reducible exact H) | (have H2_ := (Option.bind_some _ _).symm.trans H; rw [hy188]; with_reducible exact H2_) | (have H2_ := (Option.bind_some _ _).symm.trans H; with_reducible exact H2_) | with_reducible exact H | (rw [hy188]; exact H) | exact H
       have Ny188 := Aside0.mk hy188
       clear hy188
       replace H := Option.bind_eq_some_iff.mp H
       obtain ⟨t192, A990, H⟩ := H
       replace H : (if t192 = true then (some (a0_0, y188, true)) else (some (0, ([] : List (S47)), false))) = some (r1, r2, r3) := H
       have A99 := Aside0.mk A990
       clear A990
       by_cases c100 : t192 = true
       ·subst c100
        have H1 : (some (a0_0, y188, true)) = some (r1, r2, r3) := by rw [if_pos rfl] at H; exact H
        clear H
        have H := H1
        clear H1
        simp only [Option.some.injEq, Prod.mk.injEq] at H
        obtain ⟨rfl, rfl, rfl⟩ := H
        have hnb101 := NB172_171.out
        have hnc101 := NB171_172.out
        have hnb102 := NB172_173.out
        have hnc102 := NB173_172.out
        have hcz103_0 := cz BK172 0 (.int .i64 a1_0)
        have hcz103_1 := cz BK172 1 (.int .i64 a1_1)
        have hcz103_2 := cz BK172 2 (.int .i64 a1_2)
        have hcz103_3 := cz BK172 3 (.int .i64 a1_3)
        have hfz103_0 := fz BK172 0
        have hfz103_1 := fz BK172 1
        have hfz103_2 := fz BK172 2
        have hfz103_3 := fz BK172 3
        go_wp2_with (first | ((with_reducible refine gate_builtin (b := .append) (xs := #[.tmp 47, .tmp 49]) rfl ?_); at_builtin; refine Kd.R_append k47 (w0 := w) w.heap.size rfl (.tmp 47) (.tmp 49) 23 47 (.agg #[(.int .i64 0), (.int .i64 0), (.int .i64 0), (.int .i64 0)]) 32 rfl Try.underlying23 info47 rfl (by decide) (by omega) u6 x6_1 (⟨a1_0, a1_1, a1_2, a1_3⟩ : S47) [.int .i64 a1_0, .int .i64 a1_1, .int .i64 a1_2, .int .i64 a1_3] (fun k_ => k_ ≠ gb172) (fun _ => False) rfl rfl ?aP (fun _ hk => hk.elim) ?aF ?aO ?aB ?aS ?aL ?_; (case aP => exact k47_mkM _ _ _ (⟨a1_0, a1_1, a1_2, a1_3⟩ : S47)); (case aB => exact (lV3 GE171 GE172 GE173)); (case aF => exact (fun k_ hk => Kd.freshB (g := gb172) (o := .cells #[.int .i64 a1_0, .int .i64 a1_1, .int .i64 a1_2, .int .i64 a1_3] 47 (0, 0)) (bV BK172) k_ hk)); (case aO => exact (rU HO_6.out)); (case aS => exact (below_size (lV3 GE171 GE172 GE173))); (case aL => have := LMc98.out; omega); intro v189 w104 ho hb hg hat; rw [← Ny188.out] at ho; replace BK171 := Aside0.mk (blk_grown (g := gb171) (o := .cells #[.int .i64 a0_0, .slice A0_1 l0_1.length c0_1] 25 (0, 0)) (bV BK171) hg (Kd.R_ne HO_6.out BK171.out (by decide))); replace BK172 := Aside0.mk (blk_grown (g := gb172) (o := .cells #[.int .i64 a1_0, .int .i64 a1_1, .int .i64 a1_2, .int .i64 a1_3] 47 (0, 0)) (bV BK172) hg (Kd.R_away HO_6.out (fun _ hk => hk))); replace BK173 := Aside0.mk (blk_grown (g := gb173) (o := .cells #[.int .i64 0, .slice none 0 0] 25 (0, 0)) (bV BK173) hg (Kd.R_ne HO_6.out BK173.out (by decide))); replace HB := Aside0.mk hb; have HO190 := Aside0.mk ho; clear HO_6; clear ho hb hg hat; have hnb105 := NB171_173.out; have hnc105 := NB173_171.out; have hcz106_0 := cz BK171 0 (.int .i64 a0_0); have hcz106_1 := cz BK171 1 (.slice A0_1 l0_1.length c0_1); have hfz106_0 := fz BK171 0; have hfz106_1 := fz BK171 1; obtain ⟨Ao107, co107, eo107⟩ := Kd.R_slice HO190.out; subst eo107) | ((with_reducible refine gate_dst (N := 10) rfl ?_); refine box_event rfl (N := 10) rfl (cs := #[.int .i64 0, .slice none 0 0]) (t := 25) sE ?_; intro gb191 hg w108 hbox hb; replace HO190 := Aside0.mk (Kd.R_below (rU HO190.out) hb); have BK191 := Aside0.mk hbox; have GW191 := gS w hg (lV3 GE171 GE172 GE173); have GE191 := gS w hg (lV3 GE171 GE172 GE173); replace HB := bH (lV3 GE171 GE172 GE173) hb; have NB171_191 := nL hg (bV BK171); have NB191_171 := nG hg (bV BK171); replace BK171 := bB (bV BK171) hb; have NB172_191 := nL hg (bV BK172); have NB191_172 := nG hg (bV BK172); replace BK172 := bB (bV BK172) hb; have NB173_191 := nL hg (bV BK173); have NB191_173 := nG hg (bV BK173); replace BK173 := bB (bV BK173) hb; clear hb hbox hg; have hnb109 := NB191_171.out; have hnc109 := NB171_191.out; have hnb110 := NB191_172.out; have hnc110 := NB172_191.out; have hnb111 := NB191_173.out; have hnc111 := NB173_191.out; have hcz112_0 := cz BK191 0 (.int .i64 0); have hcz112_1 := cz BK191 1 (.slice none 0 0); have hfz112_0 := fz BK191 0; have hfz112_1 := fz BK191 1) | ((with_reducible refine gate_callee (f := 17) rfl ?_); refine goesL_ (some 56) rfl rfl Try.func17 (by kernel_rfl) rfl #[.agg #[.int .i64 a0_0, .slice Ao107 y188.length co107]] rfl aE ?_; (with_reducible refine (spec_GoodClock.calls k1 a0_0 _ _ y188 true _ ?side1 ?side2 A99.out).mono ?_); (case side1 => refine (Kd.R_reads' (e := 47) (base := w.heap.size) (ok := fun k_ => k_ ≠ gb172) (n := y188.length) (c := co107) ?_).2.2; exact (rU (Kd.R_mono (Kd.R_far (p := ⟨gb191, 1, none⟩) (Kd.R_far (p := ⟨gb191, 0, none⟩) (Kd.R_types HO190.out BK191.out (by decide)) (fun _ hk => hk.2) (.int .i64 a0_0)) (fun _ hk => hk.2) (.slice Ao107 y188.length co107)) (fun _ h_ => h_.1)))); (case side2 => exact (Kd.R_reads' HO190.out).2.1); rintro e w113 ⟨rfl, hb⟩; refine ⟨_, rfl, ?_⟩; replace HO190 := Aside0.mk (Kd.R_below (rU (Kd.R_mono (Kd.R_far (p := ⟨gb191, 1, none⟩) (Kd.R_far (p := ⟨gb191, 0, none⟩) (Kd.R_types HO190.out BK191.out (by decide)) (fun _ hk => hk.2) (.int .i64 a0_0)) (fun _ hk => hk.2) (.slice Ao107 y188.length co107)) (fun _ h_ => h_.1))) hb); replace BK171 := bB (bG NB171_191 BK171) hb; replace BK172 := bB (bG NB172_191 BK172) hb; replace BK173 := bB (bG NB173_191 BK173) hb; replace BK191 := Aside0.mk (blk_below (g := gb191) (o := .cells #[.int .i64 a0_0, .slice Ao107 y188.length co107] 25 (0, 0)) (by refine bU ?_; refine blk_put (cs := #[.int .i64 a0_0, .slice none 0 0]) ?_ 1 _ rfl; refine bU ?_; refine blk_put (cs := #[.int .i64 0, .slice none 0 0]) ?_ 0 _ rfl; refine bU ?_; exact BK191.out) hb); replace HB := bH (lV4 GE171 GE172 GE173 GE191) hb; (try clear hb); have hcz114_0 := cz BK191 0 (.int .i64 a0_0); have hcz114_1 := cz BK191 1 (.slice Ao107 y188.length co107); have hfz114_0 := fz BK191 0; have hfz114_1 := fz BK191 1; have hcz115_0 := cz BK173 0 (.int .i64 0); have hcz115_1 := cz BK173 1 (.slice none 0 0); have hfz115_0 := fz BK173 0; have hfz115_1 := fz BK173 1))
        refine bodyPost_ret (results_ct rfl _ _ gb173 25 #[.int .i64 a0_0, .slice Ao107 y188.length co107] (0, 0) _ rfl (by refine bU ?_; refine blk_put (cs := #[.int .i64 a0_0, .slice none 0 0]) ?_ 1 _ rfl; refine bU ?_; refine blk_put (cs := #[.int .i64 0, .slice none 0 0]) ?_ 0 _ rfl; refine bU ?_; exact BK173.out) Try.underlying25 rfl (by kernel_rfl)) rfl ?_
        exact ⟨_, eE, by (with_reducible repeat (first | apply Kd.R_alloc | apply Kd.R_drewN | apply Kd.R_drew)); exact Kd.R_mono (Kd.R_far (p := ⟨gb173, 1, none⟩) (Kd.R_far (p := ⟨gb173, 0, none⟩) (Kd.R_types HO190.out BK173.out (by decide)) (fun _ hk => hk.2) (.int .i64 a0_0)) (fun _ hk => hk.2) (.slice Ao107 y188.length co107)) (fun _ hk => trivial), lV4 GE171 GE172 GE173 GE191⟩
       ·replace c100 := Bool.eq_false_iff.mpr c100
        subst c100
        have H1 : (some (0, ([] : List (S47)), false)) = some (r1, r2, r3) := by rw [if_neg (show ¬ (false = true) by decide)] at H; exact H
        clear H
        have H := H1
        clear H1
        simp only [Option.some.injEq, Prod.mk.injEq] at H
        obtain ⟨rfl, rfl, rfl⟩ := H
        have hnb116 := NB172_171.out
        have hnc116 := NB171_172.out
        have hnb117 := NB172_173.out
        have hnc117 := NB173_172.out
        have hcz118_0 := cz BK172 0 (.int .i64 a1_0)
        have hcz118_1 := cz BK172 1 (.int .i64 a1_1)
        have hcz118_2 := cz BK172 2 (.int .i64 a1_2)
        have hcz118_3 := cz BK172 3 (.int .i64 a1_3)
        have hfz118_0 := fz BK172 0
        have hfz118_1 := fz BK172 1
        have hfz118_2 := fz BK172 2
        have hfz118_3 := fz BK172 3
        go_wp2_with (first | ((with_reducible refine gate_builtin (b := .append) (xs := #[.tmp 47, .tmp 49]) rfl ?_); at_builtin; refine Kd.R_append k47 (w0 := w) w.heap.size rfl (.tmp 47) (.tmp 49) 23 47 (.agg #[(.int .i64 0), (.int .i64 0), (.int .i64 0), (.int .i64 0)]) 32 rfl Try.underlying23 info47 rfl (by decide) (by omega) u6 x6_1 (⟨a1_0, a1_1, a1_2, a1_3⟩ : S47) [.int .i64 a1_0, .int .i64 a1_1, .int .i64 a1_2, .int .i64 a1_3] (fun k_ => k_ ≠ gb172) (fun _ => False) rfl rfl ?aP (fun _ hk => hk.elim) ?aF ?aO ?aB ?aS ?aL ?_; (case aP => exact k47_mkM _ _ _ (⟨a1_0, a1_1, a1_2, a1_3⟩ : S47)); (case aB => exact (lV3 GE171 GE172 GE173)); (case aF => exact (fun k_ hk => Kd.freshB (g := gb172) (o := .cells #[.int .i64 a1_0, .int .i64 a1_1, .int .i64 a1_2, .int .i64 a1_3] 47 (0, 0)) (bV BK172) k_ hk)); (case aO => exact (rU HO_6.out)); (case aS => exact (below_size (lV3 GE171 GE172 GE173))); (case aL => have := LMc98.out; omega); intro v189 w119 ho hb hg hat; rw [← Ny188.out] at ho; replace BK171 := Aside0.mk (blk_grown (g := gb171) (o := .cells #[.int .i64 a0_0, .slice A0_1 l0_1.length c0_1] 25 (0, 0)) (bV BK171) hg (Kd.R_ne HO_6.out BK171.out (by decide))); replace BK172 := Aside0.mk (blk_grown (g := gb172) (o := .cells #[.int .i64 a1_0, .int .i64 a1_1, .int .i64 a1_2, .int .i64 a1_3] 47 (0, 0)) (bV BK172) hg (Kd.R_away HO_6.out (fun _ hk => hk))); replace BK173 := Aside0.mk (blk_grown (g := gb173) (o := .cells #[.int .i64 0, .slice none 0 0] 25 (0, 0)) (bV BK173) hg (Kd.R_ne HO_6.out BK173.out (by decide))); replace HB := Aside0.mk hb; have HO190 := Aside0.mk ho; clear HO_6; clear ho hb hg hat; have hnb120 := NB171_173.out; have hnc120 := NB173_171.out; have hcz121_0 := cz BK171 0 (.int .i64 a0_0); have hcz121_1 := cz BK171 1 (.slice A0_1 l0_1.length c0_1); have hfz121_0 := fz BK171 0; have hfz121_1 := fz BK171 1; obtain ⟨Ao122, co122, eo122⟩ := Kd.R_slice HO190.out; subst eo122) | ((with_reducible refine gate_dst (N := 10) rfl ?_); refine box_event rfl (N := 10) rfl (cs := #[.int .i64 0, .slice none 0 0]) (t := 25) sE ?_; intro gb191 hg w123 hbox hb; replace HO190 := Aside0.mk (Kd.R_below (rU HO190.out) hb); have BK191 := Aside0.mk hbox; have GW191 := gS w hg (lV3 GE171 GE172 GE173); have GE191 := gS w hg (lV3 GE171 GE172 GE173); replace HB := bH (lV3 GE171 GE172 GE173) hb; have NB171_191 := nL hg (bV BK171); have NB191_171 := nG hg (bV BK171); replace BK171 := bB (bV BK171) hb; have NB172_191 := nL hg (bV BK172); have NB191_172 := nG hg (bV BK172); replace BK172 := bB (bV BK172) hb; have NB173_191 := nL hg (bV BK173); have NB191_173 := nG hg (bV BK173); replace BK173 := bB (bV BK173) hb; clear hb hbox hg; have hnb124 := NB191_171.out; have hnc124 := NB171_191.out; have hnb125 := NB191_172.out; have hnc125 := NB172_191.out; have hnb126 := NB191_173.out; have hnc126 := NB173_191.out; have hcz127_0 := cz BK191 0 (.int .i64 0); have hcz127_1 := cz BK191 1 (.slice none 0 0); have hfz127_0 := fz BK191 0; have hfz127_1 := fz BK191 1) | ((with_reducible refine gate_callee (f := 17) rfl ?_); refine goesL_ (some 56) rfl rfl Try.func17 (by kernel_rfl) rfl #[.agg #[.int .i64 a0_0, .slice Ao122 y188.length co122]] rfl aE ?_; (with_reducible refine (spec_GoodClock.calls k1 a0_0 _ _ y188 false _ ?side1 ?side2 A99.out).mono ?_); (case side1 => refine (Kd.R_reads' (e := 47) (base := w.heap.size) (ok := fun k_ => k_ ≠ gb172) (n := y188.length) (c := co122) ?_).2.2; exact (rU (Kd.R_mono (Kd.R_far (p := ⟨gb191, 1, none⟩) (Kd.R_far (p := ⟨gb191, 0, none⟩) (Kd.R_types HO190.out BK191.out (by decide)) (fun _ hk => hk.2) (.int .i64 a0_0)) (fun _ hk => hk.2) (.slice Ao122 y188.length co122)) (fun _ h_ => h_.1)))); (case side2 => exact (Kd.R_reads' HO190.out).2.1); rintro e w128 ⟨rfl, hb⟩; refine ⟨_, rfl, ?_⟩; replace HO190 := Aside0.mk (Kd.R_below (rU (Kd.R_mono (Kd.R_far (p := ⟨gb191, 1, none⟩) (Kd.R_far (p := ⟨gb191, 0, none⟩) (Kd.R_types HO190.out BK191.out (by decide)) (fun _ hk => hk.2) (.int .i64 a0_0)) (fun _ hk => hk.2) (.slice Ao122 y188.length co122)) (fun _ h_ => h_.1))) hb); replace BK171 := bB (bG NB171_191 BK171) hb; replace BK172 := bB (bG NB172_191 BK172) hb; replace BK173 := bB (bG NB173_191 BK173) hb; replace BK191 := Aside0.mk (blk_below (g := gb191) (o := .cells #[.int .i64 a0_0, .slice Ao122 y188.length co122] 25 (0, 0)) (by refine bU ?_; refine blk_put (cs := #[.int .i64 a0_0, .slice none 0 0]) ?_ 1 _ rfl; refine bU ?_; refine blk_put (cs := #[.int .i64 0, .slice none 0 0]) ?_ 0 _ rfl; refine bU ?_; exact BK191.out) hb); replace HB := bH (lV4 GE171 GE172 GE173 GE191) hb; (try clear hb); have hcz129_0 := cz BK173 0 (.int .i64 0); have hcz129_1 := cz BK173 1 (.slice none 0 0); have hfz129_0 := fz BK173 0; have hfz129_1 := fz BK173 1))
        refine bodyPost_ret (results_ct rfl _ _ gb173 25 #[.int .i64 0, .slice none 0 0] (0, 0) _ rfl (by refine bU ?_; refine blk_put (cs := #[.int .i64 0, .slice none 0 0]) ?_ 1 _ rfl; refine bU ?_; refine blk_put (cs := #[.int .i64 0, .slice none 0 0]) ?_ 0 _ rfl; refine bU ?_; exact BK173.out) Try.underlying25 rfl (by kernel_rfl)) rfl ?_
        exact ⟨_, eE, by first | exact Kd.R_nil _ _ _ _ _ | exact Kd.N_nil _ _ _ _ _ | exact Kd.V_nil _ _ _ _ _ | exact Kd.Q_nil _ _ _ _ _ | exact Kd.S_nil _ _ _ _ _, lV4 GE171 GE172 GE173 GE191⟩
      ·rw [if_neg c98] at H
       exact absurd H (by simp)
 ·replace c4 := Bool.eq_false_iff.mpr c4
  subst c4
  have H1 : (some (0, ([] : List (S47)), false)) = some (r1, r2, r3) := by rw [if_neg (show ¬ (false = true) by decide)] at H; exact H
  clear H
  have H := H1
  clear H1
  simp only [Option.some.injEq, Prod.mk.injEq] at H
  obtain ⟨rfl, rfl, rfl⟩ := H
  go_enter Try.func20, Try.ntmps20
  go_wp2_with (first | ((with_reducible refine gate_dst (N := 2) rfl ?_); refine box_event rfl (N := 2) rfl (cs := #[.int .i64 a0_0, .slice A0_1 l0_1.length c0_1]) (t := 25) sE ?_; intro gb171 hg w130 hbox hb; have BK171 := Aside0.mk hbox; have GW171 := gS w hg (lU); have GE171 := gS w hg (lU); replace HB := bH (lU) hb; clear hb hbox hg) | ((with_reducible refine gate_dst (N := 3) rfl ?_); refine box_event rfl (N := 3) rfl (cs := #[.int .i64 a1_0, .int .i64 a1_1, .int .i64 a1_2, .int .i64 a1_3]) (t := 47) sE ?_; intro gb172 hg w131 hbox hb; have BK172 := Aside0.mk hbox; have GW172 := gS w hg (lV1 GE171); have GE172 := gS w hg (lV1 GE171); replace HB := bH (lV1 GE171) hb; have NB171_172 := nL hg (bV BK171); have NB172_171 := nG hg (bV BK171); replace BK171 := bB (bV BK171) hb; clear hb hbox hg) | ((with_reducible refine gate_dst (N := 4) rfl ?_); refine box_event rfl (N := 4) rfl (cs := #[.int .i64 0, .slice none 0 0]) (t := 25) sE ?_; intro gb173 hg w132 hbox hb; have BK173 := Aside0.mk hbox; have GW173 := gS w hg (lV2 GE171 GE172); have GE173 := gS w hg (lV2 GE171 GE172); replace HB := bH (lV2 GE171 GE172) hb; have NB171_173 := nL hg (bV BK171); have NB173_171 := nG hg (bV BK171); replace BK171 := bB (bV BK171) hb; have NB172_173 := nL hg (bV BK172); have NB173_172 := nG hg (bV BK172); replace BK172 := bB (bV BK172) hb; clear hb hbox hg; have hnb133 := NB171_172.out; have hnc133 := NB172_171.out; have hnb134 := NB171_173.out; have hnc134 := NB173_171.out; have hcz135_0 := cz BK171 0 (.int .i64 a0_0); have hcz135_1 := cz BK171 1 (.slice A0_1 l0_1.length c0_1); have hfz135_0 := fz BK171 0; have hfz135_1 := fz BK171 1) | ((with_reducible refine gate_callee (f := 17) rfl ?_); refine goesL_ (some 12) rfl rfl Try.func17 (by kernel_rfl) rfl #[.agg #[.int .i64 a0_0, .slice A0_1 l0_1.length c0_1]] rfl aE ?_; (with_reducible refine (spec_GoodClock.calls k a0_0 _ _ l0_1 false _ ?side1 ?side2 A3.out).mono ?_); (case side1 => exact cU (Kd.C_below HR0_1.out HB.out)); (case side2 => exact HC0_1.out); rintro e w136 ⟨rfl, hb⟩; refine ⟨_, rfl, ?_⟩; replace BK171 := bB (bV BK171) hb; replace BK172 := bB (bV BK172) hb; replace BK173 := bB (bV BK173) hb; replace HB := bH (lV3 GE171 GE172 GE173) hb; (try clear hb); have hnb137 := NB173_172.out; have hnc137 := NB172_173.out; have hcz138_0 := cz BK173 0 (.int .i64 0); have hcz138_1 := cz BK173 1 (.slice none 0 0); have hfz138_0 := fz BK173 0; have hfz138_1 := fz BK173 1))
  refine bodyPost_ret (results_ct rfl _ _ gb173 25 #[.int .i64 0, .slice none 0 0] (0, 0) _ rfl (by refine bU ?_; refine blk_put (cs := #[.int .i64 0, .slice none 0 0]) ?_ 1 _ rfl; refine bU ?_; refine blk_put (cs := #[.int .i64 0, .slice none 0 0]) ?_ 0 _ rfl; refine bU ?_; exact BK173.out) Try.underlying25 rfl (by kernel_rfl)) rfl ?_
  exact ⟨_, eE, by first | exact Kd.R_nil _ _ _ _ _ | exact Kd.N_nil _ _ _ _ _ | exact Kd.V_nil _ _ _ _ _ | exact Kd.Q_nil _ _ _ _ _ | exact Kd.S_nil _ _ _ _ _, lV3 GE171 GE172 GE173⟩
end Go.Proofs.Ythacmchmppnldaa.PFnPieces
namespace Go.Proofs.Ythacmchmppnldaa.PFnPieces
open Go.RowKit Go.Proofs.YthacmchmppnldaaW.PrintWords Go.Proofs.YthacmchmppnldaaW.PrintLast Go.Proofs.YthacmchmppnldaaW.PrintMore
attribute [local go_sem] max2_int min2_int max_two min_two max_three min_three max_four min_four   -- for this text's walks alone
set_option linter.unusedVariables false
set_option linter.unusedSimpArgs false
mutual
def spec_l1Cur_clock.j0 : Nat → Int → List Int → Int → Int → Int → Option (Int × (List (S47)) × Int × Int)
 | 0, _, _, _, _, _ => none
 | k + 1, x4, x1000, x1001, x1002, x198000 => spec_l1Cur_clock.l0 k x4 x1000 x1001 x1002 x198000 ([] : List (S47))
def spec_l1Cur_clock.l0 : Nat → Int → List Int → Int → Int → Int → List (S47) → Option (Int × (List (S47)) × Int × Int)
 | 0, _, _, _, _, _, _ => none
 | k + 1, x4, x1000, x1001, x1002, x198000, x198001 => if x4 > 0 then ((spec_l1Cur_timer.f k x1000 x1001 x1002 x198000).bind fun bt204 => ((spec_l1Cur_one.f x1000 bt204.2.2.2.2.1 bt204.2.2.2.2.2 3).bind fun bt211 => (if bt211.1 = true then ((spec_l1Cur_pick.f x1000 bt211.2.1 bt211.2.2 1000).bind fun bt214 => ((spec_AddTimer.f k x198000 x198001 bt214.1 bt204.2.1 bt204.2.2.1 bt204.2.2.2.1).bind fun bt217 => (if bt217.2.2 = true then (spec_l1Cur_clock.l0 k (wrap64 (x4 - 1)) x1000 bt214.2.1 bt214.2.2 bt217.1 bt217.2.1) else (spec_l1Cur_clock.l0 k (wrap64 (x4 - 1)) x1000 bt214.2.1 bt214.2.2 x198000 x198001)))) else ((spec_AddTimer.f k x198000 x198001 bt204.1 bt204.2.1 bt204.2.2.1 bt204.2.2.2.1).bind fun bt223 => (if bt223.2.2 = true then (spec_l1Cur_clock.l0 k (wrap64 (x4 - 1)) x1000 bt211.2.1 bt211.2.2 bt223.1 bt223.2.1) else (spec_l1Cur_clock.l0 k (wrap64 (x4 - 1)) x1000 bt211.2.1 bt211.2.2 x198000 x198001)))))) else ((spec_l1Cur_one.f x1000 x1001 x1002 30).bind fun bt229 => (if bt229.1 = true then ((spec_l1Cur_timer.f k x1000 bt229.2.1 bt229.2.2 x198000).bind fun bt232 => (if x198001.length < 4398046511104 then (spec_l1Cur_clock.j2 k x1000 bt232.2.2.2.2.1 bt232.2.2.2.2.2 x198000 (x198001 ++ [(⟨bt232.1, bt232.2.1, bt232.2.2.1, bt232.2.2.2.1⟩ : S47)])) else (none))) else (spec_l1Cur_clock.j2 k x1000 bt229.2.1 bt229.2.2 x198000 x198001)))
def spec_l1Cur_clock.j2 : Nat → List Int → Int → Int → Int → List (S47) → Option (Int × (List (S47)) × Int × Int)
 | 0, _, _, _, _, _ => none
 | k + 1, x1000, x1001, x1002, x198000, x198001 => (spec_l1Cur_one.f x1000 x1001 x1002 40).bind fun bt241 => (if bt241.1 = true then ((spec_l1Cur_among.f x1000 bt241.2.1 bt241.2.2 (([(-1), 100000, 100001] : List Int))).bind fun bt247 => (some (bt247.1, x198001, bt247.2.1, bt247.2.2))) else (some (x198000, x198001, bt241.2.1, bt241.2.2)))
end
def spec_l1Cur_clock.f (k : Nat) (s0_0 : List Int) (s0_1 : Int) (s0_2 : Int) : Option (Int × (List (S47)) × Int × Int) := (spec_l1Cur_pick.f s0_0 s0_1 s0_2 20).bind fun bt194 => ((spec_l1Cur_pick.f s0_0 bt194.2.1 bt194.2.2 6).bind fun bt198 => ((spec_l1Cur_one.f s0_0 bt198.2.1 bt198.2.2 20).bind fun bt201 => (if bt201.1 = true then (spec_l1Cur_clock.j0 k 30 s0_0 bt201.2.1 bt201.2.2 bt194.1) else (spec_l1Cur_clock.j0 k bt198.1 s0_0 bt201.2.1 bt201.2.2 bt194.1))))
theorem spec_l1Cur_clock.mono_l : ∀ k, (∀ y0 y1 y2 y3 y4, LeO (spec_l1Cur_clock.j0 k y0 y1 y2 y3 y4) (spec_l1Cur_clock.j0 (k + 1) y0 y1 y2 y3 y4)) ∧ (∀ y0 y1 y2 y3 y4 y5, LeO (spec_l1Cur_clock.l0 k y0 y1 y2 y3 y4 y5) (spec_l1Cur_clock.l0 (k + 1) y0 y1 y2 y3 y4 y5)) ∧ (∀ y0 y1 y2 y3 y4, LeO (spec_l1Cur_clock.j2 k y0 y1 y2 y3 y4) (spec_l1Cur_clock.j2 (k + 1) y0 y1 y2 y3 y4))
 | 0 => ⟨fun _ _ _ _ _ r h => by simp [spec_l1Cur_clock.j0] at h, fun _ _ _ _ _ _ r h => by simp [spec_l1Cur_clock.l0] at h, fun _ _ _ _ _ r h => by simp [spec_l1Cur_clock.j2] at h⟩
 | k + 1 => by
  obtain ⟨ih0, ih1, ih2⟩ := spec_l1Cur_clock.mono_l k
  refine ⟨?_, ?_, ?_⟩
  ·intro y0 y1 y2 y3 y4
   unfold spec_l1Cur_clock.j0
   repeat' first
   | (with_reducible exact ih0 _ _ _ _ _)
   | (with_reducible exact ih1 _ _ _ _ _ _)
   | (with_reducible exact ih2 _ _ _ _ _)
   | (with_reducible exact spec_AddTimer.mono _ _ _ _ _ _ _)
   | (with_reducible exact spec_l1Cur_timer.mono _ _ _ _ _)
   | (with_reducible first | exact LeO.refl _ | exact LeO.none _ | refine LeO.ite ?_ ?_ | refine LeO.bind ?_ (fun _ => ?_))
   | exact ih0 _ _ _ _ _
   | exact ih1 _ _ _ _ _ _
   | exact ih2 _ _ _ _ _
   | exact spec_AddTimer.mono _ _ _ _ _ _ _
   | exact spec_l1Cur_timer.mono _ _ _ _ _ | exact LeO.none _ | refine LeO.ite ?_ ?_ | refine LeO.bind ?_ (fun _ => ?_)
  ·intro y0 y1 y2 y3 y4 y5
   unfold spec_l1Cur_clock.l0
   repeat' first
   | (with_reducible exact ih0 _ _ _ _ _)
   | (with_reducible exact ih1 _ _ _ _ _ _)
   | (with_reducible exact ih2 _ _ _ _ _)
   | (with_reducible exact spec_AddTimer.mono _ _ _ _ _ _ _)
   | (with_reducible exact spec_l1Cur_timer.mono _ _ _ _ _)
   | (with_reducible first | exact LeO.refl _ | exact LeO.none _ | refine LeO.ite ?_ ?_ | refine LeO.bind ?_ (fun _ => ?_))
   | exact ih0 _ _ _ _ _
   | exact ih1 _ _ _ _ _ _
   | exact ih2 _ _ _ _ _
   | exact spec_AddTimer.mono _ _ _ _ _ _ _
   | exact spec_l1Cur_timer.mono _ _ _ _ _ | exact LeO.none _ | refine LeO.ite ?_ ?_ | refine LeO.bind ?_ (fun _ => ?_)
  ·intro y0 y1 y2 y3 y4
   unfold spec_l1Cur_clock.j2
   repeat' first
   | (with_reducible exact ih0 _ _ _ _ _)
   | (with_reducible exact ih1 _ _ _ _ _ _)
   | (with_reducible exact ih2 _ _ _ _ _)
   | (with_reducible exact spec_AddTimer.mono _ _ _ _ _ _ _)
   | (with_reducible exact spec_l1Cur_timer.mono _ _ _ _ _)
   | (with_reducible first | exact LeO.refl _ | exact LeO.none _ | refine LeO.ite ?_ ?_ | refine LeO.bind ?_ (fun _ => ?_))
   | exact ih0 _ _ _ _ _
   | exact ih1 _ _ _ _ _ _
   | exact ih2 _ _ _ _ _
   | exact spec_AddTimer.mono _ _ _ _ _ _ _
   | exact spec_l1Cur_timer.mono _ _ _ _ _ | exact LeO.none _ | refine LeO.ite ?_ ?_ | refine LeO.bind ?_ (fun _ => ?_)
theorem spec_l1Cur_clock.mono : ∀ a0 a1 a2 k, LeO (spec_l1Cur_clock.f k a0 a1 a2) (spec_l1Cur_clock.f (k + 1) a0 a1 a2) := by
 intro a0 a1 a2 k
 obtain ⟨ih0, ih1, ih2⟩ := spec_l1Cur_clock.mono_l k
 unfold spec_l1Cur_clock.f
 repeat' first
   | (with_reducible exact ih0 _ _ _ _ _)
   | (with_reducible exact ih1 _ _ _ _ _ _)
   | (with_reducible exact ih2 _ _ _ _ _)
   | (with_reducible exact spec_AddTimer.mono _ _ _ _ _ _ _)
   | (with_reducible exact spec_l1Cur_timer.mono _ _ _ _ _)
   | (with_reducible first | exact LeO.refl _ | exact LeO.none _ | refine LeO.ite ?_ ?_ | refine LeO.bind ?_ (fun _ => ?_))
   | exact ih0 _ _ _ _ _
   | exact ih1 _ _ _ _ _ _
   | exact ih2 _ _ _ _ _
   | exact spec_AddTimer.mono _ _ _ _ _ _ _
   | exact spec_l1Cur_timer.mono _ _ _ _ _ | exact LeO.none _ | refine LeO.ite ?_ ?_ | refine LeO.bind ?_ (fun _ => ?_)
def spec_l1Cur_clock.T14 : Bool × List (List Nat × List Nat) := (true, [([], []), ([0], [0]), ([], []), ([], []), ([3], [3]), ([2, 4], [2, 4]), ([5], [5]), ([1, 6, 5], [1, 6]), ([0, 1, 2, 3, 4, 5, 6, 7], []), ([8, 7, 7, 0, 1, 2, 3, 4, 5, 6, 7], [7, 8])])
def spec_l1Cur_clock.B14 : List Nat := [0, 1, 0, 0, 8, 28, 60, 127, 255, 511]
theorem spec_l1Cur_clock.tab14 : rtab .any (opsOf Try.f9 14) = spec_l1Cur_clock.T14 := by kernel_rfl
theorem spec_l1Cur_clock.bits14 : waitsOk spec_l1Cur_clock.T14.2 spec_l1Cur_clock.B14 = true := by kernel_rfl
set_option maxHeartbeats 8000000 in
set_option maxRecDepth 100000 in
theorem spec_l1Cur_clock.calls (k : Nat) (g : Nat) (s0_0 : List Int) (s0_1 : Int) (s0_2 : Int) (r1 : Int) (r2 : List (S47)) (r3 : Int) (r4 : Int) (w0 w : World) (hI : IsS37 w0 w g s0_0 s0_1 s0_2) (hB : Below w0.heap.size w0 w) (h : spec_l1Cur_clock.f k s0_0 s0_1 s0_2 = some (r1, r2, r3, r4)) :
  Calls Try.prog 9 #[.pointer (some ⟨g, 0, none⟩)] w fun e w' => ∃ v1_ : Value, e = .returned (.agg #[.int .i64 r1, v1_]) ∧ Kd.R k47 47 w' w.heap.size (fun _ => True) v1_ r2 ∧ IsS37 w0 w' g s0_0 r3 r4 ∧ Below w0.heap.size w0 w' ∧ KeepBut w w' g none := by
 have hu25 := Try.underlying25
 have hu47 := Try.underlying47
 have HI0 := Aside0.mk hI
 have HK := Aside0.mk (KeepBut.refl w g none)
 have HL := Aside0.mk hB.size
 clear hI
 have HW0 := Aside0.mk hB.size
 have HB := Aside0.mk hB
 clear hB
 have H : ((spec_l1Cur_pick.f s0_0 s0_1 s0_2 20).bind fun bt194 => ((spec_l1Cur_pick.f s0_0 bt194.2.1 bt194.2.2 6).bind fun bt198 => ((spec_l1Cur_one.f s0_0 bt198.2.1 bt198.2.2 20).bind fun bt201 => (if bt201.1 = true then (spec_l1Cur_clock.j0 k 30 s0_0 bt201.2.1 bt201.2.2 bt194.1) else (spec_l1Cur_clock.j0 k bt198.1 s0_0 bt201.2.1 bt201.2.2 bt194.1))))) = some (r1, r2, r3, r4) := h
 clear h
 replace H := Option.bind_eq_some_iff.mp H
 obtain ⟨⟨t194, t195, t196⟩, A20, H⟩ := H
 replace H : ((spec_l1Cur_pick.f s0_0 t195 t196 6).bind fun bt198 => ((spec_l1Cur_one.f s0_0 bt198.2.1 bt198.2.2 20).bind fun bt201 => (if bt201.1 = true then (spec_l1Cur_clock.j0 k 30 s0_0 bt201.2.1 bt201.2.2 t194) else (spec_l1Cur_clock.j0 k bt198.1 s0_0 bt201.2.1 bt201.2.2 t194)))) = some (r1, r2, r3, r4) := H
 have A2 := Aside0.mk A20
 clear A20
 replace H := Option.bind_eq_some_iff.mp H
 obtain ⟨⟨t198, t199, t200⟩, A30, H⟩ := H
 replace H : ((spec_l1Cur_one.f s0_0 t199 t200 20).bind fun bt201 => (if bt201.1 = true then (spec_l1Cur_clock.j0 k 30 s0_0 bt201.2.1 bt201.2.2 t194) else (spec_l1Cur_clock.j0 k t198 s0_0 bt201.2.1 bt201.2.2 t194))) = some (r1, r2, r3, r4) := H
 have A3 := Aside0.mk A30
 clear A30
 replace H := Option.bind_eq_some_iff.mp H
 obtain ⟨⟨t201, t202, t203⟩, A40, H⟩ := H
 replace H : (if t201 = true then (spec_l1Cur_clock.j0 k 30 s0_0 t202 t203 t194) else (spec_l1Cur_clock.j0 k t198 s0_0 t202 t203 t194)) = some (r1, r2, r3, r4) := H
 have A4 := Aside0.mk A40
 clear A40
 have HC5 := Aside0.mk H
 clear H
 go_enter Try.func9, Try.ntmps9
 go_upto_if 14 with (first | ((with_reducible refine gate_dst (N := 2) rfl ?_); refine box_event rfl (N := 2) rfl (cs := #[.int .i64 0, .slice none 0 0]) (t := 25) sE ?_; intro gb193 hg w6 hbox hb; replace HB := Aside0.mk (below_step (by repeat (first | (with_reducible first | exact HB.out | apply below_alloc | apply pw_below_drewN | apply below_drew1 | refine below_set ?_ (IsS37.ge HI0.out)) | exact HB.out)) hb); have BK193 := Aside0.mk hbox; have GW193 := Aside0.mk ((by rw [hg]; exact (keep_size (w := w) (g := g) (row := none) (by repeat (first | (with_reducible first | exact HK.out | apply KeepBut.set_ | apply keep_drewN | apply keep_drew | apply keep_alloc) | exact HK.out))) : w.heap.size ≤ gb193)); have GE193 := Aside0.mk ((Nat.le_trans HW0.out (by rw [hg]; exact (keep_size (w := w) (g := g) (row := none) (by repeat (first | (with_reducible first | exact HK.out | apply KeepBut.set_ | apply keep_drewN | apply keep_drew | apply keep_alloc) | exact HK.out))) : w.heap.size ≤ gb193) : w0.heap.size ≤ gb193)); replace HK := Aside0.mk (KeepBut.trans (by repeat (first | (with_reducible first | exact HK.out | apply KeepBut.set_ | apply keep_drewN | apply keep_drew | apply keep_alloc) | exact HK.out)) (KeepBut.of_below hb g none) (.inl rfl)); have NB0_193 := Aside0.mk ((by rw [hg]; exact Nat.ne_of_lt (IsS37.lt (show IsS37 w0 _ g s0_0 s0_1 s0_2 from by repeat (first | (with_reducible first | exact HI0.out | apply IsS37.alloc | apply IsS37.drewN | apply IsS37.drew | apply IsS37.set_1 | apply IsS37.set_2) | exact HI0.out))) : g ≠ gb193)); have NB193_0 := Aside0.mk ((by rw [hg]; exact Nat.ne_of_gt (IsS37.lt (show IsS37 w0 _ g s0_0 s0_1 s0_2 from by repeat (first | (with_reducible first | exact HI0.out | apply IsS37.alloc | apply IsS37.drewN | apply IsS37.drew | apply IsS37.set_1 | apply IsS37.set_2) | exact HI0.out))) : gb193 ≠ g)); replace HI0 := Aside0.mk (IsS37.below (by repeat (first | (with_reducible first | exact HI0.out | apply IsS37.alloc | apply IsS37.drewN | apply IsS37.drew | apply IsS37.set_1 | apply IsS37.set_2) | exact HI0.out)) hb); clear hb hbox hg) | ((with_reducible refine gate_callee (f := 10) rfl ?_); refine goesL_ (some 9) rfl rfl Try.func10 (by kernel_rfl) rfl #[.pointer (some ⟨g, 0, none⟩), .int .i64 20] rfl aE ?_; (with_reducible refine (spec_l1Cur_pick.calls g s0_0 s0_1 s0_2 20 t194 t195 t196 w0 _ ?side1 ?side2 A2.out).mono ?_); (case side1 => repeat (first | (with_reducible first | exact HI0.out | apply IsS37.alloc | apply IsS37.drewN | apply IsS37.drew | apply IsS37.set_1 | apply IsS37.set_2 | refine IsS37.far ?_ NB0_193.out _) | exact HI0.out)); (case side2 => repeat (first | (with_reducible first | exact HB.out | apply below_alloc | apply pw_below_drewN | apply below_drew1 | refine below_set ?_ (IsS37.ge HI0.out) | refine below_set ?_ GE193.out) | exact HB.out)); rintro e w7 ⟨rfl, hi, hb, hk⟩; refine ⟨_, rfl, ?_⟩; replace BK193 := Aside0.mk (KeepBut.blk hk (g' := gb193) (o := .cells #[.int .i64 0, .slice none 0 0] 25 (0, 0)) (bV BK193) NB193_0.out (by simp)); replace HK := Aside0.mk (KeepBut.trans (by repeat (first | (with_reducible first | exact HK.out | apply KeepBut.set_ | apply keep_drewN | apply keep_drew | apply keep_alloc | refine keep_far ?_ GW193.out _) | exact HK.out)) hk (.inl rfl)); replace HB := Aside0.mk hb; replace HI0 := Aside0.mk hi; (try clear hb); (try clear hk); (try clear hi)) | ((with_reducible refine gate_dst (N := 3) rfl ?_); refine box_event rfl (N := 3) rfl (cs := #[.int .i64 0, .slice none 0 0]) (t := 25) sE ?_; intro gb197 hg w8 hbox hb; replace HB := Aside0.mk (below_step (by repeat (first | (with_reducible first | exact HB.out | apply below_alloc | apply pw_below_drewN | apply below_drew1 | refine below_set ?_ (IsS37.ge HI0.out) | refine below_set ?_ GE193.out) | exact HB.out)) hb); have BK197 := Aside0.mk hbox; have GW197 := Aside0.mk ((by rw [hg]; exact (keep_size (w := w) (g := g) (row := none) (by repeat (first | (with_reducible first | exact HK.out | apply KeepBut.set_ | apply keep_drewN | apply keep_drew | apply keep_alloc | refine keep_far ?_ GW193.out _) | exact HK.out))) : w.heap.size ≤ gb197)); have GE197 := Aside0.mk ((Nat.le_trans HW0.out (by rw [hg]; exact (keep_size (w := w) (g := g) (row := none) (by repeat (first | (with_reducible first | exact HK.out | apply KeepBut.set_ | apply keep_drewN | apply keep_drew | apply keep_alloc | refine keep_far ?_ GW193.out _) | exact HK.out))) : w.heap.size ≤ gb197) : w0.heap.size ≤ gb197)); replace HK := Aside0.mk (KeepBut.trans (by repeat (first | (with_reducible first | exact HK.out | apply KeepBut.set_ | apply keep_drewN | apply keep_drew | apply keep_alloc | refine keep_far ?_ GW193.out _) | exact HK.out)) (KeepBut.of_below hb g none) (.inl rfl)); have NB193_197 := nL hg (bV BK193); have NB197_193 := nG hg (bV BK193); replace BK193 := bB (bV BK193) hb; have NB0_197 := Aside0.mk ((by rw [hg]; exact Nat.ne_of_lt (IsS37.lt (show IsS37 w0 _ g s0_0 t195 t196 from by repeat (first | (with_reducible first | exact HI0.out | apply IsS37.alloc | apply IsS37.drewN | apply IsS37.drew | apply IsS37.set_1 | apply IsS37.set_2 | refine IsS37.far ?_ NB0_193.out _) | exact HI0.out))) : g ≠ gb197)); have NB197_0 := Aside0.mk ((by rw [hg]; exact Nat.ne_of_gt (IsS37.lt (show IsS37 w0 _ g s0_0 t195 t196 from by repeat (first | (with_reducible first | exact HI0.out | apply IsS37.alloc | apply IsS37.drewN | apply IsS37.drew | apply IsS37.set_1 | apply IsS37.set_2 | refine IsS37.far ?_ NB0_193.out _) | exact HI0.out))) : gb197 ≠ g)); replace HI0 := Aside0.mk (IsS37.below (by repeat (first | (with_reducible first | exact HI0.out | apply IsS37.alloc | apply IsS37.drewN | apply IsS37.drew | apply IsS37.set_1 | apply IsS37.set_2 | refine IsS37.far ?_ NB0_193.out _) | exact HI0.out)) hb); clear hb hbox hg; have hnb9 := NB197_193.out; have hnc9 := NB193_197.out; have hnb10 := NB197_0.out; have hnc10 := NB0_197.out; have hcz11_0 := cz BK197 0 (.int .i64 0); have hcz11_1 := cz BK197 1 (.slice none 0 0); have hfz11_0 := fz BK197 0; have hfz11_1 := fz BK197 1) | ((with_reducible refine gate_callee (f := 10) rfl ?_); refine goesL_ (some 12) rfl rfl Try.func10 (by kernel_rfl) rfl #[.pointer (some ⟨g, 0, none⟩), .int .i64 6] rfl aE ?_; (with_reducible refine (spec_l1Cur_pick.calls g s0_0 t195 t196 6 t198 t199 t200 w0 _ ?side1 ?side2 A3.out).mono ?_); (case side1 => repeat (first | (with_reducible first | exact HI0.out | apply IsS37.alloc | apply IsS37.drewN | apply IsS37.drew | apply IsS37.set_1 | apply IsS37.set_2 | refine IsS37.far ?_ NB0_193.out _ | refine IsS37.far ?_ NB0_197.out _) | exact HI0.out)); (case side2 => repeat (first | (with_reducible first | exact HB.out | apply below_alloc | apply pw_below_drewN | apply below_drew1 | refine below_set ?_ (IsS37.ge HI0.out) | refine below_set ?_ GE193.out | refine below_set ?_ GE197.out) | exact HB.out)); rintro e w12 ⟨rfl, hi, hb, hk⟩; refine ⟨_, rfl, ?_⟩; replace BK193 := Aside0.mk (KeepBut.blk hk (g' := gb193) (o := .cells #[.int .i64 0, .slice none 0 0] 25 (0, 0)) (bG NB193_197 BK193) NB193_0.out (by simp)); replace BK197 := Aside0.mk (KeepBut.blk hk (g' := gb197) (o := .cells #[.int .i64 t194, .slice none 0 0] 25 (0, 0)) (by refine bU ?_; refine blk_put (cs := #[.int .i64 t194, .slice none 0 0]) ?_ 1 _ rfl; refine bU ?_; refine blk_put (cs := #[.int .i64 0, .slice none 0 0]) ?_ 0 _ rfl; refine bU ?_; exact BK197.out) NB197_0.out (by simp)); replace HK := Aside0.mk (KeepBut.trans (by repeat (first | (with_reducible first | exact HK.out | apply KeepBut.set_ | apply keep_drewN | apply keep_drew | apply keep_alloc | refine keep_far ?_ GW193.out _ | refine keep_far ?_ GW197.out _) | exact HK.out)) hk (.inl rfl)); replace HB := Aside0.mk hb; replace HI0 := Aside0.mk hi; (try clear hb); (try clear hk); (try clear hi)) | ((with_reducible refine gate_callee (f := 11) rfl ?_); refine goesL_ (some 14) rfl rfl Try.func11 (by kernel_rfl) rfl #[.pointer (some ⟨g, 0, none⟩), .int .i64 20] rfl aE ?_; (with_reducible refine (spec_l1Cur_one.calls g s0_0 t199 t200 20 t201 t202 t203 w0 _ ?side1 ?side2 A4.out).mono ?_); (case side1 => repeat (first | (with_reducible first | exact HI0.out | apply IsS37.alloc | apply IsS37.drewN | apply IsS37.drew | apply IsS37.set_1 | apply IsS37.set_2 | refine IsS37.far ?_ NB0_193.out _ | refine IsS37.far ?_ NB0_197.out _) | exact HI0.out)); (case side2 => repeat (first | (with_reducible first | exact HB.out | apply below_alloc | apply pw_below_drewN | apply below_drew1 | refine below_set ?_ (IsS37.ge HI0.out) | refine below_set ?_ GE193.out | refine below_set ?_ GE197.out) | exact HB.out)); rintro e w13 ⟨rfl, hi, hb, hk⟩; refine ⟨_, rfl, ?_⟩; replace BK193 := Aside0.mk (KeepBut.blk hk (g' := gb193) (o := .cells #[.int .i64 0, .slice none 0 0] 25 (0, 0)) (bV BK193) NB193_0.out (by simp)); replace BK197 := Aside0.mk (KeepBut.blk hk (g' := gb197) (o := .cells #[.int .i64 t194, .slice none 0 0] 25 (0, 0)) (bV BK197) NB197_0.out (by simp)); replace HK := Aside0.mk (KeepBut.trans (by repeat (first | (with_reducible first | exact HK.out | apply KeepBut.set_ | apply keep_drewN | apply keep_drew | apply keep_alloc | refine keep_far ?_ GW193.out _ | refine keep_far ?_ GW197.out _) | exact HK.out)) hk (.inl rfl)); replace HB := Aside0.mk hb; replace HI0 := Aside0.mk hi; (try clear hb); (try clear hk); (try clear hi)))
 (try simp only [Act.put, List.setIfInBounds_toArray, List.set_cons_zero, List.set_cons_succ])
 go_cut [4] (fun v4 wc => ∃ (kq : Nat) (x4_4 : Int), v4 = .int .i64 x4_4 ∧ Aside0 (spec_l1Cur_clock.j0 kq x4_4 s0_0 t202 t203 t194 = some (r1, r2, r3, r4)) ∧ Aside0 (kq ≤ k) ∧ Aside0 (wc.heap[gb193]? = some (.cells #[.int .i64 0, (.slice none 0 0)] 25 (0, 0))) ∧ Aside0 (wc.heap[gb197]? = some (.cells #[.int .i64 t194, (.slice none 0 0)] 25 (0, 0))) ∧ Aside0 (IsS37 w0 wc g s0_0 t202 t203) ∧ Aside0 (KeepBut w wc g none) ∧ Aside0 (Below w0.heap.size w0 wc))
 case first =>
  have H := HC5.out
  clear HC5
  by_cases c14 : t201 = true
  ·subst c14
   have H1 : (spec_l1Cur_clock.j0 k 30 s0_0 t202 t203 t194) = some (r1, r2, r3, r4) := by rw [if_pos rfl] at H; exact H
   clear H
   have H := H1
   clear H1
   have H' := Aside0.mk H
   clear H
   go_wp2
   go_meet
   case rel => exact ⟨_, (30), tE, H', ⟨by first | omega | exact Nat.le_refl _⟩, ⟨by refine bU ?_; exact BK193.out⟩, ⟨by refine bU ?_; exact BK197.out⟩, ⟨by repeat (first | (with_reducible first | exact HI0.out | apply IsS37.alloc | apply IsS37.drewN | apply IsS37.drew | apply IsS37.set_1 | apply IsS37.set_2 | refine IsS37.far ?_ NB0_193.out _ | refine IsS37.far ?_ NB0_197.out _) | exact HI0.out)⟩, ⟨by repeat (first | (with_reducible first | exact HK.out | apply KeepBut.set_ | apply keep_drewN | apply keep_drew | apply keep_alloc | refine keep_far ?_ GW193.out _ | refine keep_far ?_ GW197.out _) | exact HK.out)⟩, ⟨by repeat (first | (with_reducible first | exact HB.out | apply below_alloc | apply pw_below_drewN | apply below_drew1 | refine below_set ?_ (IsS37.ge HI0.out) | refine below_set ?_ GE193.out | refine below_set ?_ GE197.out) | exact HB.out)⟩⟩
  ·replace c14 := Bool.eq_false_iff.mpr c14
   subst c14
   have H1 : (spec_l1Cur_clock.j0 k t198 s0_0 t202 t203 t194) = some (r1, r2, r3, r4) := by rw [if_neg (show ¬ (false = true) by decide)] at H; exact H
   clear H
   have H := H1
   clear H1
   have H' := Aside0.mk H
   clear H
   go_wp2
   go_meet
   case rel => exact ⟨_, (t198), tE, H', ⟨by first | omega | exact Nat.le_refl _⟩, ⟨by refine bU ?_; exact BK193.out⟩, ⟨by refine bU ?_; exact BK197.out⟩, ⟨by repeat (first | (with_reducible first | exact HI0.out | apply IsS37.alloc | apply IsS37.drewN | apply IsS37.drew | apply IsS37.set_1 | apply IsS37.set_2 | refine IsS37.far ?_ NB0_193.out _ | refine IsS37.far ?_ NB0_197.out _) | exact HI0.out)⟩, ⟨by repeat (first | (with_reducible first | exact HK.out | apply KeepBut.set_ | apply keep_drewN | apply keep_drew | apply keep_alloc | refine keep_far ?_ GW193.out _ | refine keep_far ?_ GW197.out _) | exact HK.out)⟩, ⟨by repeat (first | (with_reducible first | exact HB.out | apply below_alloc | apply pw_below_drewN | apply below_drew1 | refine below_set ?_ (IsS37.ge HI0.out) | refine below_set ?_ GE193.out | refine below_set ?_ GE197.out) | exact HB.out)⟩⟩
 case rest =>
  clear HC5
  try clear c1
  try clear p2
  try clear c9
  try clear c10
  try clear c11
  try clear c14
  try clear hcz11_0
  try clear hcz11_1
  try clear hfz11_0
  try clear hfz11_1
  obtain ⟨kq, x4_4, rfl, HA, HJ4, BK193, BK197, HI0, HK, HB⟩ := hcut
  cases kq with
  | zero => exact absurd HA.out (by simp [spec_l1Cur_clock.j0])
  | succ kj4 =>
   have H := HA.out
   clear HA
   simp only [spec_l1Cur_clock.j0] at H
   have H' := Aside0.mk H
   clear H
   go_wp2
   go_loopg [4] kj4 (fun kq v4 w' => ∃ (x4_2 : Int) (x1001_2 : Int) (x1002_2 : Int) (x198000_2 : Int) (x198001_2 : List (S47)) (u198001 : Value), v4 = .int .i64 x4_2 ∧ Aside0 (spec_l1Cur_clock.l0 kq x4_2 s0_0 x1001_2 x1002_2 x198000_2 x198001_2 = some (r1, r2, r3, r4)) ∧ Aside0 (kq ≤ kj4) ∧ Aside0 (Kd.R k47 47 w' w.heap.size (fun _ => True) u198001 x198001_2) ∧ Aside0 (w'.heap[gb193]? = some (.cells #[.int .i64 0, (.slice none 0 0)] 25 (0, 0))) ∧ Aside0 (w'.heap[gb197]? = some (.cells #[.int .i64 x198000_2, u198001] 25 (0, 0))) ∧ Aside0 (IsS37 w0 w' g s0_0 x1001_2 x1002_2) ∧ Aside0 (KeepBut w w' g none) ∧ Aside0 (Below w0.heap.size w0 w'))
   case atStart => exact ⟨(x4_4), (t202), (t203), (t194), (([] : List (S47))), (.slice none 0 0), tE, H', ⟨Nat.le_refl _⟩, ⟨by first | exact Kd.R_nil _ _ _ _ _ | exact Kd.N_nil _ _ _ _ _ | exact Kd.V_nil _ _ _ _ _ | exact Kd.Q_nil _ _ _ _ _ | exact Kd.S_nil _ _ _ _ _⟩, ⟨by refine bU ?_; exact BK193.out⟩, ⟨by refine bU ?_; exact BK197.out⟩, ⟨by repeat (first | (with_reducible first | exact HI0.out | apply IsS37.alloc | apply IsS37.drewN | apply IsS37.drew | apply IsS37.set_1 | apply IsS37.set_2 | refine IsS37.far ?_ NB0_193.out _ | refine IsS37.far ?_ NB0_197.out _) | exact HI0.out)⟩, ⟨by repeat (first | (with_reducible first | exact HK.out | apply KeepBut.set_ | apply keep_drewN | apply keep_drew | apply keep_alloc | refine keep_far ?_ GW193.out _ | refine keep_far ?_ GW197.out _) | exact HK.out)⟩, ⟨by repeat (first | (with_reducible first | exact HB.out | apply below_alloc | apply pw_below_drewN | apply below_drew1 | refine below_set ?_ (IsS37.ge HI0.out) | refine below_set ?_ GE193.out | refine below_set ?_ GE197.out) | exact HB.out)⟩⟩
   case round =>
    clear H'
    try clear c1
    try clear p2
    try clear c9
    try clear c10
    try clear c11
    try clear c14
    try clear hcz11_0
    try clear hcz11_1
    try clear hfz11_0
    try clear hfz11_1
    try clear p2
    obtain ⟨x4_2, x1001_2, x1002_2, x198000_2, x198001_2, u198001, rfl, HA, HK2, HO_198001, BK193, BK197, HI0, HK, HB⟩ := hrel
    cases gk with
    | zero => exact absurd HA.out (by simp [spec_l1Cur_clock.l0])
    | succ k2 =>
     have H := HA.out
     clear HA
     simp only [spec_l1Cur_clock.l0] at H
     by_cases c15 : x4_2 > 0
     ·rw [if_pos c15] at H
      have c15b0 : decide (0 < x4_2) = true := decide_eq_true c15
      clear c15
      replace H := Option.bind_eq_some_iff.mp H
      obtain ⟨⟨t204, t205, t206, t207, t208, t209⟩, A160, H⟩ := H
      replace H : ((spec_l1Cur_one.f s0_0 t208 t209 3).bind fun bt211 => (if bt211.1 = true then ((spec_l1Cur_pick.f s0_0 bt211.2.1 bt211.2.2 1000).bind fun bt214 => ((spec_AddTimer.f k2 x198000_2 x198001_2 bt214.1 t205 t206 t207).bind fun bt217 => (if bt217.2.2 = true then (spec_l1Cur_clock.l0 k2 (wrap64 (x4_2 - 1)) s0_0 bt214.2.1 bt214.2.2 bt217.1 bt217.2.1) else (spec_l1Cur_clock.l0 k2 (wrap64 (x4_2 - 1)) s0_0 bt214.2.1 bt214.2.2 x198000_2 x198001_2)))) else ((spec_AddTimer.f k2 x198000_2 x198001_2 t204 t205 t206 t207).bind fun bt223 => (if bt223.2.2 = true then (spec_l1Cur_clock.l0 k2 (wrap64 (x4_2 - 1)) s0_0 bt211.2.1 bt211.2.2 bt223.1 bt223.2.1) else (spec_l1Cur_clock.l0 k2 (wrap64 (x4_2 - 1)) s0_0 bt211.2.1 bt211.2.2 x198000_2 x198001_2))))) = some (r1, r2, r3, r4) := H
      have A16 := Aside0.mk A160
      clear A160
      replace H := Option.bind_eq_some_iff.mp H
      obtain ⟨⟨t211, t212, t213⟩, A170, H⟩ := H
      replace H : (if t211 = true then ((spec_l1Cur_pick.f s0_0 t212 t213 1000).bind fun bt214 => ((spec_AddTimer.f k2 x198000_2 x198001_2 bt214.1 t205 t206 t207).bind fun bt217 => (if bt217.2.2 = true then (spec_l1Cur_clock.l0 k2 (wrap64 (x4_2 - 1)) s0_0 bt214.2.1 bt214.2.2 bt217.1 bt217.2.1) else (spec_l1Cur_clock.l0 k2 (wrap64 (x4_2 - 1)) s0_0 bt214.2.1 bt214.2.2 x198000_2 x198001_2)))) else ((spec_AddTimer.f k2 x198000_2 x198001_2 t204 t205 t206 t207).bind fun bt223 => (if bt223.2.2 = true then (spec_l1Cur_clock.l0 k2 (wrap64 (x4_2 - 1)) s0_0 t212 t213 bt223.1 bt223.2.1) else (spec_l1Cur_clock.l0 k2 (wrap64 (x4_2 - 1)) s0_0 t212 t213 x198000_2 x198001_2)))) = some (r1, r2, r3, r4) := H
      have A17 := Aside0.mk A170
      clear A170
      by_cases c18 : t211 = true
      ·subst c18
       have H1 : ((spec_l1Cur_pick.f s0_0 t212 t213 1000).bind fun bt214 => ((spec_AddTimer.f k2 x198000_2 x198001_2 bt214.1 t205 t206 t207).bind fun bt217 => (if bt217.2.2 = true then (spec_l1Cur_clock.l0 k2 (wrap64 (x4_2 - 1)) s0_0 bt214.2.1 bt214.2.2 bt217.1 bt217.2.1) else (spec_l1Cur_clock.l0 k2 (wrap64 (x4_2 - 1)) s0_0 bt214.2.1 bt214.2.2 x198000_2 x198001_2)))) = some (r1, r2, r3, r4) := by rw [if_pos rfl] at H; exact H
       clear H
       have H := H1
       clear H1
       replace H := Option.bind_eq_some_iff.mp H
       obtain ⟨⟨t214, t215, t216⟩, A190, H⟩ := H
       replace H : ((spec_AddTimer.f k2 x198000_2 x198001_2 t214 t205 t206 t207).bind fun bt217 => (if bt217.2.2 = true then (spec_l1Cur_clock.l0 k2 (wrap64 (x4_2 - 1)) s0_0 t215 t216 bt217.1 bt217.2.1) else (spec_l1Cur_clock.l0 k2 (wrap64 (x4_2 - 1)) s0_0 t215 t216 x198000_2 x198001_2))) = some (r1, r2, r3, r4) := H
       have A19 := Aside0.mk A190
       clear A190
       replace H := Option.bind_eq_some_iff.mp H
       obtain ⟨⟨t217, t218, t221⟩, A200, H⟩ := H
       replace H : (if t221 = true then (spec_l1Cur_clock.l0 k2 (wrap64 (x4_2 - 1)) s0_0 t215 t216 t217 t218) else (spec_l1Cur_clock.l0 k2 (wrap64 (x4_2 - 1)) s0_0 t215 t216 x198000_2 x198001_2)) = some (r1, r2, r3, r4) := H
       have A20 := Aside0.mk A200
       clear A200
       by_cases c21 : t221 = true
       ·subst c21
        have H1 : (spec_l1Cur_clock.l0 k2 (wrap64 (x4_2 - 1)) s0_0 t215 t216 t217 t218) = some (r1, r2, r3, r4) := by rw [if_pos rfl] at H; exact H
        clear H
        have H := H1
        clear H1
        have H' := Aside0.mk H
        clear H
        have hnb22 := NB197_193.out
        have hnc22 := NB193_197.out
        have hnb23 := NB197_0.out
        have hnc23 := NB0_197.out
        have hcz24_0 := cz BK197 0 (.int .i64 x198000_2)
        have hcz24_1 := cz BK197 1 (u198001)
        have hfz24_0 := fz BK197 0
        have hfz24_1 := fz BK197 1
        go_wp2_with (first | ((with_reducible refine gate_callee (f := 19) rfl ?_); refine goesL_ (some 22) rfl rfl Try.func19 (by kernel_rfl) rfl #[.pointer (some ⟨g, 0, none⟩), .int .i64 x198000_2] rfl aE ?_; (with_reducible refine (spec_l1Cur_timer.calls k2 g s0_0 x1001_2 x1002_2 x198000_2 t204 t205 t206 t207 t208 t209 w0 _ ?side1 ?side2 A16.out).mono ?_); (case side1 => repeat (first | (with_reducible first | exact HI0.out | apply IsS37.alloc | apply IsS37.drewN | apply IsS37.drew | apply IsS37.set_1 | apply IsS37.set_2 | refine IsS37.far ?_ NB0_193.out _ | refine IsS37.far ?_ NB0_197.out _) | exact HI0.out)); (case side2 => repeat (first | (with_reducible first | exact HB.out | apply below_alloc | apply pw_below_drewN | apply below_drew1 | refine below_set ?_ (IsS37.ge HI0.out) | refine below_set ?_ GE193.out | refine below_set ?_ GE197.out) | exact HB.out)); rintro e w25 ⟨rfl, hi, hb, hk⟩; refine ⟨_, rfl, ?_⟩; replace HO_198001 := Aside0.mk (Kd.R_mono (Kd.R_keep (IsS37.apart (show IsS37 w0 _ g s0_0 x1001_2 x1002_2 from by repeat (first | (with_reducible first | exact HI0.out | apply IsS37.alloc | apply IsS37.drewN | apply IsS37.drew | apply IsS37.set_1 | apply IsS37.set_2 | refine IsS37.far ?_ NB0_193.out _ | refine IsS37.far ?_ NB0_197.out _) | exact HI0.out)) (rU HO_198001.out) (by decide)) hk (fun _ h => h.2)) (fun _ h => h.1)); replace BK193 := Aside0.mk (KeepBut.blk hk (g' := gb193) (o := .cells #[.int .i64 0, .slice none 0 0] 25 (0, 0)) (bV BK193) NB193_0.out (by simp)); replace BK197 := Aside0.mk (KeepBut.blk hk (g' := gb197) (o := .cells #[.int .i64 x198000_2, u198001] 25 (0, 0)) (bV BK197) NB197_0.out (by simp)); replace HK := Aside0.mk (KeepBut.trans (by repeat (first | (with_reducible first | exact HK.out | apply KeepBut.set_ | apply keep_drewN | apply keep_drew | apply keep_alloc | refine keep_far ?_ GW193.out _ | refine keep_far ?_ GW197.out _) | exact HK.out)) hk (.inl rfl)); replace HB := Aside0.mk hb; replace HI0 := Aside0.mk hi; (try clear hb); (try clear hk); (try clear hi)) | ((with_reducible refine gate_dst (N := 5) rfl ?_); refine box_event rfl (N := 5) rfl (cs := #[.int .i64 0, .int .i64 0, .int .i64 0, .int .i64 0]) (t := 47) sE ?_; intro gb210 hg w26 hbox hb; replace HO_198001 := Aside0.mk (Kd.R_below (Kd.R_elderB (rU HO_198001.out) gb210 (Nat.le_of_eq hg.symm)) hb); replace HB := Aside0.mk (below_step (by repeat (first | (with_reducible first | exact HB.out | apply below_alloc | apply pw_below_drewN | apply below_drew1 | refine below_set ?_ (IsS37.ge HI0.out) | refine below_set ?_ GE193.out | refine below_set ?_ GE197.out) | exact HB.out)) hb); have BK210 := Aside0.mk hbox; have GW210 := Aside0.mk ((by rw [hg]; exact (keep_size (w := w) (g := g) (row := none) (by repeat (first | (with_reducible first | exact HK.out | apply KeepBut.set_ | apply keep_drewN | apply keep_drew | apply keep_alloc | refine keep_far ?_ GW193.out _ | refine keep_far ?_ GW197.out _) | exact HK.out))) : w.heap.size ≤ gb210)); have GE210 := Aside0.mk ((Nat.le_trans HW0.out (by rw [hg]; exact (keep_size (w := w) (g := g) (row := none) (by repeat (first | (with_reducible first | exact HK.out | apply KeepBut.set_ | apply keep_drewN | apply keep_drew | apply keep_alloc | refine keep_far ?_ GW193.out _ | refine keep_far ?_ GW197.out _) | exact HK.out))) : w.heap.size ≤ gb210) : w0.heap.size ≤ gb210)); replace HK := Aside0.mk (KeepBut.trans (by repeat (first | (with_reducible first | exact HK.out | apply KeepBut.set_ | apply keep_drewN | apply keep_drew | apply keep_alloc | refine keep_far ?_ GW193.out _ | refine keep_far ?_ GW197.out _) | exact HK.out)) (KeepBut.of_below hb g none) (.inl rfl)); have NB193_210 := nL hg (bV BK193); have NB210_193 := nG hg (bV BK193); replace BK193 := bB (bV BK193) hb; have NB197_210 := nL hg (bV BK197); have NB210_197 := nG hg (bV BK197); replace BK197 := bB (bV BK197) hb; have NB0_210 := Aside0.mk ((by rw [hg]; exact Nat.ne_of_lt (IsS37.lt (show IsS37 w0 _ g s0_0 t208 t209 from by repeat (first | (with_reducible first | exact HI0.out | apply IsS37.alloc | apply IsS37.drewN | apply IsS37.drew | apply IsS37.set_1 | apply IsS37.set_2 | refine IsS37.far ?_ NB0_193.out _ | refine IsS37.far ?_ NB0_197.out _) | exact HI0.out))) : g ≠ gb210)); have NB210_0 := Aside0.mk ((by rw [hg]; exact Nat.ne_of_gt (IsS37.lt (show IsS37 w0 _ g s0_0 t208 t209 from by repeat (first | (with_reducible first | exact HI0.out | apply IsS37.alloc | apply IsS37.drewN | apply IsS37.drew | apply IsS37.set_1 | apply IsS37.set_2 | refine IsS37.far ?_ NB0_193.out _ | refine IsS37.far ?_ NB0_197.out _) | exact HI0.out))) : gb210 ≠ g)); replace HI0 := Aside0.mk (IsS37.below (by repeat (first | (with_reducible first | exact HI0.out | apply IsS37.alloc | apply IsS37.drewN | apply IsS37.drew | apply IsS37.set_1 | apply IsS37.set_2 | refine IsS37.far ?_ NB0_193.out _ | refine IsS37.far ?_ NB0_197.out _) | exact HI0.out)) hb); clear hb hbox hg; have hnb27 := NB210_193.out; have hnc27 := NB193_210.out; have hnb28 := NB210_197.out; have hnc28 := NB197_210.out; have hnb29 := NB210_0.out; have hnc29 := NB0_210.out; have hcz30_0 := cz BK210 0 (.int .i64 0); have hcz30_1 := cz BK210 1 (.int .i64 0); have hcz30_2 := cz BK210 2 (.int .i64 0); have hcz30_3 := cz BK210 3 (.int .i64 0); have hfz30_0 := fz BK210 0; have hfz30_1 := fz BK210 1; have hfz30_2 := fz BK210 2; have hfz30_3 := fz BK210 3) | ((with_reducible refine gate_callee (f := 11) rfl ?_); refine goesL_ (some 24) rfl rfl Try.func11 (by kernel_rfl) rfl #[.pointer (some ⟨g, 0, none⟩), .int .i64 3] rfl aE ?_; (with_reducible refine (spec_l1Cur_one.calls g s0_0 t208 t209 3 true t212 t213 w0 _ ?side1 ?side2 A17.out).mono ?_); (case side1 => repeat (first | (with_reducible first | exact HI0.out | apply IsS37.alloc | apply IsS37.drewN | apply IsS37.drew | apply IsS37.set_1 | apply IsS37.set_2 | refine IsS37.far ?_ NB0_193.out _ | refine IsS37.far ?_ NB0_197.out _ | refine IsS37.far ?_ NB0_210.out _) | exact HI0.out)); (case side2 => repeat (first | (with_reducible first | exact HB.out | apply below_alloc | apply pw_below_drewN | apply below_drew1 | refine below_set ?_ (IsS37.ge HI0.out) | refine below_set ?_ GE193.out | refine below_set ?_ GE197.out | refine below_set ?_ GE210.out) | exact HB.out)); rintro e w31 ⟨rfl, hi, hb, hk⟩; refine ⟨_, rfl, ?_⟩; replace HO_198001 := Aside0.mk (Kd.R_mono (Kd.R_keep (IsS37.apart (show IsS37 w0 _ g s0_0 t208 t209 from by repeat (first | (with_reducible first | exact HI0.out | apply IsS37.alloc | apply IsS37.drewN | apply IsS37.drew | apply IsS37.set_1 | apply IsS37.set_2 | refine IsS37.far ?_ NB0_193.out _ | refine IsS37.far ?_ NB0_197.out _ | refine IsS37.far ?_ NB0_210.out _) | exact HI0.out)) (rU (Kd.R_mono (Kd.R_far (p := ⟨gb210, 3, none⟩) (Kd.R_far (p := ⟨gb210, 2, none⟩) (Kd.R_far (p := ⟨gb210, 1, none⟩) (Kd.R_far (p := ⟨gb210, 0, none⟩) (Kd.R_mono HO_198001.out (fun k_ hk => (⟨hk, hk.2⟩ : _ ∧ k_ ≠ gb210))) (fun _ hk => hk.2) (.int .i64 t204)) (fun _ hk => hk.2) (.int .i64 t205)) (fun _ hk => hk.2) (.int .i64 t206)) (fun _ hk => hk.2) (.int .i64 t207)) (fun _ h_ => h_.1))) (by decide)) hk (fun _ h => h.2)) (fun _ h => h.1)); replace BK193 := Aside0.mk (KeepBut.blk hk (g' := gb193) (o := .cells #[.int .i64 0, .slice none 0 0] 25 (0, 0)) (bG NB193_210 BK193) NB193_0.out (by simp)); replace BK197 := Aside0.mk (KeepBut.blk hk (g' := gb197) (o := .cells #[.int .i64 x198000_2, u198001] 25 (0, 0)) (bG NB197_210 BK197) NB197_0.out (by simp)); replace BK210 := Aside0.mk (KeepBut.blk hk (g' := gb210) (o := .cells #[.int .i64 t204, .int .i64 t205, .int .i64 t206, .int .i64 t207] 47 (0, 0)) (by refine bU ?_; refine blk_put (cs := #[.int .i64 t204, .int .i64 t205, .int .i64 t206, .int .i64 0]) ?_ 3 _ rfl; refine bU ?_; refine blk_put (cs := #[.int .i64 t204, .int .i64 t205, .int .i64 0, .int .i64 0]) ?_ 2 _ rfl; refine bU ?_; refine blk_put (cs := #[.int .i64 t204, .int .i64 0, .int .i64 0, .int .i64 0]) ?_ 1 _ rfl; refine bU ?_; refine blk_put (cs := #[.int .i64 0, .int .i64 0, .int .i64 0, .int .i64 0]) ?_ 0 _ rfl; refine bU ?_; exact BK210.out) NB210_0.out (by simp)); replace HK := Aside0.mk (KeepBut.trans (by repeat (first | (with_reducible first | exact HK.out | apply KeepBut.set_ | apply keep_drewN | apply keep_drew | apply keep_alloc | refine keep_far ?_ GW193.out _ | refine keep_far ?_ GW197.out _ | refine keep_far ?_ GW210.out _) | exact HK.out)) hk (.inl rfl)); replace HB := Aside0.mk hb; replace HI0 := Aside0.mk hi; (try clear hb); (try clear hk); (try clear hi)) | ((with_reducible refine gate_callee (f := 10) rfl ?_); refine goesL_ (some 26) rfl rfl Try.func10 (by kernel_rfl) rfl #[.pointer (some ⟨g, 0, none⟩), .int .i64 1000] rfl aE ?_; (with_reducible refine (spec_l1Cur_pick.calls g s0_0 t212 t213 1000 t214 t215 t216 w0 _ ?side1 ?side2 A19.out).mono ?_); (case side1 => repeat (first | (with_reducible first | exact HI0.out | apply IsS37.alloc | apply IsS37.drewN | apply IsS37.drew | apply IsS37.set_1 | apply IsS37.set_2 | refine IsS37.far ?_ NB0_193.out _ | refine IsS37.far ?_ NB0_197.out _ | refine IsS37.far ?_ NB0_210.out _) | exact HI0.out)); (case side2 => repeat (first | (with_reducible first | exact HB.out | apply below_alloc | apply pw_below_drewN | apply below_drew1 | refine below_set ?_ (IsS37.ge HI0.out) | refine below_set ?_ GE193.out | refine below_set ?_ GE197.out | refine below_set ?_ GE210.out) | exact HB.out)); rintro e w32 ⟨rfl, hi, hb, hk⟩; refine ⟨_, rfl, ?_⟩; replace HO_198001 := Aside0.mk (Kd.R_mono (Kd.R_keep (IsS37.apart (show IsS37 w0 _ g s0_0 t212 t213 from by repeat (first | (with_reducible first | exact HI0.out | apply IsS37.alloc | apply IsS37.drewN | apply IsS37.drew | apply IsS37.set_1 | apply IsS37.set_2 | refine IsS37.far ?_ NB0_193.out _ | refine IsS37.far ?_ NB0_197.out _ | refine IsS37.far ?_ NB0_210.out _) | exact HI0.out)) (rU HO_198001.out) (by decide)) hk (fun _ h => h.2)) (fun _ h => h.1)); replace BK193 := Aside0.mk (KeepBut.blk hk (g' := gb193) (o := .cells #[.int .i64 0, .slice none 0 0] 25 (0, 0)) (bV BK193) NB193_0.out (by simp)); replace BK197 := Aside0.mk (KeepBut.blk hk (g' := gb197) (o := .cells #[.int .i64 x198000_2, u198001] 25 (0, 0)) (bV BK197) NB197_0.out (by simp)); replace BK210 := Aside0.mk (KeepBut.blk hk (g' := gb210) (o := .cells #[.int .i64 t204, .int .i64 t205, .int .i64 t206, .int .i64 t207] 47 (0, 0)) (bV BK210) NB210_0.out (by simp)); replace HK := Aside0.mk (KeepBut.trans (by repeat (first | (with_reducible first | exact HK.out | apply KeepBut.set_ | apply keep_drewN | apply keep_drew | apply keep_alloc | refine keep_far ?_ GW193.out _ | refine keep_far ?_ GW197.out _ | refine keep_far ?_ GW210.out _) | exact HK.out)) hk (.inl rfl)); replace HB := Aside0.mk hb; replace HI0 := Aside0.mk hi; (try clear hb); (try clear hk); (try clear hi); have hcz33_0 := cz BK210 0 (.int .i64 t204); have hcz33_1 := cz BK210 1 (.int .i64 t205); have hcz33_2 := cz BK210 2 (.int .i64 t206); have hcz33_3 := cz BK210 3 (.int .i64 t207); have hfz33_0 := fz BK210 0; have hfz33_1 := fz BK210 1; have hfz33_2 := fz BK210 2; have hfz33_3 := fz BK210 3; have hcz34_0 := cz BK197 0 (.int .i64 x198000_2); have hcz34_1 := cz BK197 1 (u198001); have hfz34_0 := fz BK197 0; have hfz34_1 := fz BK197 1; obtain ⟨Ao35, co35, eo35⟩ := Kd.R_slice HO_198001.out; subst eo35) | ((with_reducible refine gate_callee (f := 20) rfl ?_); refine goesL_ (some 31) rfl rfl Try.func20 (by kernel_rfl) rfl #[.agg #[.int .i64 x198000_2, .slice Ao35 x198001_2.length co35], .agg #[.int .i64 t214, .int .i64 t205, .int .i64 t206, .int .i64 t207]] rfl aE ?_; (with_reducible refine (spec_AddTimer.calls k2 x198000_2 _ _ x198001_2 t214 t205 t206 t207 t217 t218 true _ ?side1 ?side2 A20.out).mono ?_); (case side1 => refine (Kd.R_reads' (e := 47) (base := w.heap.size) (ok := fun k_ => (True ∧ k_ ≠ gb210)) (n := x198001_2.length) (c := co35) ?_).2.2; exact (rU (Kd.R_mono (Kd.R_far (p := ⟨gb210, 0, none⟩) (Kd.R_mono HO_198001.out (fun k_ hk => (⟨hk, hk.2⟩ : _ ∧ k_ ≠ gb210))) (fun _ hk => hk.2) (.int .i64 t214)) (fun _ h_ => h_.1)))); (case side2 => exact (Kd.R_reads' HO_198001.out).2.1); rintro e w36 ⟨v219, rfl, ho0, hb⟩; refine ⟨_, rfl, ?_⟩; have HO220 := Aside0.mk (Kd.R_lower (Kd.R_newB (Kd.R_new' ho0 (Kd.R_lt (rU (Kd.R_mono (Kd.R_far (p := ⟨gb210, 0, none⟩) (Kd.R_mono HO_198001.out (fun k_ hk => (⟨hk, hk.2⟩ : _ ∧ k_ ≠ gb210))) (fun _ hk => hk.2) (.int .i64 t214)) (fun _ h_ => h_.1))))) (g := gb210) (o := .cells #[.int .i64 t214, .int .i64 t205, .int .i64 t206, .int .i64 t207] 47 (0, 0)) (by refine bU ?_; refine blk_put (cs := #[.int .i64 t204, .int .i64 t205, .int .i64 t206, .int .i64 t207]) ?_ 0 _ rfl; refine bU ?_; exact BK210.out)) (keep_size (w := w) (g := g) (row := none) (by repeat (first | (with_reducible first | exact HK.out | apply KeepBut.set_ | apply keep_drewN | apply keep_drew | apply keep_alloc | refine keep_far ?_ GW193.out _ | refine keep_far ?_ GW197.out _ | refine keep_far ?_ GW210.out _) | exact HK.out)))); replace HO_198001 := Aside0.mk (Kd.R_elder' (rU (Kd.R_mono (Kd.R_far (p := ⟨gb210, 0, none⟩) (Kd.R_mono HO_198001.out (fun k_ hk => (⟨hk, hk.2⟩ : _ ∧ k_ ≠ gb210))) (fun _ hk => hk.2) (.int .i64 t214)) (fun _ h_ => h_.1))) (Kd.R_base ho0) hb); replace BK193 := bB (bG NB193_210 BK193) hb; replace BK197 := bB (bG NB197_210 BK197) hb; replace BK210 := Aside0.mk (blk_below (g := gb210) (o := .cells #[.int .i64 t214, .int .i64 t205, .int .i64 t206, .int .i64 t207] 47 (0, 0)) (by refine bU ?_; refine blk_put (cs := #[.int .i64 t204, .int .i64 t205, .int .i64 t206, .int .i64 t207]) ?_ 0 _ rfl; refine bU ?_; exact BK210.out) hb); replace HK := Aside0.mk (KeepBut.trans (by repeat (first | (with_reducible first | exact HK.out | apply KeepBut.set_ | apply keep_drewN | apply keep_drew | apply keep_alloc | refine keep_far ?_ GW193.out _ | refine keep_far ?_ GW197.out _ | refine keep_far ?_ GW210.out _) | exact HK.out)) (KeepBut.of_below hb g none) (.inl rfl)); replace HB := Aside0.mk (below_step (by repeat (first | (with_reducible first | exact HB.out | apply below_alloc | apply pw_below_drewN | apply below_drew1 | refine below_set ?_ (IsS37.ge HI0.out) | refine below_set ?_ GE193.out | refine below_set ?_ GE197.out | refine below_set ?_ GE210.out) | exact HB.out)) hb); replace HI0 := Aside0.mk (IsS37.below (show IsS37 w0 (w32.setCell ⟨gb210, 0, none⟩ (.int .i64 t214)) g s0_0 t215 t216 from by repeat (first | (with_reducible first | exact HI0.out | apply IsS37.alloc | apply IsS37.drewN | apply IsS37.drew | apply IsS37.set_1 | apply IsS37.set_2 | refine IsS37.far ?_ NB0_193.out _ | refine IsS37.far ?_ NB0_197.out _ | refine IsS37.far ?_ NB0_210.out _) | exact HI0.out)) hb); (try clear hb); (try clear ho0)) | ((with_reducible refine gate_dst (N := 6) rfl ?_); refine box_event rfl (N := 6) rfl (cs := #[.int .i64 0, .slice none 0 0]) (t := 25) sE ?_; intro gb222 hg w37 hbox hb; replace HO_198001 := Aside0.mk (Kd.R_below (rU HO_198001.out) hb); replace HO220 := Aside0.mk (Kd.R_below (rU HO220.out) hb); replace HB := Aside0.mk (below_step (by repeat (first | (with_reducible first | exact HB.out | apply below_alloc | apply pw_below_drewN | apply below_drew1 | refine below_set ?_ (IsS37.ge HI0.out) | refine below_set ?_ GE193.out | refine below_set ?_ GE197.out | refine below_set ?_ GE210.out) | exact HB.out)) hb); have BK222 := Aside0.mk hbox; have GW222 := Aside0.mk ((by rw [hg]; exact (keep_size (w := w) (g := g) (row := none) (by repeat (first | (with_reducible first | exact HK.out | apply KeepBut.set_ | apply keep_drewN | apply keep_drew | apply keep_alloc | refine keep_far ?_ GW193.out _ | refine keep_far ?_ GW197.out _ | refine keep_far ?_ GW210.out _) | exact HK.out))) : w.heap.size ≤ gb222)); have GE222 := Aside0.mk ((Nat.le_trans HW0.out (by rw [hg]; exact (keep_size (w := w) (g := g) (row := none) (by repeat (first | (with_reducible first | exact HK.out | apply KeepBut.set_ | apply keep_drewN | apply keep_drew | apply keep_alloc | refine keep_far ?_ GW193.out _ | refine keep_far ?_ GW197.out _ | refine keep_far ?_ GW210.out _) | exact HK.out))) : w.heap.size ≤ gb222) : w0.heap.size ≤ gb222)); replace HK := Aside0.mk (KeepBut.trans (by repeat (first | (with_reducible first | exact HK.out | apply KeepBut.set_ | apply keep_drewN | apply keep_drew | apply keep_alloc | refine keep_far ?_ GW193.out _ | refine keep_far ?_ GW197.out _ | refine keep_far ?_ GW210.out _) | exact HK.out)) (KeepBut.of_below hb g none) (.inl rfl)); have NB193_222 := nL hg (bV BK193); have NB222_193 := nG hg (bV BK193); replace BK193 := bB (bV BK193) hb; have NB197_222 := nL hg (bV BK197); have NB222_197 := nG hg (bV BK197); replace BK197 := bB (bV BK197) hb; have NB210_222 := nL hg (bV BK210); have NB222_210 := nG hg (bV BK210); replace BK210 := bB (bV BK210) hb; have NB0_222 := Aside0.mk ((by rw [hg]; exact Nat.ne_of_lt (IsS37.lt (show IsS37 w0 _ g s0_0 t215 t216 from by repeat (first | (with_reducible first | exact HI0.out | apply IsS37.alloc | apply IsS37.drewN | apply IsS37.drew | apply IsS37.set_1 | apply IsS37.set_2 | refine IsS37.far ?_ NB0_193.out _ | refine IsS37.far ?_ NB0_197.out _ | refine IsS37.far ?_ NB0_210.out _) | exact HI0.out))) : g ≠ gb222)); have NB222_0 := Aside0.mk ((by rw [hg]; exact Nat.ne_of_gt (IsS37.lt (show IsS37 w0 _ g s0_0 t215 t216 from by repeat (first | (with_reducible first | exact HI0.out | apply IsS37.alloc | apply IsS37.drewN | apply IsS37.drew | apply IsS37.set_1 | apply IsS37.set_2 | refine IsS37.far ?_ NB0_193.out _ | refine IsS37.far ?_ NB0_197.out _ | refine IsS37.far ?_ NB0_210.out _) | exact HI0.out))) : gb222 ≠ g)); replace HI0 := Aside0.mk (IsS37.below (by repeat (first | (with_reducible first | exact HI0.out | apply IsS37.alloc | apply IsS37.drewN | apply IsS37.drew | apply IsS37.set_1 | apply IsS37.set_2 | refine IsS37.far ?_ NB0_193.out _ | refine IsS37.far ?_ NB0_197.out _ | refine IsS37.far ?_ NB0_210.out _) | exact HI0.out)) hb); clear hb hbox hg; have hnb38 := NB222_193.out; have hnc38 := NB193_222.out; have hnb39 := NB222_197.out; have hnc39 := NB197_222.out; have hnb40 := NB222_210.out; have hnc40 := NB210_222.out; have hnb41 := NB222_0.out; have hnc41 := NB0_222.out; have hcz42_0 := cz BK222 0 (.int .i64 0); have hcz42_1 := cz BK222 1 (.slice none 0 0); have hfz42_0 := fz BK222 0; have hfz42_1 := fz BK222 1; obtain ⟨Ao43, co43, eo43⟩ := Kd.R_slice HO220.out; subst eo43; have hcz44_0 := cz BK197 0 (.int .i64 x198000_2); have hcz44_1 := cz BK197 1 (.slice Ao35 x198001_2.length co35); have hfz44_0 := fz BK197 0; have hfz44_1 := fz BK197 1))
        go_roundg k2
        case measure => have := HJ4.out; have := HK2.out; omega
        case rel => exact ⟨(wrap64 (x4_2 - 1)), (t215), (t216), (t217), (t218), (.slice Ao43 t218.length co43), tE, H', ⟨by have := HJ4.out; have := HK2.out; omega⟩, ⟨by (with_reducible repeat (first | apply Kd.R_alloc | apply Kd.R_drewN | apply Kd.R_drew)); exact Kd.R_mono (Kd.R_far (p := ⟨gb197, 1, none⟩) (Kd.R_far (p := ⟨gb197, 0, none⟩) (Kd.R_far (p := ⟨gb222, 1, none⟩) (Kd.R_far (p := ⟨gb222, 0, none⟩) (Kd.R_types (Kd.R_types HO220.out BK222.out (by decide)) BK197.out (by decide)) (fun _ hk => hk.1.2) (.int .i64 t217)) (fun _ hk => hk.1.2) (.slice Ao43 t218.length co43)) (fun _ hk => hk.2) (.int .i64 t217)) (fun _ hk => hk.2) (.slice Ao43 t218.length co43)) (fun _ hk => trivial)⟩, ⟨by refine bU ?_; refine blk_far ?_ NB193_197.out _; refine bU ?_; refine blk_far ?_ NB193_197.out _; refine bU ?_; refine blk_far ?_ NB193_222.out _; refine bU ?_; refine blk_far ?_ NB193_222.out _; refine bU ?_; exact BK193.out⟩, ⟨by refine bU ?_; refine blk_put (cs := #[.int .i64 t217, .slice Ao35 x198001_2.length co35]) ?_ 1 _ rfl; refine bU ?_; refine blk_put (cs := #[.int .i64 x198000_2, .slice Ao35 x198001_2.length co35]) ?_ 0 _ rfl; refine bU ?_; refine blk_far ?_ NB197_222.out _; refine bU ?_; refine blk_far ?_ NB197_222.out _; refine bU ?_; exact BK197.out⟩, ⟨by repeat (first | (with_reducible first | exact HI0.out | apply IsS37.alloc | apply IsS37.drewN | apply IsS37.drew | apply IsS37.set_1 | apply IsS37.set_2 | refine IsS37.far ?_ NB0_193.out _ | refine IsS37.far ?_ NB0_197.out _ | refine IsS37.far ?_ NB0_210.out _ | refine IsS37.far ?_ NB0_222.out _) | exact HI0.out)⟩, ⟨by repeat (first | (with_reducible first | exact HK.out | apply KeepBut.set_ | apply keep_drewN | apply keep_drew | apply keep_alloc | refine keep_far ?_ GW193.out _ | refine keep_far ?_ GW197.out _ | refine keep_far ?_ GW210.out _ | refine keep_far ?_ GW222.out _) | exact HK.out)⟩, ⟨by repeat (first | (with_reducible first | exact HB.out | apply below_alloc | apply pw_below_drewN | apply below_drew1 | refine below_set ?_ (IsS37.ge HI0.out) | refine below_set ?_ GE193.out | refine below_set ?_ GE197.out | refine below_set ?_ GE210.out | refine below_set ?_ GE222.out) | exact HB.out)⟩⟩
       ·replace c21 := Bool.eq_false_iff.mpr c21
        subst c21
        have H1 : (spec_l1Cur_clock.l0 k2 (wrap64 (x4_2 - 1)) s0_0 t215 t216 x198000_2 x198001_2) = some (r1, r2, r3, r4) := by rw [if_neg (show ¬ (false = true) by decide)] at H; exact H
        clear H
        have H := H1
        clear H1
        have H' := Aside0.mk H
        clear H
        have hnb45 := NB197_193.out
        have hnc45 := NB193_197.out
        have hnb46 := NB197_0.out
        have hnc46 := NB0_197.out
        have hcz47_0 := cz BK197 0 (.int .i64 x198000_2)
        have hcz47_1 := cz BK197 1 (u198001)
        have hfz47_0 := fz BK197 0
        have hfz47_1 := fz BK197 1
        go_wp2_with (first | ((with_reducible refine gate_callee (f := 19) rfl ?_); refine goesL_ (some 22) rfl rfl Try.func19 (by kernel_rfl) rfl #[.pointer (some ⟨g, 0, none⟩), .int .i64 x198000_2] rfl aE ?_; (with_reducible refine (spec_l1Cur_timer.calls k2 g s0_0 x1001_2 x1002_2 x198000_2 t204 t205 t206 t207 t208 t209 w0 _ ?side1 ?side2 A16.out).mono ?_); (case side1 => repeat (first | (with_reducible first | exact HI0.out | apply IsS37.alloc | apply IsS37.drewN | apply IsS37.drew | apply IsS37.set_1 | apply IsS37.set_2 | refine IsS37.far ?_ NB0_193.out _ | refine IsS37.far ?_ NB0_197.out _) | exact HI0.out)); (case side2 => repeat (first | (with_reducible first | exact HB.out | apply below_alloc | apply pw_below_drewN | apply below_drew1 | refine below_set ?_ (IsS37.ge HI0.out) | refine below_set ?_ GE193.out | refine below_set ?_ GE197.out) | exact HB.out)); rintro e w48 ⟨rfl, hi, hb, hk⟩; refine ⟨_, rfl, ?_⟩; replace HO_198001 := Aside0.mk (Kd.R_mono (Kd.R_keep (IsS37.apart (show IsS37 w0 _ g s0_0 x1001_2 x1002_2 from by repeat (first | (with_reducible first | exact HI0.out | apply IsS37.alloc | apply IsS37.drewN | apply IsS37.drew | apply IsS37.set_1 | apply IsS37.set_2 | refine IsS37.far ?_ NB0_193.out _ | refine IsS37.far ?_ NB0_197.out _) | exact HI0.out)) (rU HO_198001.out) (by decide)) hk (fun _ h => h.2)) (fun _ h => h.1)); replace BK193 := Aside0.mk (KeepBut.blk hk (g' := gb193) (o := .cells #[.int .i64 0, .slice none 0 0] 25 (0, 0)) (bV BK193) NB193_0.out (by simp)); replace BK197 := Aside0.mk (KeepBut.blk hk (g' := gb197) (o := .cells #[.int .i64 x198000_2, u198001] 25 (0, 0)) (bV BK197) NB197_0.out (by simp)); replace HK := Aside0.mk (KeepBut.trans (by repeat (first | (with_reducible first | exact HK.out | apply KeepBut.set_ | apply keep_drewN | apply keep_drew | apply keep_alloc | refine keep_far ?_ GW193.out _ | refine keep_far ?_ GW197.out _) | exact HK.out)) hk (.inl rfl)); replace HB := Aside0.mk hb; replace HI0 := Aside0.mk hi; (try clear hb); (try clear hk); (try clear hi)) | ((with_reducible refine gate_dst (N := 5) rfl ?_); refine box_event rfl (N := 5) rfl (cs := #[.int .i64 0, .int .i64 0, .int .i64 0, .int .i64 0]) (t := 47) sE ?_; intro gb210 hg w49 hbox hb; replace HO_198001 := Aside0.mk (Kd.R_below (Kd.R_elderB (rU HO_198001.out) gb210 (Nat.le_of_eq hg.symm)) hb); replace HB := Aside0.mk (below_step (by repeat (first | (with_reducible first | exact HB.out | apply below_alloc | apply pw_below_drewN | apply below_drew1 | refine below_set ?_ (IsS37.ge HI0.out) | refine below_set ?_ GE193.out | refine below_set ?_ GE197.out) | exact HB.out)) hb); have BK210 := Aside0.mk hbox; have GW210 := Aside0.mk ((by rw [hg]; exact (keep_size (w := w) (g := g) (row := none) (by repeat (first | (with_reducible first | exact HK.out | apply KeepBut.set_ | apply keep_drewN | apply keep_drew | apply keep_alloc | refine keep_far ?_ GW193.out _ | refine keep_far ?_ GW197.out _) | exact HK.out))) : w.heap.size ≤ gb210)); have GE210 := Aside0.mk ((Nat.le_trans HW0.out (by rw [hg]; exact (keep_size (w := w) (g := g) (row := none) (by repeat (first | (with_reducible first | exact HK.out | apply KeepBut.set_ | apply keep_drewN | apply keep_drew | apply keep_alloc | refine keep_far ?_ GW193.out _ | refine keep_far ?_ GW197.out _) | exact HK.out))) : w.heap.size ≤ gb210) : w0.heap.size ≤ gb210)); replace HK := Aside0.mk (KeepBut.trans (by repeat (first | (with_reducible first | exact HK.out | apply KeepBut.set_ | apply keep_drewN | apply keep_drew | apply keep_alloc | refine keep_far ?_ GW193.out _ | refine keep_far ?_ GW197.out _) | exact HK.out)) (KeepBut.of_below hb g none) (.inl rfl)); have NB193_210 := nL hg (bV BK193); have NB210_193 := nG hg (bV BK193); replace BK193 := bB (bV BK193) hb; have NB197_210 := nL hg (bV BK197); have NB210_197 := nG hg (bV BK197); replace BK197 := bB (bV BK197) hb; have NB0_210 := Aside0.mk ((by rw [hg]; exact Nat.ne_of_lt (IsS37.lt (show IsS37 w0 _ g s0_0 t208 t209 from by repeat (first | (with_reducible first | exact HI0.out | apply IsS37.alloc | apply IsS37.drewN | apply IsS37.drew | apply IsS37.set_1 | apply IsS37.set_2 | refine IsS37.far ?_ NB0_193.out _ | refine IsS37.far ?_ NB0_197.out _) | exact HI0.out))) : g ≠ gb210)); have NB210_0 := Aside0.mk ((by rw [hg]; exact Nat.ne_of_gt (IsS37.lt (show IsS37 w0 _ g s0_0 t208 t209 from by repeat (first | (with_reducible first | exact HI0.out | apply IsS37.alloc | apply IsS37.drewN | apply IsS37.drew | apply IsS37.set_1 | apply IsS37.set_2 | refine IsS37.far ?_ NB0_193.out _ | refine IsS37.far ?_ NB0_197.out _) | exact HI0.out))) : gb210 ≠ g)); replace HI0 := Aside0.mk (IsS37.below (by repeat (first | (with_reducible first | exact HI0.out | apply IsS37.alloc | apply IsS37.drewN | apply IsS37.drew | apply IsS37.set_1 | apply IsS37.set_2 | refine IsS37.far ?_ NB0_193.out _ | refine IsS37.far ?_ NB0_197.out _) | exact HI0.out)) hb); clear hb hbox hg; have hnb50 := NB210_193.out; have hnc50 := NB193_210.out; have hnb51 := NB210_197.out; have hnc51 := NB197_210.out; have hnb52 := NB210_0.out; have hnc52 := NB0_210.out; have hcz53_0 := cz BK210 0 (.int .i64 0); have hcz53_1 := cz BK210 1 (.int .i64 0); have hcz53_2 := cz BK210 2 (.int .i64 0); have hcz53_3 := cz BK210 3 (.int .i64 0); have hfz53_0 := fz BK210 0; have hfz53_1 := fz BK210 1; have hfz53_2 := fz BK210 2; have hfz53_3 := fz BK210 3) | ((with_reducible refine gate_callee (f := 11) rfl ?_); refine goesL_ (some 24) rfl rfl Try.func11 (by kernel_rfl) rfl #[.pointer (some ⟨g, 0, none⟩), .int .i64 3] rfl aE ?_; (with_reducible refine (spec_l1Cur_one.calls g s0_0 t208 t209 3 true t212 t213 w0 _ ?side1 ?side2 A17.out).mono ?_); (case side1 => repeat (first | (with_reducible first | exact HI0.out | apply IsS37.alloc | apply IsS37.drewN | apply IsS37.drew | apply IsS37.set_1 | apply IsS37.set_2 | refine IsS37.far ?_ NB0_193.out _ | refine IsS37.far ?_ NB0_197.out _ | refine IsS37.far ?_ NB0_210.out _) | exact HI0.out)); (case side2 => repeat (first | (with_reducible first | exact HB.out | apply below_alloc | apply pw_below_drewN | apply below_drew1 | refine below_set ?_ (IsS37.ge HI0.out) | refine below_set ?_ GE193.out | refine below_set ?_ GE197.out | refine below_set ?_ GE210.out) | exact HB.out)); rintro e w54 ⟨rfl, hi, hb, hk⟩; refine ⟨_, rfl, ?_⟩; replace HO_198001 := Aside0.mk (Kd.R_mono (Kd.R_keep (IsS37.apart (show IsS37 w0 _ g s0_0 t208 t209 from by repeat (first | (with_reducible first | exact HI0.out | apply IsS37.alloc | apply IsS37.drewN | apply IsS37.drew | apply IsS37.set_1 | apply IsS37.set_2 | refine IsS37.far ?_ NB0_193.out _ | refine IsS37.far ?_ NB0_197.out _ | refine IsS37.far ?_ NB0_210.out _) | exact HI0.out)) (rU (Kd.R_mono (Kd.R_far (p := ⟨gb210, 3, none⟩) (Kd.R_far (p := ⟨gb210, 2, none⟩) (Kd.R_far (p := ⟨gb210, 1, none⟩) (Kd.R_far (p := ⟨gb210, 0, none⟩) (Kd.R_mono HO_198001.out (fun k_ hk => (⟨hk, hk.2⟩ : _ ∧ k_ ≠ gb210))) (fun _ hk => hk.2) (.int .i64 t204)) (fun _ hk => hk.2) (.int .i64 t205)) (fun _ hk => hk.2) (.int .i64 t206)) (fun _ hk => hk.2) (.int .i64 t207)) (fun _ h_ => h_.1))) (by decide)) hk (fun _ h => h.2)) (fun _ h => h.1)); replace BK193 := Aside0.mk (KeepBut.blk hk (g' := gb193) (o := .cells #[.int .i64 0, .slice none 0 0] 25 (0, 0)) (bG NB193_210 BK193) NB193_0.out (by simp)); replace BK197 := Aside0.mk (KeepBut.blk hk (g' := gb197) (o := .cells #[.int .i64 x198000_2, u198001] 25 (0, 0)) (bG NB197_210 BK197) NB197_0.out (by simp)); replace BK210 := Aside0.mk (KeepBut.blk hk (g' := gb210) (o := .cells #[.int .i64 t204, .int .i64 t205, .int .i64 t206, .int .i64 t207] 47 (0, 0)) (by refine bU ?_; refine blk_put (cs := #[.int .i64 t204, .int .i64 t205, .int .i64 t206, .int .i64 0]) ?_ 3 _ rfl; refine bU ?_; refine blk_put (cs := #[.int .i64 t204, .int .i64 t205, .int .i64 0, .int .i64 0]) ?_ 2 _ rfl; refine bU ?_; refine blk_put (cs := #[.int .i64 t204, .int .i64 0, .int .i64 0, .int .i64 0]) ?_ 1 _ rfl; refine bU ?_; refine blk_put (cs := #[.int .i64 0, .int .i64 0, .int .i64 0, .int .i64 0]) ?_ 0 _ rfl; refine bU ?_; exact BK210.out) NB210_0.out (by simp)); replace HK := Aside0.mk (KeepBut.trans (by repeat (first | (with_reducible first | exact HK.out | apply KeepBut.set_ | apply keep_drewN | apply keep_drew | apply keep_alloc | refine keep_far ?_ GW193.out _ | refine keep_far ?_ GW197.out _ | refine keep_far ?_ GW210.out _) | exact HK.out)) hk (.inl rfl)); replace HB := Aside0.mk hb; replace HI0 := Aside0.mk hi; (try clear hb); (try clear hk); (try clear hi)) | ((with_reducible refine gate_callee (f := 10) rfl ?_); refine goesL_ (some 26) rfl rfl Try.func10 (by kernel_rfl) rfl #[.pointer (some ⟨g, 0, none⟩), .int .i64 1000] rfl aE ?_; (with_reducible refine (spec_l1Cur_pick.calls g s0_0 t212 t213 1000 t214 t215 t216 w0 _ ?side1 ?side2 A19.out).mono ?_); (case side1 => repeat (first | (with_reducible first | exact HI0.out | apply IsS37.alloc | apply IsS37.drewN | apply IsS37.drew | apply IsS37.set_1 | apply IsS37.set_2 | refine IsS37.far ?_ NB0_193.out _ | refine IsS37.far ?_ NB0_197.out _ | refine IsS37.far ?_ NB0_210.out _) | exact HI0.out)); (case side2 => repeat (first | (with_reducible first | exact HB.out | apply below_alloc | apply pw_below_drewN | apply below_drew1 | refine below_set ?_ (IsS37.ge HI0.out) | refine below_set ?_ GE193.out | refine below_set ?_ GE197.out | refine below_set ?_ GE210.out) | exact HB.out)); rintro e w55 ⟨rfl, hi, hb, hk⟩; refine ⟨_, rfl, ?_⟩; replace HO_198001 := Aside0.mk (Kd.R_mono (Kd.R_keep (IsS37.apart (show IsS37 w0 _ g s0_0 t212 t213 from by repeat (first | (with_reducible first | exact HI0.out | apply IsS37.alloc | apply IsS37.drewN | apply IsS37.drew | apply IsS37.set_1 | apply IsS37.set_2 | refine IsS37.far ?_ NB0_193.out _ | refine IsS37.far ?_ NB0_197.out _ | refine IsS37.far ?_ NB0_210.out _) | exact HI0.out)) (rU HO_198001.out) (by decide)) hk (fun _ h => h.2)) (fun _ h => h.1)); replace BK193 := Aside0.mk (KeepBut.blk hk (g' := gb193) (o := .cells #[.int .i64 0, .slice none 0 0] 25 (0, 0)) (bV BK193) NB193_0.out (by simp)); replace BK197 := Aside0.mk (KeepBut.blk hk (g' := gb197) (o := .cells #[.int .i64 x198000_2, u198001] 25 (0, 0)) (bV BK197) NB197_0.out (by simp)); replace BK210 := Aside0.mk (KeepBut.blk hk (g' := gb210) (o := .cells #[.int .i64 t204, .int .i64 t205, .int .i64 t206, .int .i64 t207] 47 (0, 0)) (bV BK210) NB210_0.out (by simp)); replace HK := Aside0.mk (KeepBut.trans (by repeat (first | (with_reducible first | exact HK.out | apply KeepBut.set_ | apply keep_drewN | apply keep_drew | apply keep_alloc | refine keep_far ?_ GW193.out _ | refine keep_far ?_ GW197.out _ | refine keep_far ?_ GW210.out _) | exact HK.out)) hk (.inl rfl)); replace HB := Aside0.mk hb; replace HI0 := Aside0.mk hi; (try clear hb); (try clear hk); (try clear hi); have hcz56_0 := cz BK210 0 (.int .i64 t204); have hcz56_1 := cz BK210 1 (.int .i64 t205); have hcz56_2 := cz BK210 2 (.int .i64 t206); have hcz56_3 := cz BK210 3 (.int .i64 t207); have hfz56_0 := fz BK210 0; have hfz56_1 := fz BK210 1; have hfz56_2 := fz BK210 2; have hfz56_3 := fz BK210 3; have hcz57_0 := cz BK197 0 (.int .i64 x198000_2); have hcz57_1 := cz BK197 1 (u198001); have hfz57_0 := fz BK197 0; have hfz57_1 := fz BK197 1; obtain ⟨Ao58, co58, eo58⟩ := Kd.R_slice HO_198001.out; subst eo58) | ((with_reducible refine gate_callee (f := 20) rfl ?_); refine goesL_ (some 31) rfl rfl Try.func20 (by kernel_rfl) rfl #[.agg #[.int .i64 x198000_2, .slice Ao58 x198001_2.length co58], .agg #[.int .i64 t214, .int .i64 t205, .int .i64 t206, .int .i64 t207]] rfl aE ?_; (with_reducible refine (spec_AddTimer.calls k2 x198000_2 _ _ x198001_2 t214 t205 t206 t207 t217 t218 false _ ?side1 ?side2 A20.out).mono ?_); (case side1 => refine (Kd.R_reads' (e := 47) (base := w.heap.size) (ok := fun k_ => (True ∧ k_ ≠ gb210)) (n := x198001_2.length) (c := co58) ?_).2.2; exact (rU (Kd.R_mono (Kd.R_far (p := ⟨gb210, 0, none⟩) (Kd.R_mono HO_198001.out (fun k_ hk => (⟨hk, hk.2⟩ : _ ∧ k_ ≠ gb210))) (fun _ hk => hk.2) (.int .i64 t214)) (fun _ h_ => h_.1)))); (case side2 => exact (Kd.R_reads' HO_198001.out).2.1); rintro e w59 ⟨v219, rfl, ho0, hb⟩; refine ⟨_, rfl, ?_⟩; have HO220 := Aside0.mk (Kd.R_lower (Kd.R_newB (Kd.R_new' ho0 (Kd.R_lt (rU (Kd.R_mono (Kd.R_far (p := ⟨gb210, 0, none⟩) (Kd.R_mono HO_198001.out (fun k_ hk => (⟨hk, hk.2⟩ : _ ∧ k_ ≠ gb210))) (fun _ hk => hk.2) (.int .i64 t214)) (fun _ h_ => h_.1))))) (g := gb210) (o := .cells #[.int .i64 t214, .int .i64 t205, .int .i64 t206, .int .i64 t207] 47 (0, 0)) (by refine bU ?_; refine blk_put (cs := #[.int .i64 t204, .int .i64 t205, .int .i64 t206, .int .i64 t207]) ?_ 0 _ rfl; refine bU ?_; exact BK210.out)) (keep_size (w := w) (g := g) (row := none) (by repeat (first | (with_reducible first | exact HK.out | apply KeepBut.set_ | apply keep_drewN | apply keep_drew | apply keep_alloc | refine keep_far ?_ GW193.out _ | refine keep_far ?_ GW197.out _ | refine keep_far ?_ GW210.out _) | exact HK.out)))); replace HO_198001 := Aside0.mk (Kd.R_elder' (rU (Kd.R_mono (Kd.R_far (p := ⟨gb210, 0, none⟩) (Kd.R_mono HO_198001.out (fun k_ hk => (⟨hk, hk.2⟩ : _ ∧ k_ ≠ gb210))) (fun _ hk => hk.2) (.int .i64 t214)) (fun _ h_ => h_.1))) (Kd.R_base ho0) hb); replace BK193 := bB (bG NB193_210 BK193) hb; replace BK197 := bB (bG NB197_210 BK197) hb; replace BK210 := Aside0.mk (blk_below (g := gb210) (o := .cells #[.int .i64 t214, .int .i64 t205, .int .i64 t206, .int .i64 t207] 47 (0, 0)) (by refine bU ?_; refine blk_put (cs := #[.int .i64 t204, .int .i64 t205, .int .i64 t206, .int .i64 t207]) ?_ 0 _ rfl; refine bU ?_; exact BK210.out) hb); replace HK := Aside0.mk (KeepBut.trans (by repeat (first | (with_reducible first | exact HK.out | apply KeepBut.set_ | apply keep_drewN | apply keep_drew | apply keep_alloc | refine keep_far ?_ GW193.out _ | refine keep_far ?_ GW197.out _ | refine keep_far ?_ GW210.out _) | exact HK.out)) (KeepBut.of_below hb g none) (.inl rfl)); replace HB := Aside0.mk (below_step (by repeat (first | (with_reducible first | exact HB.out | apply below_alloc | apply pw_below_drewN | apply below_drew1 | refine below_set ?_ (IsS37.ge HI0.out) | refine below_set ?_ GE193.out | refine below_set ?_ GE197.out | refine below_set ?_ GE210.out) | exact HB.out)) hb); replace HI0 := Aside0.mk (IsS37.below (show IsS37 w0 (w55.setCell ⟨gb210, 0, none⟩ (.int .i64 t214)) g s0_0 t215 t216 from by repeat (first | (with_reducible first | exact HI0.out | apply IsS37.alloc | apply IsS37.drewN | apply IsS37.drew | apply IsS37.set_1 | apply IsS37.set_2 | refine IsS37.far ?_ NB0_193.out _ | refine IsS37.far ?_ NB0_197.out _ | refine IsS37.far ?_ NB0_210.out _) | exact HI0.out)) hb); (try clear hb); (try clear ho0)) | ((with_reducible refine gate_dst (N := 6) rfl ?_); refine box_event rfl (N := 6) rfl (cs := #[.int .i64 0, .slice none 0 0]) (t := 25) sE ?_; intro gb222 hg w60 hbox hb; replace HO_198001 := Aside0.mk (Kd.R_below (rU HO_198001.out) hb); replace HO220 := Aside0.mk (Kd.R_below (rU HO220.out) hb); replace HB := Aside0.mk (below_step (by repeat (first | (with_reducible first | exact HB.out | apply below_alloc | apply pw_below_drewN | apply below_drew1 | refine below_set ?_ (IsS37.ge HI0.out) | refine below_set ?_ GE193.out | refine below_set ?_ GE197.out | refine below_set ?_ GE210.out) | exact HB.out)) hb); have BK222 := Aside0.mk hbox; have GW222 := Aside0.mk ((by rw [hg]; exact (keep_size (w := w) (g := g) (row := none) (by repeat (first | (with_reducible first | exact HK.out | apply KeepBut.set_ | apply keep_drewN | apply keep_drew | apply keep_alloc | refine keep_far ?_ GW193.out _ | refine keep_far ?_ GW197.out _ | refine keep_far ?_ GW210.out _) | exact HK.out))) : w.heap.size ≤ gb222)); have GE222 := Aside0.mk ((Nat.le_trans HW0.out (by rw [hg]; exact (keep_size (w := w) (g := g) (row := none) (by repeat (first | (with_reducible first | exact HK.out | apply KeepBut.set_ | apply keep_drewN | apply keep_drew | apply keep_alloc | refine keep_far ?_ GW193.out _ | refine keep_far ?_ GW197.out _ | refine keep_far ?_ GW210.out _) | exact HK.out))) : w.heap.size ≤ gb222) : w0.heap.size ≤ gb222)); replace HK := Aside0.mk (KeepBut.trans (by repeat (first | (with_reducible first | exact HK.out | apply KeepBut.set_ | apply keep_drewN | apply keep_drew | apply keep_alloc | refine keep_far ?_ GW193.out _ | refine keep_far ?_ GW197.out _ | refine keep_far ?_ GW210.out _) | exact HK.out)) (KeepBut.of_below hb g none) (.inl rfl)); have NB193_222 := nL hg (bV BK193); have NB222_193 := nG hg (bV BK193); replace BK193 := bB (bV BK193) hb; have NB197_222 := nL hg (bV BK197); have NB222_197 := nG hg (bV BK197); replace BK197 := bB (bV BK197) hb; have NB210_222 := nL hg (bV BK210); have NB222_210 := nG hg (bV BK210); replace BK210 := bB (bV BK210) hb; have NB0_222 := Aside0.mk ((by rw [hg]; exact Nat.ne_of_lt (IsS37.lt (show IsS37 w0 _ g s0_0 t215 t216 from by repeat (first | (with_reducible first | exact HI0.out | apply IsS37.alloc | apply IsS37.drewN | apply IsS37.drew | apply IsS37.set_1 | apply IsS37.set_2 | refine IsS37.far ?_ NB0_193.out _ | refine IsS37.far ?_ NB0_197.out _ | refine IsS37.far ?_ NB0_210.out _) | exact HI0.out))) : g ≠ gb222)); have NB222_0 := Aside0.mk ((by rw [hg]; exact Nat.ne_of_gt (IsS37.lt (show IsS37 w0 _ g s0_0 t215 t216 from by repeat (first | (with_reducible first | exact HI0.out | apply IsS37.alloc | apply IsS37.drewN | apply IsS37.drew | apply IsS37.set_1 | apply IsS37.set_2 | refine IsS37.far ?_ NB0_193.out _ | refine IsS37.far ?_ NB0_197.out _ | refine IsS37.far ?_ NB0_210.out _) | exact HI0.out))) : gb222 ≠ g)); replace HI0 := Aside0.mk (IsS37.below (by repeat (first | (with_reducible first | exact HI0.out | apply IsS37.alloc | apply IsS37.drewN | apply IsS37.drew | apply IsS37.set_1 | apply IsS37.set_2 | refine IsS37.far ?_ NB0_193.out _ | refine IsS37.far ?_ NB0_197.out _ | refine IsS37.far ?_ NB0_210.out _) | exact HI0.out)) hb); clear hb hbox hg; have hnb61 := NB222_193.out; have hnc61 := NB193_222.out; have hnb62 := NB222_197.out; have hnc62 := NB197_222.out; have hnb63 := NB222_210.out; have hnc63 := NB210_222.out; have hnb64 := NB222_0.out; have hnc64 := NB0_222.out; have hcz65_0 := cz BK222 0 (.int .i64 0); have hcz65_1 := cz BK222 1 (.slice none 0 0); have hfz65_0 := fz BK222 0; have hfz65_1 := fz BK222 1; obtain ⟨Ao66, co66, eo66⟩ := Kd.R_slice HO220.out; subst eo66))
        go_roundg k2
        case measure => have := HJ4.out; have := HK2.out; omega
        case rel => exact ⟨(wrap64 (x4_2 - 1)), (t215), (t216), (x198000_2), (x198001_2), (.slice Ao58 x198001_2.length co58), tE, H', ⟨by have := HJ4.out; have := HK2.out; omega⟩, ⟨by (with_reducible repeat (first | apply Kd.R_alloc | apply Kd.R_drewN | apply Kd.R_drew)); exact Kd.R_mono (Kd.R_far (p := ⟨gb222, 1, none⟩) (Kd.R_far (p := ⟨gb222, 0, none⟩) (Kd.R_types HO_198001.out BK222.out (by decide)) (fun _ hk => hk.2) (.int .i64 t217)) (fun _ hk => hk.2) (.slice Ao66 t218.length co66)) (fun _ hk => trivial)⟩, ⟨by refine bU ?_; refine blk_far ?_ NB193_222.out _; refine bU ?_; refine blk_far ?_ NB193_222.out _; refine bU ?_; exact BK193.out⟩, ⟨by refine bU ?_; refine blk_far ?_ NB197_222.out _; refine bU ?_; refine blk_far ?_ NB197_222.out _; refine bU ?_; exact BK197.out⟩, ⟨by repeat (first | (with_reducible first | exact HI0.out | apply IsS37.alloc | apply IsS37.drewN | apply IsS37.drew | apply IsS37.set_1 | apply IsS37.set_2 | refine IsS37.far ?_ NB0_193.out _ | refine IsS37.far ?_ NB0_197.out _ | refine IsS37.far ?_ NB0_210.out _ | refine IsS37.far ?_ NB0_222.out _) | exact HI0.out)⟩, ⟨by repeat (first | (with_reducible first | exact HK.out | apply KeepBut.set_ | apply keep_drewN | apply keep_drew | apply keep_alloc | refine keep_far ?_ GW193.out _ | refine keep_far ?_ GW197.out _ | refine keep_far ?_ GW210.out _ | refine keep_far ?_ GW222.out _) | exact HK.out)⟩, ⟨by repeat (first | (with_reducible first | exact HB.out | apply below_alloc | apply pw_below_drewN | apply below_drew1 | refine below_set ?_ (IsS37.ge HI0.out) | refine below_set ?_ GE193.out | refine below_set ?_ GE197.out | refine below_set ?_ GE210.out | refine below_set ?_ GE222.out) | exact HB.out)⟩⟩
      ·replace c18 := Bool.eq_false_iff.mpr c18
       subst c18
       have H1 : ((spec_AddTimer.f k2 x198000_2 x198001_2 t204 t205 t206 t207).bind fun bt223 => (if bt223.2.2 = true then (spec_l1Cur_clock.l0 k2 (wrap64 (x4_2 - 1)) s0_0 t212 t213 bt223.1 bt223.2.1) else (spec_l1Cur_clock.l0 k2 (wrap64 (x4_2 - 1)) s0_0 t212 t213 x198000_2 x198001_2))) = some (r1, r2, r3, r4) := by rw [if_neg (show ¬ (false = true) by decide)] at H; exact H
       clear H
       have H := H1
       clear H1
       replace H := Option.bind_eq_some_iff.mp H
       obtain ⟨⟨t223, t224, t227⟩, A670, H⟩ := H
       replace H : (if t227 = true then (spec_l1Cur_clock.l0 k2 (wrap64 (x4_2 - 1)) s0_0 t212 t213 t223 t224) else (spec_l1Cur_clock.l0 k2 (wrap64 (x4_2 - 1)) s0_0 t212 t213 x198000_2 x198001_2)) = some (r1, r2, r3, r4) := H
       have A67 := Aside0.mk A670
       clear A670
       by_cases c68 : t227 = true
       ·subst c68
        have H1 : (spec_l1Cur_clock.l0 k2 (wrap64 (x4_2 - 1)) s0_0 t212 t213 t223 t224) = some (r1, r2, r3, r4) := by rw [if_pos rfl] at H; exact H
        clear H
        have H := H1
        clear H1
        have H' := Aside0.mk H
        clear H
        have hnb69 := NB197_193.out
        have hnc69 := NB193_197.out
        have hnb70 := NB197_0.out
        have hnc70 := NB0_197.out
        have hcz71_0 := cz BK197 0 (.int .i64 x198000_2)
        have hcz71_1 := cz BK197 1 (u198001)
        have hfz71_0 := fz BK197 0
        have hfz71_1 := fz BK197 1
        go_wp2_with (first | ((with_reducible refine gate_callee (f := 19) rfl ?_); refine goesL_ (some 22) rfl rfl Try.func19 (by kernel_rfl) rfl #[.pointer (some ⟨g, 0, none⟩), .int .i64 x198000_2] rfl aE ?_; (with_reducible refine (spec_l1Cur_timer.calls k2 g s0_0 x1001_2 x1002_2 x198000_2 t204 t205 t206 t207 t208 t209 w0 _ ?side1 ?side2 A16.out).mono ?_); (case side1 => repeat (first | (with_reducible first | exact HI0.out | apply IsS37.alloc | apply IsS37.drewN | apply IsS37.drew | apply IsS37.set_1 | apply IsS37.set_2 | refine IsS37.far ?_ NB0_193.out _ | refine IsS37.far ?_ NB0_197.out _) | exact HI0.out)); (case side2 => repeat (first | (with_reducible first | exact HB.out | apply below_alloc | apply pw_below_drewN | apply below_drew1 | refine below_set ?_ (IsS37.ge HI0.out) | refine below_set ?_ GE193.out | refine below_set ?_ GE197.out) | exact HB.out)); rintro e w72 ⟨rfl, hi, hb, hk⟩; refine ⟨_, rfl, ?_⟩; replace HO_198001 := Aside0.mk (Kd.R_mono (Kd.R_keep (IsS37.apart (show IsS37 w0 _ g s0_0 x1001_2 x1002_2 from by repeat (first | (with_reducible first | exact HI0.out | apply IsS37.alloc | apply IsS37.drewN | apply IsS37.drew | apply IsS37.set_1 | apply IsS37.set_2 | refine IsS37.far ?_ NB0_193.out _ | refine IsS37.far ?_ NB0_197.out _) | exact HI0.out)) (rU HO_198001.out) (by decide)) hk (fun _ h => h.2)) (fun _ h => h.1)); replace BK193 := Aside0.mk (KeepBut.blk hk (g' := gb193) (o := .cells #[.int .i64 0, .slice none 0 0] 25 (0, 0)) (bV BK193) NB193_0.out (by simp)); replace BK197 := Aside0.mk (KeepBut.blk hk (g' := gb197) (o := .cells #[.int .i64 x198000_2, u198001] 25 (0, 0)) (bV BK197) NB197_0.out (by simp)); replace HK := Aside0.mk (KeepBut.trans (by repeat (first | (with_reducible first | exact HK.out | apply KeepBut.set_ | apply keep_drewN | apply keep_drew | apply keep_alloc | refine keep_far ?_ GW193.out _ | refine keep_far ?_ GW197.out _) | exact HK.out)) hk (.inl rfl)); replace HB := Aside0.mk hb; replace HI0 := Aside0.mk hi; (try clear hb); (try clear hk); (try clear hi)) | ((with_reducible refine gate_dst (N := 5) rfl ?_); refine box_event rfl (N := 5) rfl (cs := #[.int .i64 0, .int .i64 0, .int .i64 0, .int .i64 0]) (t := 47) sE ?_; intro gb210 hg w73 hbox hb; replace HO_198001 := Aside0.mk (Kd.R_below (Kd.R_elderB (rU HO_198001.out) gb210 (Nat.le_of_eq hg.symm)) hb); replace HB := Aside0.mk (below_step (by repeat (first | (with_reducible first | exact HB.out | apply below_alloc | apply pw_below_drewN | apply below_drew1 | refine below_set ?_ (IsS37.ge HI0.out) | refine below_set ?_ GE193.out | refine below_set ?_ GE197.out) | exact HB.out)) hb); have BK210 := Aside0.mk hbox; have GW210 := Aside0.mk ((by rw [hg]; exact (keep_size (w := w) (g := g) (row := none) (by repeat (first | (with_reducible first | exact HK.out | apply KeepBut.set_ | apply keep_drewN | apply keep_drew | apply keep_alloc | refine keep_far ?_ GW193.out _ | refine keep_far ?_ GW197.out _) | exact HK.out))) : w.heap.size ≤ gb210)); have GE210 := Aside0.mk ((Nat.le_trans HW0.out (by rw [hg]; exact (keep_size (w := w) (g := g) (row := none) (by repeat (first | (with_reducible first | exact HK.out | apply KeepBut.set_ | apply keep_drewN | apply keep_drew | apply keep_alloc | refine keep_far ?_ GW193.out _ | refine keep_far ?_ GW197.out _) | exact HK.out))) : w.heap.size ≤ gb210) : w0.heap.size ≤ gb210)); replace HK := Aside0.mk (KeepBut.trans (by repeat (first | (with_reducible first | exact HK.out | apply KeepBut.set_ | apply keep_drewN | apply keep_drew | apply keep_alloc | refine keep_far ?_ GW193.out _ | refine keep_far ?_ GW197.out _) | exact HK.out)) (KeepBut.of_below hb g none) (.inl rfl)); have NB193_210 := nL hg (bV BK193); have NB210_193 := nG hg (bV BK193); replace BK193 := bB (bV BK193) hb; have NB197_210 := nL hg (bV BK197); have NB210_197 := nG hg (bV BK197); replace BK197 := bB (bV BK197) hb; have NB0_210 := Aside0.mk ((by rw [hg]; exact Nat.ne_of_lt (IsS37.lt (show IsS37 w0 _ g s0_0 t208 t209 from by repeat (first | (with_reducible first | exact HI0.out | apply IsS37.alloc | apply IsS37.drewN | apply IsS37.drew | apply IsS37.set_1 | apply IsS37.set_2 | refine IsS37.far ?_ NB0_193.out _ | refine IsS37.far ?_ NB0_197.out _) | exact HI0.out))) : g ≠ gb210)); have NB210_0 := Aside0.mk ((by rw [hg]; exact Nat.ne_of_gt (IsS37.lt (show IsS37 w0 _ g s0_0 t208 t209 from by repeat (first | (with_reducible first | exact HI0.out | apply IsS37.alloc | apply IsS37.drewN | apply IsS37.drew | apply IsS37.set_1 | apply IsS37.set_2 | refine IsS37.far ?_ NB0_193.out _ | refine IsS37.far ?_ NB0_197.out _) | exact HI0.out))) : gb210 ≠ g)); replace HI0 := Aside0.mk (IsS37.below (by repeat (first | (with_reducible first | exact HI0.out | apply IsS37.alloc | apply IsS37.drewN | apply IsS37.drew | apply IsS37.set_1 | apply IsS37.set_2 | refine IsS37.far ?_ NB0_193.out _ | refine IsS37.far ?_ NB0_197.out _) | exact HI0.out)) hb); clear hb hbox hg; have hnb74 := NB210_193.out; have hnc74 := NB193_210.out; have hnb75 := NB210_197.out; have hnc75 := NB197_210.out; have hnb76 := NB210_0.out; have hnc76 := NB0_210.out; have hcz77_0 := cz BK210 0 (.int .i64 0); have hcz77_1 := cz BK210 1 (.int .i64 0); have hcz77_2 := cz BK210 2 (.int .i64 0); have hcz77_3 := cz BK210 3 (.int .i64 0); have hfz77_0 := fz BK210 0; have hfz77_1 := fz BK210 1; have hfz77_2 := fz BK210 2; have hfz77_3 := fz BK210 3) | ((with_reducible refine gate_callee (f := 11) rfl ?_); refine goesL_ (some 24) rfl rfl Try.func11 (by kernel_rfl) rfl #[.pointer (some ⟨g, 0, none⟩), .int .i64 3] rfl aE ?_; (with_reducible refine (spec_l1Cur_one.calls g s0_0 t208 t209 3 false t212 t213 w0 _ ?side1 ?side2 A17.out).mono ?_); (case side1 => repeat (first | (with_reducible first | exact HI0.out | apply IsS37.alloc | apply IsS37.drewN | apply IsS37.drew | apply IsS37.set_1 | apply IsS37.set_2 | refine IsS37.far ?_ NB0_193.out _ | refine IsS37.far ?_ NB0_197.out _ | refine IsS37.far ?_ NB0_210.out _) | exact HI0.out)); (case side2 => repeat (first | (with_reducible first | exact HB.out | apply below_alloc | apply pw_below_drewN | apply below_drew1 | refine below_set ?_ (IsS37.ge HI0.out) | refine below_set ?_ GE193.out | refine below_set ?_ GE197.out | refine below_set ?_ GE210.out) | exact HB.out)); rintro e w78 ⟨rfl, hi, hb, hk⟩; refine ⟨_, rfl, ?_⟩; replace HO_198001 := Aside0.mk (Kd.R_mono (Kd.R_keep (IsS37.apart (show IsS37 w0 _ g s0_0 t208 t209 from by repeat (first | (with_reducible first | exact HI0.out | apply IsS37.alloc | apply IsS37.drewN | apply IsS37.drew | apply IsS37.set_1 | apply IsS37.set_2 | refine IsS37.far ?_ NB0_193.out _ | refine IsS37.far ?_ NB0_197.out _ | refine IsS37.far ?_ NB0_210.out _) | exact HI0.out)) (rU (Kd.R_mono (Kd.R_far (p := ⟨gb210, 3, none⟩) (Kd.R_far (p := ⟨gb210, 2, none⟩) (Kd.R_far (p := ⟨gb210, 1, none⟩) (Kd.R_far (p := ⟨gb210, 0, none⟩) (Kd.R_mono HO_198001.out (fun k_ hk => (⟨hk, hk.2⟩ : _ ∧ k_ ≠ gb210))) (fun _ hk => hk.2) (.int .i64 t204)) (fun _ hk => hk.2) (.int .i64 t205)) (fun _ hk => hk.2) (.int .i64 t206)) (fun _ hk => hk.2) (.int .i64 t207)) (fun _ h_ => h_.1))) (by decide)) hk (fun _ h => h.2)) (fun _ h => h.1)); replace BK193 := Aside0.mk (KeepBut.blk hk (g' := gb193) (o := .cells #[.int .i64 0, .slice none 0 0] 25 (0, 0)) (bG NB193_210 BK193) NB193_0.out (by simp)); replace BK197 := Aside0.mk (KeepBut.blk hk (g' := gb197) (o := .cells #[.int .i64 x198000_2, u198001] 25 (0, 0)) (bG NB197_210 BK197) NB197_0.out (by simp)); replace BK210 := Aside0.mk (KeepBut.blk hk (g' := gb210) (o := .cells #[.int .i64 t204, .int .i64 t205, .int .i64 t206, .int .i64 t207] 47 (0, 0)) (by refine bU ?_; refine blk_put (cs := #[.int .i64 t204, .int .i64 t205, .int .i64 t206, .int .i64 0]) ?_ 3 _ rfl; refine bU ?_; refine blk_put (cs := #[.int .i64 t204, .int .i64 t205, .int .i64 0, .int .i64 0]) ?_ 2 _ rfl; refine bU ?_; refine blk_put (cs := #[.int .i64 t204, .int .i64 0, .int .i64 0, .int .i64 0]) ?_ 1 _ rfl; refine bU ?_; refine blk_put (cs := #[.int .i64 0, .int .i64 0, .int .i64 0, .int .i64 0]) ?_ 0 _ rfl; refine bU ?_; exact BK210.out) NB210_0.out (by simp)); replace HK := Aside0.mk (KeepBut.trans (by repeat (first | (with_reducible first | exact HK.out | apply KeepBut.set_ | apply keep_drewN | apply keep_drew | apply keep_alloc | refine keep_far ?_ GW193.out _ | refine keep_far ?_ GW197.out _ | refine keep_far ?_ GW210.out _) | exact HK.out)) hk (.inl rfl)); replace HB := Aside0.mk hb; replace HI0 := Aside0.mk hi; (try clear hb); (try clear hk); (try clear hi); have hcz79_0 := cz BK197 0 (.int .i64 x198000_2); have hcz79_1 := cz BK197 1 (u198001); have hfz79_0 := fz BK197 0; have hfz79_1 := fz BK197 1; have hcz80_0 := cz BK210 0 (.int .i64 t204); have hcz80_1 := cz BK210 1 (.int .i64 t205); have hcz80_2 := cz BK210 2 (.int .i64 t206); have hcz80_3 := cz BK210 3 (.int .i64 t207); have hfz80_0 := fz BK210 0; have hfz80_1 := fz BK210 1; have hfz80_2 := fz BK210 2; have hfz80_3 := fz BK210 3; obtain ⟨Ao81, co81, eo81⟩ := Kd.R_slice HO_198001.out; subst eo81) | ((with_reducible refine gate_callee (f := 20) rfl ?_); refine goesL_ (some 31) rfl rfl Try.func20 (by kernel_rfl) rfl #[.agg #[.int .i64 x198000_2, .slice Ao81 x198001_2.length co81], .agg #[.int .i64 t204, .int .i64 t205, .int .i64 t206, .int .i64 t207]] rfl aE ?_; (with_reducible refine (spec_AddTimer.calls k2 x198000_2 _ _ x198001_2 t204 t205 t206 t207 t223 t224 true _ ?side1 ?side2 A67.out).mono ?_); (case side1 => exact cU (Kd.R_reads' HO_198001.out).2.2); (case side2 => exact (Kd.R_reads' HO_198001.out).2.1); rintro e w82 ⟨v225, rfl, ho0, hb⟩; refine ⟨_, rfl, ?_⟩; have HO226 := Aside0.mk (Kd.R_lower (Kd.R_newB (Kd.R_new' ho0 (Kd.R_lt (rU HO_198001.out))) (g := gb210) (o := .cells #[.int .i64 t204, .int .i64 t205, .int .i64 t206, .int .i64 t207] 47 (0, 0)) (bV BK210)) (keep_size (w := w) (g := g) (row := none) (by repeat (first | (with_reducible first | exact HK.out | apply KeepBut.set_ | apply keep_drewN | apply keep_drew | apply keep_alloc | refine keep_far ?_ GW193.out _ | refine keep_far ?_ GW197.out _ | refine keep_far ?_ GW210.out _) | exact HK.out)))); replace HO_198001 := Aside0.mk (Kd.R_elder' (rU HO_198001.out) (Kd.R_base ho0) hb); replace BK193 := bB (bV BK193) hb; replace BK197 := bB (bV BK197) hb; replace BK210 := bB (bV BK210) hb; replace HK := Aside0.mk (KeepBut.trans (by repeat (first | (with_reducible first | exact HK.out | apply KeepBut.set_ | apply keep_drewN | apply keep_drew | apply keep_alloc | refine keep_far ?_ GW193.out _ | refine keep_far ?_ GW197.out _ | refine keep_far ?_ GW210.out _) | exact HK.out)) (KeepBut.of_below hb g none) (.inl rfl)); replace HB := Aside0.mk (below_step (by repeat (first | (with_reducible first | exact HB.out | apply below_alloc | apply pw_below_drewN | apply below_drew1 | refine below_set ?_ (IsS37.ge HI0.out) | refine below_set ?_ GE193.out | refine below_set ?_ GE197.out | refine below_set ?_ GE210.out) | exact HB.out)) hb); replace HI0 := Aside0.mk (IsS37.below (by repeat (first | (with_reducible first | exact HI0.out | apply IsS37.alloc | apply IsS37.drewN | apply IsS37.drew | apply IsS37.set_1 | apply IsS37.set_2 | refine IsS37.far ?_ NB0_193.out _ | refine IsS37.far ?_ NB0_197.out _ | refine IsS37.far ?_ NB0_210.out _) | exact HI0.out)) hb); (try clear hb); (try clear ho0)) | ((with_reducible refine gate_dst (N := 6) rfl ?_); refine box_event rfl (N := 6) rfl (cs := #[.int .i64 0, .slice none 0 0]) (t := 25) sE ?_; intro gb228 hg w83 hbox hb; replace HO_198001 := Aside0.mk (Kd.R_below (rU HO_198001.out) hb); replace HO226 := Aside0.mk (Kd.R_below (rU HO226.out) hb); replace HB := Aside0.mk (below_step (by repeat (first | (with_reducible first | exact HB.out | apply below_alloc | apply pw_below_drewN | apply below_drew1 | refine below_set ?_ (IsS37.ge HI0.out) | refine below_set ?_ GE193.out | refine below_set ?_ GE197.out | refine below_set ?_ GE210.out) | exact HB.out)) hb); have BK228 := Aside0.mk hbox; have GW228 := Aside0.mk ((by rw [hg]; exact (keep_size (w := w) (g := g) (row := none) (by repeat (first | (with_reducible first | exact HK.out | apply KeepBut.set_ | apply keep_drewN | apply keep_drew | apply keep_alloc | refine keep_far ?_ GW193.out _ | refine keep_far ?_ GW197.out _ | refine keep_far ?_ GW210.out _) | exact HK.out))) : w.heap.size ≤ gb228)); have GE228 := Aside0.mk ((Nat.le_trans HW0.out (by rw [hg]; exact (keep_size (w := w) (g := g) (row := none) (by repeat (first | (with_reducible first | exact HK.out | apply KeepBut.set_ | apply keep_drewN | apply keep_drew | apply keep_alloc | refine keep_far ?_ GW193.out _ | refine keep_far ?_ GW197.out _ | refine keep_far ?_ GW210.out _) | exact HK.out))) : w.heap.size ≤ gb228) : w0.heap.size ≤ gb228)); replace HK := Aside0.mk (KeepBut.trans (by repeat (first | (with_reducible first | exact HK.out | apply KeepBut.set_ | apply keep_drewN | apply keep_drew | apply keep_alloc | refine keep_far ?_ GW193.out _ | refine keep_far ?_ GW197.out _ | refine keep_far ?_ GW210.out _) | exact HK.out)) (KeepBut.of_below hb g none) (.inl rfl)); have NB193_228 := nL hg (bV BK193); have NB228_193 := nG hg (bV BK193); replace BK193 := bB (bV BK193) hb; have NB197_228 := nL hg (bV BK197); have NB228_197 := nG hg (bV BK197); replace BK197 := bB (bV BK197) hb; have NB210_228 := nL hg (bV BK210); have NB228_210 := nG hg (bV BK210); replace BK210 := bB (bV BK210) hb; have NB0_228 := Aside0.mk ((by rw [hg]; exact Nat.ne_of_lt (IsS37.lt (show IsS37 w0 _ g s0_0 t212 t213 from by repeat (first | (with_reducible first | exact HI0.out | apply IsS37.alloc | apply IsS37.drewN | apply IsS37.drew | apply IsS37.set_1 | apply IsS37.set_2 | refine IsS37.far ?_ NB0_193.out _ | refine IsS37.far ?_ NB0_197.out _ | refine IsS37.far ?_ NB0_210.out _) | exact HI0.out))) : g ≠ gb228)); have NB228_0 := Aside0.mk ((by rw [hg]; exact Nat.ne_of_gt (IsS37.lt (show IsS37 w0 _ g s0_0 t212 t213 from by repeat (first | (with_reducible first | exact HI0.out | apply IsS37.alloc | apply IsS37.drewN | apply IsS37.drew | apply IsS37.set_1 | apply IsS37.set_2 | refine IsS37.far ?_ NB0_193.out _ | refine IsS37.far ?_ NB0_197.out _ | refine IsS37.far ?_ NB0_210.out _) | exact HI0.out))) : gb228 ≠ g)); replace HI0 := Aside0.mk (IsS37.below (by repeat (first | (with_reducible first | exact HI0.out | apply IsS37.alloc | apply IsS37.drewN | apply IsS37.drew | apply IsS37.set_1 | apply IsS37.set_2 | refine IsS37.far ?_ NB0_193.out _ | refine IsS37.far ?_ NB0_197.out _ | refine IsS37.far ?_ NB0_210.out _) | exact HI0.out)) hb); clear hb hbox hg; have hnb84 := NB228_193.out; have hnc84 := NB193_228.out; have hnb85 := NB228_197.out; have hnc85 := NB197_228.out; have hnb86 := NB228_210.out; have hnc86 := NB210_228.out; have hnb87 := NB228_0.out; have hnc87 := NB0_228.out; have hcz88_0 := cz BK228 0 (.int .i64 0); have hcz88_1 := cz BK228 1 (.slice none 0 0); have hfz88_0 := fz BK228 0; have hfz88_1 := fz BK228 1; obtain ⟨Ao89, co89, eo89⟩ := Kd.R_slice HO226.out; subst eo89; have hcz90_0 := cz BK197 0 (.int .i64 x198000_2); have hcz90_1 := cz BK197 1 (.slice Ao81 x198001_2.length co81); have hfz90_0 := fz BK197 0; have hfz90_1 := fz BK197 1))
        go_roundg k2
        case measure => have := HJ4.out; have := HK2.out; omega
        case rel => exact ⟨(wrap64 (x4_2 - 1)), (t212), (t213), (t223), (t224), (.slice Ao89 t224.length co89), tE, H', ⟨by have := HJ4.out; have := HK2.out; omega⟩, ⟨by (with_reducible repeat (first | apply Kd.R_alloc | apply Kd.R_drewN | apply Kd.R_drew)); exact Kd.R_mono (Kd.R_far (p := ⟨gb197, 1, none⟩) (Kd.R_far (p := ⟨gb197, 0, none⟩) (Kd.R_far (p := ⟨gb228, 1, none⟩) (Kd.R_far (p := ⟨gb228, 0, none⟩) (Kd.R_types (Kd.R_types HO226.out BK228.out (by decide)) BK197.out (by decide)) (fun _ hk => hk.1.2) (.int .i64 t223)) (fun _ hk => hk.1.2) (.slice Ao89 t224.length co89)) (fun _ hk => hk.2) (.int .i64 t223)) (fun _ hk => hk.2) (.slice Ao89 t224.length co89)) (fun _ hk => trivial)⟩, ⟨by refine bU ?_; refine blk_far ?_ NB193_197.out _; refine bU ?_; refine blk_far ?_ NB193_197.out _; refine bU ?_; refine blk_far ?_ NB193_228.out _; refine bU ?_; refine blk_far ?_ NB193_228.out _; refine bU ?_; exact BK193.out⟩, ⟨by refine bU ?_; refine blk_put (cs := #[.int .i64 t223, .slice Ao81 x198001_2.length co81]) ?_ 1 _ rfl; refine bU ?_; refine blk_put (cs := #[.int .i64 x198000_2, .slice Ao81 x198001_2.length co81]) ?_ 0 _ rfl; refine bU ?_; refine blk_far ?_ NB197_228.out _; refine bU ?_; refine blk_far ?_ NB197_228.out _; refine bU ?_; exact BK197.out⟩, ⟨by repeat (first | (with_reducible first | exact HI0.out | apply IsS37.alloc | apply IsS37.drewN | apply IsS37.drew | apply IsS37.set_1 | apply IsS37.set_2 | refine IsS37.far ?_ NB0_193.out _ | refine IsS37.far ?_ NB0_197.out _ | refine IsS37.far ?_ NB0_210.out _ | refine IsS37.far ?_ NB0_228.out _) | exact HI0.out)⟩, ⟨by repeat (first | (with_reducible first | exact HK.out | apply KeepBut.set_ | apply keep_drewN | apply keep_drew | apply keep_alloc | refine keep_far ?_ GW193.out _ | refine keep_far ?_ GW197.out _ | refine keep_far ?_ GW210.out _ | refine keep_far ?_ GW228.out _) | exact HK.out)⟩, ⟨by repeat (first | (with_reducible first | exact HB.out | apply below_alloc | apply pw_below_drewN | apply below_drew1 | refine below_set ?_ (IsS37.ge HI0.out) | refine below_set ?_ GE193.out | refine below_set ?_ GE197.out | refine below_set ?_ GE210.out | refine below_set ?_ GE228.out) | exact HB.out)⟩⟩
       ·replace c68 := Bool.eq_false_iff.mpr c68
        subst c68
        have H1 : (spec_l1Cur_clock.l0 k2 (wrap64 (x4_2 - 1)) s0_0 t212 t213 x198000_2 x198001_2) = some (r1, r2, r3, r4) := by rw [if_neg (show ¬ (false = true) by decide)] at H; exact H
        clear H
        have H := H1
        clear H1
        have H' := Aside0.mk H
        clear H
        have hnb91 := NB197_193.out
        have hnc91 := NB193_197.out
        have hnb92 := NB197_0.out
        have hnc92 := NB0_197.out
        have hcz93_0 := cz BK197 0 (.int .i64 x198000_2)
        have hcz93_1 := cz BK197 1 (u198001)
        have hfz93_0 := fz BK197 0
        have hfz93_1 := fz BK197 1
        go_wp2_with (first | ((with_reducible refine gate_callee (f := 19) rfl ?_); refine goesL_ (some 22) rfl rfl Try.func19 (by kernel_rfl) rfl #[.pointer (some ⟨g, 0, none⟩), .int .i64 x198000_2] rfl aE ?_; (with_reducible refine (spec_l1Cur_timer.calls k2 g s0_0 x1001_2 x1002_2 x198000_2 t204 t205 t206 t207 t208 t209 w0 _ ?side1 ?side2 A16.out).mono ?_); (case side1 => repeat (first | (with_reducible first | exact HI0.out | apply IsS37.alloc | apply IsS37.drewN | apply IsS37.drew | apply IsS37.set_1 | apply IsS37.set_2 | refine IsS37.far ?_ NB0_193.out _ | refine IsS37.far ?_ NB0_197.out _) | exact HI0.out)); (case side2 => repeat (first | (with_reducible first | exact HB.out | apply below_alloc | apply pw_below_drewN | apply below_drew1 | refine below_set ?_ (IsS37.ge HI0.out) | refine below_set ?_ GE193.out | refine below_set ?_ GE197.out) | exact HB.out)); rintro e w94 ⟨rfl, hi, hb, hk⟩; refine ⟨_, rfl, ?_⟩; replace HO_198001 := Aside0.mk (Kd.R_mono (Kd.R_keep (IsS37.apart (show IsS37 w0 _ g s0_0 x1001_2 x1002_2 from by repeat (first | (with_reducible first | exact HI0.out | apply IsS37.alloc | apply IsS37.drewN | apply IsS37.drew | apply IsS37.set_1 | apply IsS37.set_2 | refine IsS37.far ?_ NB0_193.out _ | refine IsS37.far ?_ NB0_197.out _) | exact HI0.out)) (rU HO_198001.out) (by decide)) hk (fun _ h => h.2)) (fun _ h => h.1)); replace BK193 := Aside0.mk (KeepBut.blk hk (g' := gb193) (o := .cells #[.int .i64 0, .slice none 0 0] 25 (0, 0)) (bV BK193) NB193_0.out (by simp)); replace BK197 := Aside0.mk (KeepBut.blk hk (g' := gb197) (o := .cells #[.int .i64 x198000_2, u198001] 25 (0, 0)) (bV BK197) NB197_0.out (by simp)); replace HK := Aside0.mk (KeepBut.trans (by repeat (first | (with_reducible first | exact HK.out | apply KeepBut.set_ | apply keep_drewN | apply keep_drew | apply keep_alloc | refine keep_far ?_ GW193.out _ | refine keep_far ?_ GW197.out _) | exact HK.out)) hk (.inl rfl)); replace HB := Aside0.mk hb; replace HI0 := Aside0.mk hi; (try clear hb); (try clear hk); (try clear hi)) | ((with_reducible refine gate_dst (N := 5) rfl ?_); refine box_event rfl (N := 5) rfl (cs := #[.int .i64 0, .int .i64 0, .int .i64 0, .int .i64 0]) (t := 47) sE ?_; intro gb210 hg w95 hbox hb; replace HO_198001 := Aside0.mk (Kd.R_below (Kd.R_elderB (rU HO_198001.out) gb210 (Nat.le_of_eq hg.symm)) hb); replace HB := Aside0.mk (below_step (by repeat (first | (with_reducible first | exact HB.out | apply below_alloc | apply pw_below_drewN | apply below_drew1 | refine below_set ?_ (IsS37.ge HI0.out) | refine below_set ?_ GE193.out | refine below_set ?_ GE197.out) | exact HB.out)) hb); have BK210 := Aside0.mk hbox; have GW210 := Aside0.mk ((by rw [hg]; exact (keep_size (w := w) (g := g) (row := none) (by repeat (first | (with_reducible first | exact HK.out | apply KeepBut.set_ | apply keep_drewN | apply keep_drew | apply keep_alloc | refine keep_far ?_ GW193.out _ | refine keep_far ?_ GW197.out _) | exact HK.out))) : w.heap.size ≤ gb210)); have GE210 := Aside0.mk ((Nat.le_trans HW0.out (by rw [hg]; exact (keep_size (w := w) (g := g) (row := none) (by repeat (first | (with_reducible first | exact HK.out | apply KeepBut.set_ | apply keep_drewN | apply keep_drew | apply keep_alloc | refine keep_far ?_ GW193.out _ | refine keep_far ?_ GW197.out _) | exact HK.out))) : w.heap.size ≤ gb210) : w0.heap.size ≤ gb210)); replace HK := Aside0.mk (KeepBut.trans (by repeat (first | (with_reducible first | exact HK.out | apply KeepBut.set_ | apply keep_drewN | apply keep_drew | apply keep_alloc | refine keep_far ?_ GW193.out _ | refine keep_far ?_ GW197.out _) | exact HK.out)) (KeepBut.of_below hb g none) (.inl rfl)); have NB193_210 := nL hg (bV BK193); have NB210_193 := nG hg (bV BK193); replace BK193 := bB (bV BK193) hb; have NB197_210 := nL hg (bV BK197); have NB210_197 := nG hg (bV BK197); replace BK197 := bB (bV BK197) hb; have NB0_210 := Aside0.mk ((by rw [hg]; exact Nat.ne_of_lt (IsS37.lt (show IsS37 w0 _ g s0_0 t208 t209 from by repeat (first | (with_reducible first | exact HI0.out | apply IsS37.alloc | apply IsS37.drewN | apply IsS37.drew | apply IsS37.set_1 | apply IsS37.set_2 | refine IsS37.far ?_ NB0_193.out _ | refine IsS37.far ?_ NB0_197.out _) | exact HI0.out))) : g ≠ gb210)); have NB210_0 := Aside0.mk ((by rw [hg]; exact Nat.ne_of_gt (IsS37.lt (show IsS37 w0 _ g s0_0 t208 t209 from by repeat (first | (with_reducible first | exact HI0.out | apply IsS37.alloc | apply IsS37.drewN | apply IsS37.drew | apply IsS37.set_1 | apply IsS37.set_2 | refine IsS37.far ?_ NB0_193.out _ | refine IsS37.far ?_ NB0_197.out _) | exact HI0.out))) : gb210 ≠ g)); replace HI0 := Aside0.mk (IsS37.below (by repeat (first | (with_reducible first | exact HI0.out | apply IsS37.alloc | apply IsS37.drewN | apply IsS37.drew | apply IsS37.set_1 | apply IsS37.set_2 | refine IsS37.far ?_ NB0_193.out _ | refine IsS37.far ?_ NB0_197.out _) | exact HI0.out)) hb); clear hb hbox hg; have hnb96 := NB210_193.out; have hnc96 := NB193_210.out; have hnb97 := NB210_197.out; have hnc97 := NB197_210.out; have hnb98 := NB210_0.out; have hnc98 := NB0_210.out; have hcz99_0 := cz BK210 0 (.int .i64 0); have hcz99_1 := cz BK210 1 (.int .i64 0); have hcz99_2 := cz BK210 2 (.int .i64 0); have hcz99_3 := cz BK210 3 (.int .i64 0); have hfz99_0 := fz BK210 0; have hfz99_1 := fz BK210 1; have hfz99_2 := fz BK210 2; have hfz99_3 := fz BK210 3) | ((with_reducible refine gate_callee (f := 11) rfl ?_); refine goesL_ (some 24) rfl rfl Try.func11 (by kernel_rfl) rfl #[.pointer (some ⟨g, 0, none⟩), .int .i64 3] rfl aE ?_; (with_reducible refine (spec_l1Cur_one.calls g s0_0 t208 t209 3 false t212 t213 w0 _ ?side1 ?side2 A17.out).mono ?_); (case side1 => repeat (first | (with_reducible first | exact HI0.out | apply IsS37.alloc | apply IsS37.drewN | apply IsS37.drew | apply IsS37.set_1 | apply IsS37.set_2 | refine IsS37.far ?_ NB0_193.out _ | refine IsS37.far ?_ NB0_197.out _ | refine IsS37.far ?_ NB0_210.out _) | exact HI0.out)); (case side2 => repeat (first | (with_reducible first | exact HB.out | apply below_alloc | apply pw_below_drewN | apply below_drew1 | refine below_set ?_ (IsS37.ge HI0.out) | refine below_set ?_ GE193.out | refine below_set ?_ GE197.out | refine below_set ?_ GE210.out) | exact HB.out)); rintro e w100 ⟨rfl, hi, hb, hk⟩; refine ⟨_, rfl, ?_⟩; replace HO_198001 := Aside0.mk (Kd.R_mono (Kd.R_keep (IsS37.apart (show IsS37 w0 _ g s0_0 t208 t209 from by repeat (first | (with_reducible first | exact HI0.out | apply IsS37.alloc | apply IsS37.drewN | apply IsS37.drew | apply IsS37.set_1 | apply IsS37.set_2 | refine IsS37.far ?_ NB0_193.out _ | refine IsS37.far ?_ NB0_197.out _ | refine IsS37.far ?_ NB0_210.out _) | exact HI0.out)) (rU (Kd.R_mono (Kd.R_far (p := ⟨gb210, 3, none⟩) (Kd.R_far (p := ⟨gb210, 2, none⟩) (Kd.R_far (p := ⟨gb210, 1, none⟩) (Kd.R_far (p := ⟨gb210, 0, none⟩) (Kd.R_mono HO_198001.out (fun k_ hk => (⟨hk, hk.2⟩ : _ ∧ k_ ≠ gb210))) (fun _ hk => hk.2) (.int .i64 t204)) (fun _ hk => hk.2) (.int .i64 t205)) (fun _ hk => hk.2) (.int .i64 t206)) (fun _ hk => hk.2) (.int .i64 t207)) (fun _ h_ => h_.1))) (by decide)) hk (fun _ h => h.2)) (fun _ h => h.1)); replace BK193 := Aside0.mk (KeepBut.blk hk (g' := gb193) (o := .cells #[.int .i64 0, .slice none 0 0] 25 (0, 0)) (bG NB193_210 BK193) NB193_0.out (by simp)); replace BK197 := Aside0.mk (KeepBut.blk hk (g' := gb197) (o := .cells #[.int .i64 x198000_2, u198001] 25 (0, 0)) (bG NB197_210 BK197) NB197_0.out (by simp)); replace BK210 := Aside0.mk (KeepBut.blk hk (g' := gb210) (o := .cells #[.int .i64 t204, .int .i64 t205, .int .i64 t206, .int .i64 t207] 47 (0, 0)) (by refine bU ?_; refine blk_put (cs := #[.int .i64 t204, .int .i64 t205, .int .i64 t206, .int .i64 0]) ?_ 3 _ rfl; refine bU ?_; refine blk_put (cs := #[.int .i64 t204, .int .i64 t205, .int .i64 0, .int .i64 0]) ?_ 2 _ rfl; refine bU ?_; refine blk_put (cs := #[.int .i64 t204, .int .i64 0, .int .i64 0, .int .i64 0]) ?_ 1 _ rfl; refine bU ?_; refine blk_put (cs := #[.int .i64 0, .int .i64 0, .int .i64 0, .int .i64 0]) ?_ 0 _ rfl; refine bU ?_; exact BK210.out) NB210_0.out (by simp)); replace HK := Aside0.mk (KeepBut.trans (by repeat (first | (with_reducible first | exact HK.out | apply KeepBut.set_ | apply keep_drewN | apply keep_drew | apply keep_alloc | refine keep_far ?_ GW193.out _ | refine keep_far ?_ GW197.out _ | refine keep_far ?_ GW210.out _) | exact HK.out)) hk (.inl rfl)); replace HB := Aside0.mk hb; replace HI0 := Aside0.mk hi; (try clear hb); (try clear hk); (try clear hi); have hcz101_0 := cz BK197 0 (.int .i64 x198000_2); have hcz101_1 := cz BK197 1 (u198001); have hfz101_0 := fz BK197 0; have hfz101_1 := fz BK197 1; have hcz102_0 := cz BK210 0 (.int .i64 t204); have hcz102_1 := cz BK210 1 (.int .i64 t205); have hcz102_2 := cz BK210 2 (.int .i64 t206); have hcz102_3 := cz BK210 3 (.int .i64 t207); have hfz102_0 := fz BK210 0; have hfz102_1 := fz BK210 1; have hfz102_2 := fz BK210 2; have hfz102_3 := fz BK210 3; obtain ⟨Ao103, co103, eo103⟩ := Kd.R_slice HO_198001.out; subst eo103) | ((with_reducible refine gate_callee (f := 20) rfl ?_); refine goesL_ (some 31) rfl rfl Try.func20 (by kernel_rfl) rfl #[.agg #[.int .i64 x198000_2, .slice Ao103 x198001_2.length co103], .agg #[.int .i64 t204, .int .i64 t205, .int .i64 t206, .int .i64 t207]] rfl aE ?_; (with_reducible refine (spec_AddTimer.calls k2 x198000_2 _ _ x198001_2 t204 t205 t206 t207 t223 t224 false _ ?side1 ?side2 A67.out).mono ?_); (case side1 => exact cU (Kd.R_reads' HO_198001.out).2.2); (case side2 => exact (Kd.R_reads' HO_198001.out).2.1); rintro e w104 ⟨v225, rfl, ho0, hb⟩; refine ⟨_, rfl, ?_⟩; have HO226 := Aside0.mk (Kd.R_lower (Kd.R_newB (Kd.R_new' ho0 (Kd.R_lt (rU HO_198001.out))) (g := gb210) (o := .cells #[.int .i64 t204, .int .i64 t205, .int .i64 t206, .int .i64 t207] 47 (0, 0)) (bV BK210)) (keep_size (w := w) (g := g) (row := none) (by repeat (first | (with_reducible first | exact HK.out | apply KeepBut.set_ | apply keep_drewN | apply keep_drew | apply keep_alloc | refine keep_far ?_ GW193.out _ | refine keep_far ?_ GW197.out _ | refine keep_far ?_ GW210.out _) | exact HK.out)))); replace HO_198001 := Aside0.mk (Kd.R_elder' (rU HO_198001.out) (Kd.R_base ho0) hb); replace BK193 := bB (bV BK193) hb; replace BK197 := bB (bV BK197) hb; replace BK210 := bB (bV BK210) hb; replace HK := Aside0.mk (KeepBut.trans (by repeat (first | (with_reducible first | exact HK.out | apply KeepBut.set_ | apply keep_drewN | apply keep_drew | apply keep_alloc | refine keep_far ?_ GW193.out _ | refine keep_far ?_ GW197.out _ | refine keep_far ?_ GW210.out _) | exact HK.out)) (KeepBut.of_below hb g none) (.inl rfl)); replace HB := Aside0.mk (below_step (by repeat (first | (with_reducible first | exact HB.out | apply below_alloc | apply pw_below_drewN | apply below_drew1 | refine below_set ?_ (IsS37.ge HI0.out) | refine below_set ?_ GE193.out | refine below_set ?_ GE197.out | refine below_set ?_ GE210.out) | exact HB.out)) hb); replace HI0 := Aside0.mk (IsS37.below (by repeat (first | (with_reducible first | exact HI0.out | apply IsS37.alloc | apply IsS37.drewN | apply IsS37.drew | apply IsS37.set_1 | apply IsS37.set_2 | refine IsS37.far ?_ NB0_193.out _ | refine IsS37.far ?_ NB0_197.out _ | refine IsS37.far ?_ NB0_210.out _) | exact HI0.out)) hb); (try clear hb); (try clear ho0)) | ((with_reducible refine gate_dst (N := 6) rfl ?_); refine box_event rfl (N := 6) rfl (cs := #[.int .i64 0, .slice none 0 0]) (t := 25) sE ?_; intro gb228 hg w105 hbox hb; replace HO_198001 := Aside0.mk (Kd.R_below (rU HO_198001.out) hb); replace HO226 := Aside0.mk (Kd.R_below (rU HO226.out) hb); replace HB := Aside0.mk (below_step (by repeat (first | (with_reducible first | exact HB.out | apply below_alloc | apply pw_below_drewN | apply below_drew1 | refine below_set ?_ (IsS37.ge HI0.out) | refine below_set ?_ GE193.out | refine below_set ?_ GE197.out | refine below_set ?_ GE210.out) | exact HB.out)) hb); have BK228 := Aside0.mk hbox; have GW228 := Aside0.mk ((by rw [hg]; exact (keep_size (w := w) (g := g) (row := none) (by repeat (first | (with_reducible first | exact HK.out | apply KeepBut.set_ | apply keep_drewN | apply keep_drew | apply keep_alloc | refine keep_far ?_ GW193.out _ | refine keep_far ?_ GW197.out _ | refine keep_far ?_ GW210.out _) | exact HK.out))) : w.heap.size ≤ gb228)); have GE228 := Aside0.mk ((Nat.le_trans HW0.out (by rw [hg]; exact (keep_size (w := w) (g := g) (row := none) (by repeat (first | (with_reducible first | exact HK.out | apply KeepBut.set_ | apply keep_drewN | apply keep_drew | apply keep_alloc | refine keep_far ?_ GW193.out _ | refine keep_far ?_ GW197.out _ | refine keep_far ?_ GW210.out _) | exact HK.out))) : w.heap.size ≤ gb228) : w0.heap.size ≤ gb228)); replace HK := Aside0.mk (KeepBut.trans (by repeat (first | (with_reducible first | exact HK.out | apply KeepBut.set_ | apply keep_drewN | apply keep_drew | apply keep_alloc | refine keep_far ?_ GW193.out _ | refine keep_far ?_ GW197.out _ | refine keep_far ?_ GW210.out _) | exact HK.out)) (KeepBut.of_below hb g none) (.inl rfl)); have NB193_228 := nL hg (bV BK193); have NB228_193 := nG hg (bV BK193); replace BK193 := bB (bV BK193) hb; have NB197_228 := nL hg (bV BK197); have NB228_197 := nG hg (bV BK197); replace BK197 := bB (bV BK197) hb; have NB210_228 := nL hg (bV BK210); have NB228_210 := nG hg (bV BK210); replace BK210 := bB (bV BK210) hb; have NB0_228 := Aside0.mk ((by rw [hg]; exact Nat.ne_of_lt (IsS37.lt (show IsS37 w0 _ g s0_0 t212 t213 from by repeat (first | (with_reducible first | exact HI0.out | apply IsS37.alloc | apply IsS37.drewN | apply IsS37.drew | apply IsS37.set_1 | apply IsS37.set_2 | refine IsS37.far ?_ NB0_193.out _ | refine IsS37.far ?_ NB0_197.out _ | refine IsS37.far ?_ NB0_210.out _) | exact HI0.out))) : g ≠ gb228)); have NB228_0 := Aside0.mk ((by rw [hg]; exact Nat.ne_of_gt (IsS37.lt (show IsS37 w0 _ g s0_0 t212 t213 from by repeat (first | (with_reducible first | exact HI0.out | apply IsS37.alloc | apply IsS37.drewN | apply IsS37.drew | apply IsS37.set_1 | apply IsS37.set_2 | refine IsS37.far ?_ NB0_193.out _ | refine IsS37.far ?_ NB0_197.out _ | refine IsS37.far ?_ NB0_210.out _) | exact HI0.out))) : gb228 ≠ g)); replace HI0 := Aside0.mk (IsS37.below (by repeat (first | (with_reducible first | exact HI0.out | apply IsS37.alloc | apply IsS37.drewN | apply IsS37.drew | apply IsS37.set_1 | apply IsS37.set_2 | refine IsS37.far ?_ NB0_193.out _ | refine IsS37.far ?_ NB0_197.out _ | refine IsS37.far ?_ NB0_210.out _) | exact HI0.out)) hb); clear hb hbox hg; have hnb106 := NB228_193.out; have hnc106 := NB193_228.out; have hnb107 := NB228_197.out; have hnc107 := NB197_228.out; have hnb108 := NB228_210.out; have hnc108 := NB210_228.out; have hnb109 := NB228_0.out; have hnc109 := NB0_228.out; have hcz110_0 := cz BK228 0 (.int .i64 0); have hcz110_1 := cz BK228 1 (.slice none 0 0); have hfz110_0 := fz BK228 0; have hfz110_1 := fz BK228 1; obtain ⟨Ao111, co111, eo111⟩ := Kd.R_slice HO226.out; subst eo111))
        go_roundg k2
        case measure => have := HJ4.out; have := HK2.out; omega
        case rel => exact ⟨(wrap64 (x4_2 - 1)), (t212), (t213), (x198000_2), (x198001_2), (.slice Ao103 x198001_2.length co103), tE, H', ⟨by have := HJ4.out; have := HK2.out; omega⟩, ⟨by (with_reducible repeat (first | apply Kd.R_alloc | apply Kd.R_drewN | apply Kd.R_drew)); exact Kd.R_mono (Kd.R_far (p := ⟨gb228, 1, none⟩) (Kd.R_far (p := ⟨gb228, 0, none⟩) (Kd.R_types HO_198001.out BK228.out (by decide)) (fun _ hk => hk.2) (.int .i64 t223)) (fun _ hk => hk.2) (.slice Ao111 t224.length co111)) (fun _ hk => trivial)⟩, ⟨by refine bU ?_; refine blk_far ?_ NB193_228.out _; refine bU ?_; refine blk_far ?_ NB193_228.out _; refine bU ?_; exact BK193.out⟩, ⟨by refine bU ?_; refine blk_far ?_ NB197_228.out _; refine bU ?_; refine blk_far ?_ NB197_228.out _; refine bU ?_; exact BK197.out⟩, ⟨by repeat (first | (with_reducible first | exact HI0.out | apply IsS37.alloc | apply IsS37.drewN | apply IsS37.drew | apply IsS37.set_1 | apply IsS37.set_2 | refine IsS37.far ?_ NB0_193.out _ | refine IsS37.far ?_ NB0_197.out _ | refine IsS37.far ?_ NB0_210.out _ | refine IsS37.far ?_ NB0_228.out _) | exact HI0.out)⟩, ⟨by repeat (first | (with_reducible first | exact HK.out | apply KeepBut.set_ | apply keep_drewN | apply keep_drew | apply keep_alloc | refine keep_far ?_ GW193.out _ | refine keep_far ?_ GW197.out _ | refine keep_far ?_ GW210.out _ | refine keep_far ?_ GW228.out _) | exact HK.out)⟩, ⟨by repeat (first | (with_reducible first | exact HB.out | apply below_alloc | apply pw_below_drewN | apply below_drew1 | refine below_set ?_ (IsS37.ge HI0.out) | refine below_set ?_ GE193.out | refine below_set ?_ GE197.out | refine below_set ?_ GE210.out | refine below_set ?_ GE228.out) | exact HB.out)⟩⟩
     ·rw [if_neg c15] at H
      have c15b0 : decide (0 < x4_2) = false := decide_eq_false c15
      clear c15
      replace H := Option.bind_eq_some_iff.mp H
      obtain ⟨⟨t229, t230, t231⟩, A1120, H⟩ := H
      replace H : (if t229 = true then ((spec_l1Cur_timer.f k2 s0_0 t230 t231 x198000_2).bind fun bt232 => (if x198001_2.length < 4398046511104 then (spec_l1Cur_clock.j2 k2 s0_0 bt232.2.2.2.2.1 bt232.2.2.2.2.2 x198000_2 (x198001_2 ++ [(⟨bt232.1, bt232.2.1, bt232.2.2.1, bt232.2.2.2.1⟩ : S47)])) else (none))) else (spec_l1Cur_clock.j2 k2 s0_0 t230 t231 x198000_2 x198001_2)) = some (r1, r2, r3, r4) := H
      have A112 := Aside0.mk A1120
      clear A1120
      have HC113 := Aside0.mk H
      clear H
      go_upto_if 37 with (first | ((with_reducible refine gate_callee (f := 11) rfl ?_); refine goesL_ (some 37) rfl rfl Try.func11 (by kernel_rfl) rfl #[.pointer (some ⟨g, 0, none⟩), .int .i64 30] rfl aE ?_; (with_reducible refine (spec_l1Cur_one.calls g s0_0 x1001_2 x1002_2 30 t229 t230 t231 w0 _ ?side1 ?side2 A112.out).mono ?_); (case side1 => repeat (first | (with_reducible first | exact HI0.out | apply IsS37.alloc | apply IsS37.drewN | apply IsS37.drew | apply IsS37.set_1 | apply IsS37.set_2 | refine IsS37.far ?_ NB0_193.out _ | refine IsS37.far ?_ NB0_197.out _) | exact HI0.out)); (case side2 => repeat (first | (with_reducible first | exact HB.out | apply below_alloc | apply pw_below_drewN | apply below_drew1 | refine below_set ?_ (IsS37.ge HI0.out) | refine below_set ?_ GE193.out | refine below_set ?_ GE197.out) | exact HB.out)); rintro e w114 ⟨rfl, hi, hb, hk⟩; refine ⟨_, rfl, ?_⟩; replace HO_198001 := Aside0.mk (Kd.R_mono (Kd.R_keep (IsS37.apart (show IsS37 w0 _ g s0_0 x1001_2 x1002_2 from by repeat (first | (with_reducible first | exact HI0.out | apply IsS37.alloc | apply IsS37.drewN | apply IsS37.drew | apply IsS37.set_1 | apply IsS37.set_2 | refine IsS37.far ?_ NB0_193.out _ | refine IsS37.far ?_ NB0_197.out _) | exact HI0.out)) (rU HO_198001.out) (by decide)) hk (fun _ h => h.2)) (fun _ h => h.1)); replace BK193 := Aside0.mk (KeepBut.blk hk (g' := gb193) (o := .cells #[.int .i64 0, .slice none 0 0] 25 (0, 0)) (bV BK193) NB193_0.out (by simp)); replace BK197 := Aside0.mk (KeepBut.blk hk (g' := gb197) (o := .cells #[.int .i64 x198000_2, u198001] 25 (0, 0)) (bV BK197) NB197_0.out (by simp)); replace HK := Aside0.mk (KeepBut.trans (by repeat (first | (with_reducible first | exact HK.out | apply KeepBut.set_ | apply keep_drewN | apply keep_drew | apply keep_alloc | refine keep_far ?_ GW193.out _ | refine keep_far ?_ GW197.out _) | exact HK.out)) hk (.inl rfl)); replace HB := Aside0.mk hb; replace HI0 := Aside0.mk hi; (try clear hb); (try clear hk); (try clear hi)))
      (try simp only [Act.put, List.setIfInBounds_toArray, List.set_cons_zero, List.set_cons_succ])
      go_cut [] (fun wc => ∃ (kq : Nat) (x1001_112 : Int) (x1002_112 : Int) (x198001_112 : List (S47)) (u198001 : Value), Aside0 (spec_l1Cur_clock.j2 kq s0_0 x1001_112 x1002_112 x198000_2 x198001_112 = some (r1, r2, r3, r4)) ∧ Aside0 (kq ≤ k2) ∧ Aside0 (Kd.R k47 47 wc w.heap.size (fun _ => True) u198001 x198001_112) ∧ Aside0 (wc.heap[gb193]? = some (.cells #[.int .i64 0, (.slice none 0 0)] 25 (0, 0))) ∧ Aside0 (wc.heap[gb197]? = some (.cells #[.int .i64 x198000_2, u198001] 25 (0, 0))) ∧ Aside0 (IsS37 w0 wc g s0_0 x1001_112 x1002_112) ∧ Aside0 (KeepBut w wc g none) ∧ Aside0 (Below w0.heap.size w0 wc))
      case first =>
       have H := HC113.out
       clear HC113
       by_cases c115 : t229 = true
       ·subst c115
        have H1 : ((spec_l1Cur_timer.f k2 s0_0 t230 t231 x198000_2).bind fun bt232 => (if x198001_2.length < 4398046511104 then (spec_l1Cur_clock.j2 k2 s0_0 bt232.2.2.2.2.1 bt232.2.2.2.2.2 x198000_2 (x198001_2 ++ [(⟨bt232.1, bt232.2.1, bt232.2.2.1, bt232.2.2.2.1⟩ : S47)])) else (none))) = some (r1, r2, r3, r4) := by rw [if_pos rfl] at H; exact H
        clear H
        have H := H1
        clear H1
        replace H := Option.bind_eq_some_iff.mp H
        obtain ⟨⟨t232, t233, t234, t235, t236, t237⟩, A1160, H⟩ := H
        replace H : (if x198001_2.length < 4398046511104 then (spec_l1Cur_clock.j2 k2 s0_0 t236 t237 x198000_2 (x198001_2 ++ [(⟨t232, t233, t234, t235⟩ : S47)])) else (none)) = some (r1, r2, r3, r4) := H
        have A116 := Aside0.mk A1160
        clear A1160
        by_cases c117 : x198001_2.length < 4398046511104
        ·rw [if_pos c117] at H
         have LMc117 := Aside0.mk c117
         clear c117
         obtain ⟨y238, hy238⟩ : ∃ y_ : List (S47), y_ = (x198001_2 ++ [(⟨t232, t233, t234, t235⟩ : S47)]) := ⟨_, rfl⟩
         replace H : (spec_l1Cur_clock.j2 k2 s0_0 t236 t237 x198000_2 y238) = some (r1, r2, r3, r4) := by first | (rw [hy238]; with_reducible exact H) | (have H2_ := (Option.bind_some _ _).symm.trans H; rw [hy238]; with_reducible exact H2_) | (have H2_ := (Option.bind_some _ _).symm.trans H; with_reducible exact H2_) | with_reducible exact H | (rw [hy238]; exact H) | exact H
         have Ny238 := Aside0.mk hy238
         clear hy238
         have H' := Aside0.mk H
         clear H
         try go_wp2
         replace HO_198001 := Aside0.mk (Kd.R_drew HO_198001.out)
         replace BK193 := Aside0.mk (blk_drew BK193.out)
         replace BK197 := Aside0.mk (blk_drew BK197.out)
         replace HI0 := Aside0.mk (IsS37.drew HI0.out)
         replace HK := Aside0.mk (keep_drew HK.out)
         replace HB := Aside0.mk (below_drew1 HB.out)
         refine start_ (n := 10) (S := fun w' => w'.cell? ⟨gb197, 0, none⟩ = some (.int .i64 x198000_2) ∧ w'.cell? ⟨gb197, 1, none⟩ = some (u198001)) (ds := [9]) #[false, false, false, false, false, false, false, false, false, false] (by kernel_rfl) rfl rfl ⟨cz BK197 0 _, cz BK197 1 _⟩ (fun hHeld => ?_); refine with_tabW spec_l1Cur_clock.tab14 spec_l1Cur_clock.bits14 (fun HT_ HW_ => ?_)
         generalize w114.drew = w118 at HO_198001 BK193 BK197 HI0 HK HB hHeld ⊢
         refine pureA 0 38 (bz 10 1) rfl rfl (any_of HT_.out (by kernel_rfl)) ?_
         refine pureA 2 40 (bz 10 5) rfl rfl (any_of HT_.out (by kernel_rfl)) ?_
         refine pureA 3 41 (bz 10 13) rfl rfl (any_of HT_.out (by kernel_rfl)) ?_
         refine takeA 1 39 (bz 10 15) rfl rfl (take_ofW HT_.out HW_.out (by kernel_rfl)) hHeld (by rintro w' ⟨s0, s1⟩; go_simp; with_reducible rfl) ?_
         refine takeA 4 42 (bz 10 31) rfl rfl (take_ofW HT_.out HW_.out (by kernel_rfl)) hHeld (by rintro w' ⟨s0, s1⟩; go_simp; with_reducible rfl) ?_
         refine one_ (i := 5) (N := some 43) (bz 10 63) rfl rfl (one_of HT_.out (by kernel_rfl)) (by decide) (fun K hK => ?_)
         refine goes_ Try.func19 (by kernel_rfl) rfl #[.pointer (some ⟨g, 0, none⟩), .int .i64 x198000_2] (by rfl) rfl rfl aE ?_
         with_reducible refine (spec_l1Cur_timer.calls k2 g s0_0 t230 t231 x198000_2 t232 t233 t234 t235 t236 t237 w0 _ ?side1 ?side2 A116.out).mono ?_
         (case side1 => repeat (first | (with_reducible first | exact HI0.out | apply IsS37.alloc | apply IsS37.drewN | apply IsS37.drew | apply IsS37.set_1 | apply IsS37.set_2 | refine IsS37.far ?_ NB0_193.out _ | refine IsS37.far ?_ NB0_197.out _) | exact HI0.out))
         (case side2 => repeat (first | (with_reducible first | exact HB.out | apply below_alloc | apply pw_below_drewN | apply below_drew1 | refine below_set ?_ (IsS37.ge HI0.out) | refine below_set ?_ GE193.out | refine below_set ?_ GE197.out) | exact HB.out))
         rintro e w119 ⟨rfl, hi, hb, hk⟩
         refine ⟨_, rfl, ?_⟩
         replace HO_198001 := Aside0.mk (Kd.R_mono (Kd.R_keep (IsS37.apart (show IsS37 w0 _ g s0_0 t230 t231 from by repeat (first | (with_reducible first | exact HI0.out | apply IsS37.alloc | apply IsS37.drewN | apply IsS37.drew | apply IsS37.set_1 | apply IsS37.set_2 | refine IsS37.far ?_ NB0_193.out _ | refine IsS37.far ?_ NB0_197.out _) | exact HI0.out)) (rU HO_198001.out) (by decide)) hk (fun _ h => h.2)) (fun _ h => h.1))
         replace BK193 := Aside0.mk (KeepBut.blk hk (g' := gb193) (o := .cells #[.int .i64 0, .slice none 0 0] 25 (0, 0)) (bV BK193) NB193_0.out (by simp))
         replace BK197 := Aside0.mk (KeepBut.blk hk (g' := gb197) (o := .cells #[.int .i64 x198000_2, u198001] 25 (0, 0)) (bV BK197) NB197_0.out (by simp))
         replace HK := Aside0.mk (KeepBut.trans (by repeat (first | (with_reducible first | exact HK.out | apply KeepBut.set_ | apply keep_drewN | apply keep_drew | apply keep_alloc | refine keep_far ?_ GW193.out _ | refine keep_far ?_ GW197.out _) | exact HK.out)) hk (.inl rfl))
         replace HB := Aside0.mk hb
         replace HI0 := Aside0.mk hi
         (try clear hb)
         (try clear hb2)
         (try clear hk)
         (try clear hi)
         refine hK.out _ _ ⟨cz BK197 0 _, cz BK197 1 _⟩ (fun hHeld => ?_)
         clear hK K
         refine norm_ (a' := ?_) ?_ ?_
         rotate_left
         ·show Act.put _ (some 43) _ = _
          simp only [Act.put, List.setIfInBounds_toArray, List.set_cons_zero, List.set_cons_succ, i64_w, i32_w]
          rfl
         refine one_ (i := 6) (N := some 44) (bz 10 127) rfl rfl (one_of HT_.out (by kernel_rfl)) (by decide) (fun K hK => ?_)
         refine value_ (w1 := ?_) (v := ?_) (by rfl) rfl ?_ ?_
         rotate_left 2
         ·go_simp
          constructor
          ·rfl
          ·rfl
         refine hK.out _ _ ⟨(blk_cell (blk_alloc BK197.out _) 0).trans rfl, (blk_cell (blk_alloc BK197.out _) 1).trans rfl⟩ (fun hHeld => ?_)
         clear hK K
         refine norm_ (a' := ?_) ?_ ?_
         rotate_left
         ·show Act.put _ (some 44) _ = _
          simp only [Act.put, List.setIfInBounds_toArray, List.set_cons_zero, List.set_cons_succ, i64_w, i32_w]
          rfl
         refine one_ (i := 7) (N := some 45) (bz 10 255) rfl rfl (one_of HT_.out (by kernel_rfl)) (by decide) (fun K hK => ?_)
         refine Kd.R_append_step k47 w.heap.size (by rfl) (.tmp 39) (.tmp 44) 23 47 (.agg #[(.int .i64 0), (.int .i64 0), (.int .i64 0), (.int .i64 0)]) 32 rfl Try.underlying23 info47 rfl (by decide) (by omega) u198001 x198001_2 (⟨t232, t233, t234, t235⟩ : S47) [.int .i64 t232, .int .i64 t233, .int .i64 t234, .int .i64 t235] (fun _ => True) (fun _ => False) rfl rfl ?aP (fun _ hk => hk.elim) ?aF ?aO (Below.refl _ _) ?aS ?aL ?_
         (case aP => exact k47_mkM _ _ _ (⟨t232, t233, t234, t235⟩ : S47))
         (case aF => exact (fun _ _ => trivial))
         (case aO => exact (rU HO_198001.out))
         (case aS => exact (keep_size (w := w) (g := g) (row := none) (by repeat (first | (with_reducible first | exact HK.out | apply KeepBut.set_ | apply keep_drewN | apply keep_drew | apply keep_alloc | refine keep_far ?_ GW193.out _ | refine keep_far ?_ GW197.out _) | exact HK.out))))
         (case aL => have := LMc117.out; omega)
         intro v239 w120 ho hb hg hat
         rw [← Ny238.out] at ho
         replace BK193 := Aside0.mk (blk_grown (g := gb193) (o := .cells #[.int .i64 0, .slice none 0 0] 25 (0, 0)) (bV BK193) hg (Kd.R_ne HO_198001.out BK193.out (by decide)))
         replace BK197 := Aside0.mk (blk_grown (g := gb197) (o := .cells #[.int .i64 x198000_2, u198001] 25 (0, 0)) (bV BK197) hg (Kd.R_ne HO_198001.out BK197.out (by decide)))
         replace HB := Aside0.mk (below_weaken (by repeat (first | (with_reducible first | exact HB.out | apply below_alloc | apply pw_below_drewN | apply below_drew1 | refine below_set ?_ (IsS37.ge HI0.out) | refine below_set ?_ GE193.out | refine below_set ?_ GE197.out) | exact HB.out)) HL.out hb)
         replace HI0 := Aside0.mk (IsS37.grown (by repeat (first | (with_reducible first | exact HI0.out | apply IsS37.alloc | apply IsS37.drewN | apply IsS37.drew | apply IsS37.set_1 | apply IsS37.set_2 | refine IsS37.far ?_ NB0_193.out _ | refine IsS37.far ?_ NB0_197.out _) | exact HI0.out)) hg (IsS37.own_ne HI0.out HO_198001.out (by decide)))
         replace HK := Aside0.mk (KeepBut.trans (by repeat (first | (with_reducible first | exact HK.out | apply KeepBut.set_ | apply keep_drewN | apply keep_drew | apply keep_alloc | refine keep_far ?_ GW193.out _ | refine keep_far ?_ GW197.out _) | exact HK.out)) (KeepBut.of_grown hg g) (Kd.R_base2 HO_198001.out))
         have HO240 := Aside0.mk ho
         clear HO_198001
         clear ho hb hg hat
         obtain ⟨Ao121, co121, eo121⟩ := Kd.R_slice HO240.out
         (first | subst eo121 | (injection eo121 with f1_ f2_ f3_; have f4_ := f1_.symm; have f5_ := f3_.symm; clear f1_ f2_ f3_; subst f4_; subst f5_))
         refine hK.out _ _ ⟨cz BK197 0 _, cz BK197 1 _⟩ (fun hHeld => ?_)
         clear hK K
         refine norm_ (a' := ?_) ?_ ?_
         rotate_left
         ·show Act.put _ (some 45) _ = _
          simp only [Act.put, List.setIfInBounds_toArray, List.set_cons_zero, List.set_cons_succ, i64_w, i32_w]
          rfl
         refine pureA 8 46 (bz 10 511) rfl rfl (any_of HT_.out (by kernel_rfl)) ?_
         refine last_ (i := 9) (N := none) (bz 10 1023) rfl rfl (one_of HT_.out (by kernel_rfl)) (by decide) (fun K hK => ?_)
         have hs122 : w120.cell? ⟨gb197, 1, none⟩ = some (u198001) := (blk_cell BK197.out 1).trans rfl
         have hfs122 := blk_frozen BK197.out 1
         have hns122_0 := NB193_197.out
         have hms122_0 := NB197_193.out
         refine skip_ (w1 := ?_) (by rfl) rfl ?_ ?_
         rotate_left
         ·go_simp
          rfl
         refine hK.out _ _ ?_
         clear hK K
         refine done_ (done_of HT_.out (by kernel_rfl)) ?_
         try go_wp2
         go_meet
         case rel => exact ⟨_, (t236), (t237), (y238), (.slice Ao121 y238.length co121), H', ⟨by have := HJ4.out; have := HK2.out; first | omega | exact Nat.le_refl _⟩, ⟨by (with_reducible repeat (first | apply Kd.R_alloc | apply Kd.R_drewN | apply Kd.R_drew)); exact Kd.R_mono (Kd.R_far (p := ⟨gb197, 1, none⟩) (Kd.R_types HO240.out BK197.out (by decide)) (fun _ hk => hk.2) (.slice Ao121 y238.length co121)) (fun _ hk => trivial)⟩, ⟨by refine bU ?_; refine blk_far ?_ NB193_197.out _; refine bU ?_; exact BK193.out⟩, ⟨by refine bU ?_; refine blk_put (cs := #[.int .i64 x198000_2, u198001]) ?_ 1 _ rfl; refine bU ?_; exact BK197.out⟩, ⟨by repeat (first | (with_reducible first | exact HI0.out | apply IsS37.alloc | apply IsS37.drewN | apply IsS37.drew | apply IsS37.set_1 | apply IsS37.set_2 | refine IsS37.far ?_ NB0_193.out _ | refine IsS37.far ?_ NB0_197.out _) | exact HI0.out)⟩, ⟨by repeat (first | (with_reducible first | exact HK.out | apply KeepBut.set_ | apply keep_drewN | apply keep_drew | apply keep_alloc | refine keep_far ?_ GW193.out _ | refine keep_far ?_ GW197.out _) | exact HK.out)⟩, ⟨by repeat (first | (with_reducible first | exact HB.out | apply below_alloc | apply pw_below_drewN | apply below_drew1 | refine below_set ?_ (IsS37.ge HI0.out) | refine below_set ?_ GE193.out | refine below_set ?_ GE197.out) | exact HB.out)⟩⟩
        ·rw [if_neg c117] at H
         exact absurd H (by simp)
       ·replace c115 := Bool.eq_false_iff.mpr c115
        subst c115
        have H1 : (spec_l1Cur_clock.j2 k2 s0_0 t230 t231 x198000_2 x198001_2) = some (r1, r2, r3, r4) := by rw [if_neg (show ¬ (false = true) by decide)] at H; exact H
        clear H
        have H := H1
        clear H1
        have H' := Aside0.mk H
        clear H
        go_wp2
        go_meet
        case rel => exact ⟨_, (t230), (t231), (x198001_2), (u198001), H', ⟨by have := HJ4.out; have := HK2.out; first | omega | exact Nat.le_refl _⟩, ⟨by (with_reducible repeat (first | apply Kd.R_alloc | apply Kd.R_drewN | apply Kd.R_drew)); exact HO_198001.out⟩, ⟨by refine bU ?_; exact BK193.out⟩, ⟨by refine bU ?_; exact BK197.out⟩, ⟨by repeat (first | (with_reducible first | exact HI0.out | apply IsS37.alloc | apply IsS37.drewN | apply IsS37.drew | apply IsS37.set_1 | apply IsS37.set_2 | refine IsS37.far ?_ NB0_193.out _ | refine IsS37.far ?_ NB0_197.out _) | exact HI0.out)⟩, ⟨by repeat (first | (with_reducible first | exact HK.out | apply KeepBut.set_ | apply keep_drewN | apply keep_drew | apply keep_alloc | refine keep_far ?_ GW193.out _ | refine keep_far ?_ GW197.out _) | exact HK.out)⟩, ⟨by repeat (first | (with_reducible first | exact HB.out | apply below_alloc | apply pw_below_drewN | apply below_drew1 | refine below_set ?_ (IsS37.ge HI0.out) | refine below_set ?_ GE193.out | refine below_set ?_ GE197.out) | exact HB.out)⟩⟩
      case rest =>
       clear HC113
       try clear c1
       try clear c2
       try clear p2
       try clear c3
       try clear c4
       try clear c5
       try clear c6
       try clear p6
       try clear c7
       try clear c8
       try clear c9
       try clear c10
       try clear c11
       try clear c14
       try clear c15
       try clear c15b0
       try clear c18
       try clear c19
       try clear c20
       try clear c21
       try clear c22
       try clear c23
       try clear c27
       try clear c28
       try clear c29
       try clear c38
       try clear c39
       try clear c40
       try clear c41
       try clear c45
       try clear c46
       try clear c50
       try clear c51
       try clear c52
       try clear c61
       try clear c62
       try clear c63
       try clear c64
       try clear p64
       try clear c68
       try clear c69
       try clear c70
       try clear c74
       try clear c75
       try clear c76
       try clear c84
       try clear c85
       try clear c86
       try clear c87
       try clear c91
       try clear c92
       try clear c96
       try clear c97
       try clear c98
       try clear c106
       try clear c107
       try clear c108
       try clear c109
       try clear c115
       try clear c117
       try clear hcz101_0
       try clear hcz101_1
       try clear hcz102_0
       try clear hcz102_1
       try clear hcz102_2
       try clear hcz102_3
       try clear hcz110_0
       try clear hcz110_1
       try clear hcz11_0
       try clear hcz11_1
       try clear hcz24_0
       try clear hcz24_1
       try clear hcz30_0
       try clear hcz30_1
       try clear hcz30_2
       try clear hcz30_3
       try clear hcz33_0
       try clear hcz33_1
       try clear hcz33_2
       try clear hcz33_3
       try clear hcz34_0
       try clear hcz34_1
       try clear hcz42_0
       try clear hcz42_1
       try clear hcz44_0
       try clear hcz44_1
       try clear hcz47_0
       try clear hcz47_1
       try clear hcz53_0
       try clear hcz53_1
       try clear hcz53_2
       try clear hcz53_3
       try clear hcz56_0
       try clear hcz56_1
       try clear hcz56_2
       try clear hcz56_3
       try clear hcz57_0
       try clear hcz57_1
       try clear hcz65_0
       try clear hcz65_1
       try clear hcz71_0
       try clear hcz71_1
       try clear hcz77_0
       try clear hcz77_1
       try clear hcz77_2
       try clear hcz77_3
       try clear hcz79_0
       try clear hcz79_1
       try clear hcz80_0
       try clear hcz80_1
       try clear hcz80_2
       try clear hcz80_3
       try clear hcz88_0
       try clear hcz88_1
       try clear hcz90_0
       try clear hcz90_1
       try clear hcz93_0
       try clear hcz93_1
       try clear hcz99_0
       try clear hcz99_1
       try clear hcz99_2
       try clear hcz99_3
       try clear hfz101_0
       try clear hfz101_1
       try clear hfz102_0
       try clear hfz102_1
       try clear hfz102_2
       try clear hfz102_3
       try clear hfz110_0
       try clear hfz110_1
       try clear hfz11_0
       try clear hfz11_1
       try clear hfz24_0
       try clear hfz24_1
       try clear hfz30_0
       try clear hfz30_1
       try clear hfz30_2
       try clear hfz30_3
       try clear hfz33_0
       try clear hfz33_1
       try clear hfz33_2
       try clear hfz33_3
       try clear hfz34_0
       try clear hfz34_1
       try clear hfz42_0
       try clear hfz42_1
       try clear hfz44_0
       try clear hfz44_1
       try clear hfz47_0
       try clear hfz47_1
       try clear hfz53_0
       try clear hfz53_1
       try clear hfz53_2
       try clear hfz53_3
       try clear hfz56_0
       try clear hfz56_1
       try clear hfz56_2
       try clear hfz56_3
       try clear hfz57_0
       try clear hfz57_1
       try clear hfz65_0
       try clear hfz65_1
       try clear hfz71_0
       try clear hfz71_1
       try clear hfz77_0
       try clear hfz77_1
       try clear hfz77_2
       try clear hfz77_3
       try clear hfz79_0
       try clear hfz79_1
       try clear hfz80_0
       try clear hfz80_1
       try clear hfz80_2
       try clear hfz80_3
       try clear hfz88_0
       try clear hfz88_1
       try clear hfz90_0
       try clear hfz90_1
       try clear hfz93_0
       try clear hfz93_1
       try clear hfz99_0
       try clear hfz99_1
       try clear hfz99_2
       try clear hfz99_3
       try clear p2
       obtain ⟨kq, x1001_112, x1002_112, x198001_112, u198001, HA, HJ112, HO_198001, BK193, BK197, HI0, HK, HB⟩ := hcut
       cases kq with
       | zero => exact absurd HA.out (by simp [spec_l1Cur_clock.j2])
       | succ kj112 =>
        have H := HA.out
        clear HA
        simp only [spec_l1Cur_clock.j2] at H
        replace H := Option.bind_eq_some_iff.mp H
        obtain ⟨⟨t241, t242, t243⟩, A1230, H⟩ := H
        replace H : (if t241 = true then ((spec_l1Cur_among.f s0_0 t242 t243 (([(-1), 100000, 100001] : List Int))).bind fun bt247 => (some (bt247.1, x198001_112, bt247.2.1, bt247.2.2))) else (some (x198000_2, x198001_112, t242, t243))) = some (r1, r2, r3, r4) := H
        have A123 := Aside0.mk A1230
        clear A1230
        by_cases c124 : t241 = true
        ·subst c124
         have H1 : ((spec_l1Cur_among.f s0_0 t242 t243 (([(-1), 100000, 100001] : List Int))).bind fun bt247 => (some (bt247.1, x198001_112, bt247.2.1, bt247.2.2))) = some (r1, r2, r3, r4) := by rw [if_pos rfl] at H; exact H
         clear H
         have H := H1
         clear H1
         obtain ⟨y244, hy244⟩ : ∃ y_ : List Int, y_ = (([(-1), 100000, 100001] : List Int)) := ⟨_, rfl⟩
         replace H : ((spec_l1Cur_among.f s0_0 t242 t243 y244).bind fun bt247 => (some (bt247.1, x198001_112, bt247.2.1, bt247.2.2))) = some (r1, r2, r3, r4) := by first | (rw [hy244]; with_reducible exact H) | (have H2_ := (Option.bind_some _ _).symm.trans H; rw [hy244]; with_reducible exact H2_) | (have H2_ := (Option.bind_some _ _).symm.trans H; with_reducible exact H2_) | with_reducible exact H | (rw [hy244]; exact H) | exact H
         have Ny244 := Aside0.mk hy244
         clear hy244
         replace H := Option.bind_eq_some_iff.mp H
         obtain ⟨⟨t247, t248, t249⟩, A1250, H⟩ := H
         replace H : (some (t247, x198001_112, t248, t249)) = some (r1, r2, r3, r4) := H
         have A125 := Aside0.mk A1250
         clear A1250
         simp only [Option.some.injEq, Prod.mk.injEq] at H
         obtain ⟨rfl, rfl, rfl, rfl⟩ := H
         go_wp2_with (first | ((with_reducible refine gate_callee (f := 11) rfl ?_); refine goesL_ (some 48) rfl rfl Try.func11 (by kernel_rfl) rfl #[.pointer (some ⟨g, 0, none⟩), .int .i64 40] rfl aE ?_; (with_reducible refine (spec_l1Cur_one.calls g s0_0 x1001_112 x1002_112 40 true t242 t243 w0 _ ?side1 ?side2 A123.out).mono ?_); (case side1 => repeat (first | (with_reducible first | exact HI0.out | apply IsS37.alloc | apply IsS37.drewN | apply IsS37.drew | apply IsS37.set_1 | apply IsS37.set_2 | refine IsS37.far ?_ NB0_193.out _ | refine IsS37.far ?_ NB0_197.out _) | exact HI0.out)); (case side2 => repeat (first | (with_reducible first | exact HB.out | apply below_alloc | apply pw_below_drewN | apply below_drew1 | refine below_set ?_ (IsS37.ge HI0.out) | refine below_set ?_ GE193.out | refine below_set ?_ GE197.out) | exact HB.out)); rintro e w126 ⟨rfl, hi, hb, hk⟩; refine ⟨_, rfl, ?_⟩; replace HO_198001 := Aside0.mk (Kd.R_mono (Kd.R_keep (IsS37.apart (show IsS37 w0 _ g s0_0 x1001_112 x1002_112 from by repeat (first | (with_reducible first | exact HI0.out | apply IsS37.alloc | apply IsS37.drewN | apply IsS37.drew | apply IsS37.set_1 | apply IsS37.set_2 | refine IsS37.far ?_ NB0_193.out _ | refine IsS37.far ?_ NB0_197.out _) | exact HI0.out)) (rU HO_198001.out) (by decide)) hk (fun _ h => h.2)) (fun _ h => h.1)); replace BK193 := Aside0.mk (KeepBut.blk hk (g' := gb193) (o := .cells #[.int .i64 0, .slice none 0 0] 25 (0, 0)) (bV BK193) NB193_0.out (by simp)); replace BK197 := Aside0.mk (KeepBut.blk hk (g' := gb197) (o := .cells #[.int .i64 x198000_2, u198001] 25 (0, 0)) (bV BK197) NB197_0.out (by simp)); replace HK := Aside0.mk (KeepBut.trans (by repeat (first | (with_reducible first | exact HK.out | apply KeepBut.set_ | apply keep_drewN | apply keep_drew | apply keep_alloc | refine keep_far ?_ GW193.out _ | refine keep_far ?_ GW197.out _) | exact HK.out)) hk (.inl rfl)); replace HB := Aside0.mk hb; replace HI0 := Aside0.mk hi; (try clear hb); (try clear hk); (try clear hi)) | ((with_reducible refine gate_dst (N := 50) rfl ?_); refine Kd.R_lit (Kd.int .i64) _ 3 ?hg (N := 50) ?hd (xs := ([(-1), 100000, 100001] : List Int)) (inner := [.int .i64 (-1), .int .i64 100000, .int .i64 100001]) (ok := fun _ => True) (okp := fun _ => True) ?hr ?hp (fun _ hk => hk) trivial (Below.refl _ _) (Nat.le_refl _) (by simp) ?_; (case hd => rfl); (case hg => rfl); (case hr => exact sE); (case hp => exact (Reps.one (show Kd.M (Kd.int .i64) _ _ _ (-1) [.int .i64 (-1)] from rfl) (Reps.one (show Kd.M (Kd.int .i64) _ _ _ 100000 [.int .i64 100000] from rfl) (Reps.one (show Kd.M (Kd.int .i64) _ _ _ 100001 [.int .i64 100001] from rfl) (Reps.none _ _))))); intro v245 w127 ho128 hb hg_ hnew_; clear hg_ hnew_; (first | rw [← Ny244.out] at ho128 | (simp only [Int.reduceToNat] at ho128; rw [← Ny244.out] at ho128)); replace HO_198001 := Aside0.mk (Kd.R_below (rU HO_198001.out) hb); have HO246 := Aside0.mk (Kd.R_lower ho128 (keep_size (w := w) (g := g) (row := none) (by repeat (first | (with_reducible first | exact HK.out | apply KeepBut.set_ | apply keep_drewN | apply keep_drew | apply keep_alloc | refine keep_far ?_ GW193.out _ | refine keep_far ?_ GW197.out _) | exact HK.out)))); replace BK193 := bB (bV BK193) hb; replace BK197 := bB (bV BK197) hb; replace HK := Aside0.mk (KeepBut.trans (by repeat (first | (with_reducible first | exact HK.out | apply KeepBut.set_ | apply keep_drewN | apply keep_drew | apply keep_alloc | refine keep_far ?_ GW193.out _ | refine keep_far ?_ GW197.out _) | exact HK.out)) (KeepBut.of_below hb g none) (.inl rfl)); replace HB := Aside0.mk (below_step (by repeat (first | (with_reducible first | exact HB.out | apply below_alloc | apply pw_below_drewN | apply below_drew1 | refine below_set ?_ (IsS37.ge HI0.out) | refine below_set ?_ GE193.out | refine below_set ?_ GE197.out) | exact HB.out)) hb); replace HI0 := Aside0.mk (IsS37.below (by repeat (first | (with_reducible first | exact HI0.out | apply IsS37.alloc | apply IsS37.drewN | apply IsS37.drew | apply IsS37.set_1 | apply IsS37.set_2 | refine IsS37.far ?_ NB0_193.out _ | refine IsS37.far ?_ NB0_197.out _) | exact HI0.out)) hb); clear hb ho128; obtain ⟨Ao129, co129, eo129⟩ := Kd.R_slice HO246.out; subst eo129) | ((with_reducible refine gate_callee (f := 12) rfl ?_); refine goesL_ (some 51) rfl rfl Try.func12 (by kernel_rfl) rfl #[.pointer (some ⟨g, 0, none⟩), .slice Ao129 y244.length co129] rfl aE ?_; (with_reducible refine (spec_l1Cur_among.calls g s0_0 t242 t243 _ _ y244 t247 t248 t249 w0 _ ?side1 ?side2 ?side3 ?side4 ?side5 A125.out).mono ?_); (case side1 => repeat (first | (with_reducible first | exact HI0.out | apply IsS37.alloc | apply IsS37.drewN | apply IsS37.drew | apply IsS37.set_1 | apply IsS37.set_2 | refine IsS37.far ?_ NB0_193.out _ | refine IsS37.far ?_ NB0_197.out _) | exact HI0.out)); (case side2 => repeat (first | (with_reducible first | exact HB.out | apply below_alloc | apply pw_below_drewN | apply below_drew1 | refine below_set ?_ (IsS37.ge HI0.out) | refine below_set ?_ GE193.out | refine below_set ?_ GE197.out) | exact HB.out)); (case side3 => exact cU (Kd.R_reads' HO246.out).2.2); (case side4 => exact (Kd.R_reads' HO246.out).2.1); (case side5 => exact far_slice (IsS37.own_ne HI0.out HO246.out (by decide))); rintro e w130 ⟨rfl, hi, hb, hk⟩; refine ⟨_, rfl, ?_⟩; replace HO_198001 := Aside0.mk (Kd.R_mono (Kd.R_keep (IsS37.apart (show IsS37 w0 _ g s0_0 t242 t243 from by repeat (first | (with_reducible first | exact HI0.out | apply IsS37.alloc | apply IsS37.drewN | apply IsS37.drew | apply IsS37.set_1 | apply IsS37.set_2 | refine IsS37.far ?_ NB0_193.out _ | refine IsS37.far ?_ NB0_197.out _) | exact HI0.out)) (rU HO_198001.out) (by decide)) hk (fun _ h => h.2)) (fun _ h => h.1)); replace BK193 := Aside0.mk (KeepBut.blk hk (g' := gb193) (o := .cells #[.int .i64 0, .slice none 0 0] 25 (0, 0)) (bV BK193) NB193_0.out (by simp)); replace BK197 := Aside0.mk (KeepBut.blk hk (g' := gb197) (o := .cells #[.int .i64 x198000_2, u198001] 25 (0, 0)) (bV BK197) NB197_0.out (by simp)); replace HO246 := Aside0.mk (Kd.R_mono (Kd.R_keep (IsS37.apart (show IsS37 w0 _ g s0_0 t242 t243 from by repeat (first | (with_reducible first | exact HI0.out | apply IsS37.alloc | apply IsS37.drewN | apply IsS37.drew | apply IsS37.set_1 | apply IsS37.set_2 | refine IsS37.far ?_ NB0_193.out _ | refine IsS37.far ?_ NB0_197.out _) | exact HI0.out)) (rU HO246.out) (by decide)) hk (fun _ h => h.2)) (fun _ h => h.1)); replace HK := Aside0.mk (KeepBut.trans (by repeat (first | (with_reducible first | exact HK.out | apply KeepBut.set_ | apply keep_drewN | apply keep_drew | apply keep_alloc | refine keep_far ?_ GW193.out _ | refine keep_far ?_ GW197.out _) | exact HK.out)) hk (.inl rfl)); replace HB := Aside0.mk hb; replace HI0 := Aside0.mk hi; (try clear hb); (try clear hk); (try clear hi); have hnb131 := NB197_193.out; have hnc131 := NB193_197.out; have hnb132 := NB197_0.out; have hnc132 := NB0_197.out; have hcz133_0 := cz BK197 0 (.int .i64 x198000_2); have hcz133_1 := cz BK197 1 (u198001); have hfz133_0 := fz BK197 0; have hfz133_1 := fz BK197 1; have hnb134 := NB193_0.out; have hnc134 := NB0_193.out; have hcz135_0 := cz BK193 0 (.int .i64 0); have hcz135_1 := cz BK193 1 (.slice none 0 0); have hfz135_0 := fz BK193 0; have hfz135_1 := fz BK193 1; obtain ⟨Ao136, co136, eo136⟩ := Kd.R_slice HO_198001.out; subst eo136))
         refine bodyPost_ret (results_cell_row rfl _ _ gb193 25 #[.int .i64 t247, .slice Ao136 x198001_112.length co136] (0, 0) _ rfl (by refine bU ?_; refine blk_put (cs := #[.int .i64 t247, .slice none 0 0]) ?_ 1 _ rfl; refine bU ?_; refine blk_put (cs := #[.int .i64 0, .slice none 0 0]) ?_ 0 _ rfl; refine bU ?_; refine blk_far ?_ NB193_197.out _; refine bU ?_; exact BK193.out) Try.underlying25 rfl (by kernel_rfl)) rfl ?_
         exact ⟨_, eE, by (with_reducible repeat (first | apply Kd.R_alloc | apply Kd.R_drewN | apply Kd.R_drew)); exact Kd.R_mono (Kd.R_far (p := ⟨gb193, 1, none⟩) (Kd.R_far (p := ⟨gb193, 0, none⟩) (Kd.R_far (p := ⟨gb197, 0, none⟩) (Kd.R_types (Kd.R_types HO_198001.out BK197.out (by decide)) BK193.out (by decide)) (fun _ hk => hk.1.2) (.int .i64 t247)) (fun _ hk => hk.2) (.int .i64 t247)) (fun _ hk => hk.2) (.slice Ao136 x198001_112.length co136)) (fun _ hk => trivial), by repeat (first | (with_reducible first | exact HI0.out | apply IsS37.alloc | apply IsS37.drewN | apply IsS37.drew | apply IsS37.set_1 | apply IsS37.set_2 | refine IsS37.far ?_ NB0_193.out _ | refine IsS37.far ?_ NB0_197.out _) | exact HI0.out), by repeat (first | (with_reducible first | exact HB.out | apply below_alloc | apply pw_below_drewN | apply below_drew1 | refine below_set ?_ (IsS37.ge HI0.out) | refine below_set ?_ GE193.out | refine below_set ?_ GE197.out) | exact HB.out), by repeat (first | (with_reducible first | exact HK.out | apply KeepBut.set_ | apply keep_drewN | apply keep_drew | apply keep_alloc | refine keep_far ?_ GW193.out _ | refine keep_far ?_ GW197.out _) | exact HK.out)⟩
        ·replace c124 := Bool.eq_false_iff.mpr c124
         subst c124
         have H1 : (some (x198000_2, x198001_112, t242, t243)) = some (r1, r2, r3, r4) := by rw [if_neg (show ¬ (false = true) by decide)] at H; exact H
         clear H
         have H := H1
         clear H1
         simp only [Option.some.injEq, Prod.mk.injEq] at H
         obtain ⟨rfl, rfl, rfl, rfl⟩ := H
         go_wp2_with (first | ((with_reducible refine gate_callee (f := 11) rfl ?_); refine goesL_ (some 48) rfl rfl Try.func11 (by kernel_rfl) rfl #[.pointer (some ⟨g, 0, none⟩), .int .i64 40] rfl aE ?_; (with_reducible refine (spec_l1Cur_one.calls g s0_0 x1001_112 x1002_112 40 false t242 t243 w0 _ ?side1 ?side2 A123.out).mono ?_); (case side1 => repeat (first | (with_reducible first | exact HI0.out | apply IsS37.alloc | apply IsS37.drewN | apply IsS37.drew | apply IsS37.set_1 | apply IsS37.set_2 | refine IsS37.far ?_ NB0_193.out _ | refine IsS37.far ?_ NB0_197.out _) | exact HI0.out)); (case side2 => repeat (first | (with_reducible first | exact HB.out | apply below_alloc | apply pw_below_drewN | apply below_drew1 | refine below_set ?_ (IsS37.ge HI0.out) | refine below_set ?_ GE193.out | refine below_set ?_ GE197.out) | exact HB.out)); rintro e w137 ⟨rfl, hi, hb, hk⟩; refine ⟨_, rfl, ?_⟩; replace HO_198001 := Aside0.mk (Kd.R_mono (Kd.R_keep (IsS37.apart (show IsS37 w0 _ g s0_0 x1001_112 x1002_112 from by repeat (first | (with_reducible first | exact HI0.out | apply IsS37.alloc | apply IsS37.drewN | apply IsS37.drew | apply IsS37.set_1 | apply IsS37.set_2 | refine IsS37.far ?_ NB0_193.out _ | refine IsS37.far ?_ NB0_197.out _) | exact HI0.out)) (rU HO_198001.out) (by decide)) hk (fun _ h => h.2)) (fun _ h => h.1)); replace BK193 := Aside0.mk (KeepBut.blk hk (g' := gb193) (o := .cells #[.int .i64 0, .slice none 0 0] 25 (0, 0)) (bV BK193) NB193_0.out (by simp)); replace BK197 := Aside0.mk (KeepBut.blk hk (g' := gb197) (o := .cells #[.int .i64 x198000_2, u198001] 25 (0, 0)) (bV BK197) NB197_0.out (by simp)); replace HK := Aside0.mk (KeepBut.trans (by repeat (first | (with_reducible first | exact HK.out | apply KeepBut.set_ | apply keep_drewN | apply keep_drew | apply keep_alloc | refine keep_far ?_ GW193.out _ | refine keep_far ?_ GW197.out _) | exact HK.out)) hk (.inl rfl)); replace HB := Aside0.mk hb; replace HI0 := Aside0.mk hi; (try clear hb); (try clear hk); (try clear hi); have hnb138 := NB197_193.out; have hnc138 := NB193_197.out; have hnb139 := NB197_0.out; have hnc139 := NB0_197.out; have hcz140_0 := cz BK197 0 (.int .i64 x198000_2); have hcz140_1 := cz BK197 1 (u198001); have hfz140_0 := fz BK197 0; have hfz140_1 := fz BK197 1; have hnb141 := NB193_0.out; have hnc141 := NB0_193.out; have hcz142_0 := cz BK193 0 (.int .i64 0); have hcz142_1 := cz BK193 1 (.slice none 0 0); have hfz142_0 := fz BK193 0; have hfz142_1 := fz BK193 1; obtain ⟨Ao143, co143, eo143⟩ := Kd.R_slice HO_198001.out; subst eo143))
         refine bodyPost_ret (results_cell_row rfl _ _ gb193 25 #[.int .i64 x198000_2, .slice Ao143 x198001_112.length co143] (0, 0) _ rfl (by refine bU ?_; refine blk_put (cs := #[.int .i64 x198000_2, .slice none 0 0]) ?_ 1 _ rfl; refine bU ?_; refine blk_put (cs := #[.int .i64 0, .slice none 0 0]) ?_ 0 _ rfl; refine bU ?_; exact BK193.out) Try.underlying25 rfl (by kernel_rfl)) rfl ?_
         exact ⟨_, eE, by (with_reducible repeat (first | apply Kd.R_alloc | apply Kd.R_drewN | apply Kd.R_drew)); exact Kd.R_mono (Kd.R_far (p := ⟨gb193, 1, none⟩) (Kd.R_far (p := ⟨gb193, 0, none⟩) (Kd.R_types HO_198001.out BK193.out (by decide)) (fun _ hk => hk.2) (.int .i64 x198000_2)) (fun _ hk => hk.2) (.slice Ao143 x198001_112.length co143)) (fun _ hk => trivial), by repeat (first | (with_reducible first | exact HI0.out | apply IsS37.alloc | apply IsS37.drewN | apply IsS37.drew | apply IsS37.set_1 | apply IsS37.set_2 | refine IsS37.far ?_ NB0_193.out _ | refine IsS37.far ?_ NB0_197.out _) | exact HI0.out), by repeat (first | (with_reducible first | exact HB.out | apply below_alloc | apply pw_below_drewN | apply below_drew1 | refine below_set ?_ (IsS37.ge HI0.out) | refine below_set ?_ GE193.out | refine below_set ?_ GE197.out) | exact HB.out), by repeat (first | (with_reducible first | exact HK.out | apply KeepBut.set_ | apply keep_drewN | apply keep_drew | apply keep_alloc | refine keep_far ?_ GW193.out _ | refine keep_far ?_ GW197.out _) | exact HK.out)⟩
end Go.Proofs.Ythacmchmppnldaa.PFnPieces
namespace Go.Proofs.Ythacmchmppnldaa.PFnPieces
open Go.RowKit Go.Proofs.YthacmchmppnldaaW.PrintWords Go.Proofs.YthacmchmppnldaaW.PrintLast Go.Proofs.YthacmchmppnldaaW.PrintMore
attribute [local go_sem] max2_int min2_int max_two min_two max_three min_three max_four min_four   -- for this text's walks alone
set_option linter.unusedVariables false
set_option linter.unusedSimpArgs false
def spec_DrawRunClock.f (k : Nat) (l0 : List Int) : Option (Int × (List (S47)) × Int) := (spec_l1Cur_clock.f k l0 0 0).bind fun bt252 => ((spec_l1Cur_pick.f l0 bt252.2.2.1 bt252.2.2.2 80).bind fun bt259 => ((spec_l1Cur_one.f l0 bt259.2.1 bt259.2.2 20).bind fun bt262 => (if bt262.1 = true then ((spec_l1Cur_among.f l0 bt262.2.1 bt262.2.2 (([wrap64 (bt252.1 - 1), 100000, 100001] : List Int))).bind fun bt268 => (some (bt252.1, bt252.2.1, bt268.1))) else (some (bt252.1, bt252.2.1, wrap64 (bt252.1 + bt259.1))))))
theorem spec_DrawRunClock.mono : ∀ a0 k, LeO (spec_DrawRunClock.f k a0) (spec_DrawRunClock.f (k + 1) a0) := by
 intro a0 k
 unfold spec_DrawRunClock.f
 repeat' first
   | (with_reducible exact spec_l1Cur_clock.mono _ _ _ _)
   | (with_reducible first | exact LeO.refl _ | exact LeO.none _ | refine LeO.ite ?_ ?_ | refine LeO.bind ?_ (fun _ => ?_))
   | exact spec_l1Cur_clock.mono _ _ _ _ | exact LeO.none _ | refine LeO.ite ?_ ?_ | refine LeO.bind ?_ (fun _ => ?_)
set_option maxHeartbeats 8000000 in
set_option maxRecDepth 100000 in
theorem spec_DrawRunClock.calls (k : Nat) (A0 : Option Addr) (c0 : Nat) (l0 : List Int) (r1 : Int) (r2 : List (S47)) (r3 : Int) (w : World) (hr0 : Kd.C (Kd.int .u8) w A0 l0.length l0) (hc0 : l0.length ≤ c0) (h : spec_DrawRunClock.f k l0 = some (r1, r2, r3)) :
  Calls Try.prog 4 #[.slice A0 l0.length c0] w fun e w' => ∃ v1_ : Value, e = .returned (.tuple #[.agg #[.int .i64 r1, v1_], .int .i64 r3]) ∧ Kd.R k47 47 w' w.heap.size (fun _ => True) v1_ r2 ∧ Below w.heap.size w w' := by
 have hu25 := Try.underlying25
 have hu37 := Try.underlying37
 have HR0 := Aside0.mk hr0
 have HC0 := Aside0.mk hc0
 clear hr0 hc0
 have HB := Aside0.mk (Below.refl w.heap.size w)
 have H : ((spec_l1Cur_clock.f k l0 0 0).bind fun bt252 => ((spec_l1Cur_pick.f l0 bt252.2.2.1 bt252.2.2.2 80).bind fun bt259 => ((spec_l1Cur_one.f l0 bt259.2.1 bt259.2.2 20).bind fun bt262 => (if bt262.1 = true then ((spec_l1Cur_among.f l0 bt262.2.1 bt262.2.2 (([wrap64 (bt252.1 - 1), 100000, 100001] : List Int))).bind fun bt268 => (some (bt252.1, bt252.2.1, bt268.1))) else (some (bt252.1, bt252.2.1, wrap64 (bt252.1 + bt259.1))))))) = some (r1, r2, r3) := h
 clear h
 replace H := Option.bind_eq_some_iff.mp H
 obtain ⟨⟨t252, t253, t256, t257⟩, A20, H⟩ := H
 replace H : ((spec_l1Cur_pick.f l0 t256 t257 80).bind fun bt259 => ((spec_l1Cur_one.f l0 bt259.2.1 bt259.2.2 20).bind fun bt262 => (if bt262.1 = true then ((spec_l1Cur_among.f l0 bt262.2.1 bt262.2.2 (([wrap64 (t252 - 1), 100000, 100001] : List Int))).bind fun bt268 => (some (t252, t253, bt268.1))) else (some (t252, t253, wrap64 (t252 + bt259.1)))))) = some (r1, r2, r3) := H
 have A2 := Aside0.mk A20
 clear A20
 replace H := Option.bind_eq_some_iff.mp H
 obtain ⟨⟨t259, t260, t261⟩, A30, H⟩ := H
 replace H : ((spec_l1Cur_one.f l0 t260 t261 20).bind fun bt262 => (if bt262.1 = true then ((spec_l1Cur_among.f l0 bt262.2.1 bt262.2.2 (([wrap64 (t252 - 1), 100000, 100001] : List Int))).bind fun bt268 => (some (t252, t253, bt268.1))) else (some (t252, t253, wrap64 (t252 + t259))))) = some (r1, r2, r3) := H
 have A3 := Aside0.mk A30
 clear A30
 replace H := Option.bind_eq_some_iff.mp H
 obtain ⟨⟨t262, t263, t264⟩, A40, H⟩ := H
 replace H : (if t262 = true then ((spec_l1Cur_among.f l0 t263 t264 (([wrap64 (t252 - 1), 100000, 100001] : List Int))).bind fun bt268 => (some (t252, t253, bt268.1))) else (some (t252, t253, wrap64 (t252 + t259)))) = some (r1, r2, r3) := H
 have A4 := Aside0.mk A40
 clear A40
 by_cases c5 : t262 = true
 ·subst c5
  have H1 : ((spec_l1Cur_among.f l0 t263 t264 (([wrap64 (t252 - 1), 100000, 100001] : List Int))).bind fun bt268 => (some (t252, t253, bt268.1))) = some (r1, r2, r3) := by rw [if_pos rfl] at H; exact H
  clear H
  have H := H1
  clear H1
  obtain ⟨y265, hy265⟩ : ∃ y_ : List Int, y_ = (([wrap64 (t252 - 1), 100000, 100001] : List Int)) := ⟨_, rfl⟩
  replace H : ((spec_l1Cur_among.f l0 t263 t264 y265).bind fun bt268 => (some (t252, t253, bt268.1))) = some (r1, r2, r3) := by first | (rw [hy265]; with_reducible exact H) | (have H2_ := (Option.bind_some _ _).symm.trans H; rw [hy265]; with_reducible exact H2_) | (have H2_ := (Option.bind_some _ _).symm.trans H; with_reducible exact H2_) | with_reducible exact H | (rw [hy265]; exact H) | exact H
  have Ny265 := Aside0.mk hy265
  clear hy265
  replace H := Option.bind_eq_some_iff.mp H
  obtain ⟨⟨t268, t269, t270⟩, A60, H⟩ := H
  replace H : (some (t252, t253, t268)) = some (r1, r2, r3) := H
  have A6 := Aside0.mk A60
  clear A60
  simp only [Option.some.injEq, Prod.mk.injEq] at H
  obtain ⟨rfl, rfl, rfl⟩ := H
  go_enter Try.func4, Try.ntmps4
  try go_wp2_with (first | ((with_reducible refine gate_dst (N := 2) rfl ?_); refine box_event rfl (N := 2) rfl (cs := #[.int .i64 0, .slice none 0 0]) (t := 25) sE ?_; intro gb250 hg w7 hbox hb; have BK250 := Aside0.mk hbox; have GW250 := gS w hg (lU); have GE250 := gS w hg (lU); replace HB := bH (lU) hb; clear hb hbox hg) | ((with_reducible refine gate_dst (N := 9) rfl ?_); refine box_event rfl (N := 9) rfl (cs := #[.slice A0 l0.length c0, .int .i64 0, .int .u64 0]) (t := 37) sE ?_; intro gb251 hg w8 hbox hb; have NB250_251 := nL hg (bV BK250); have NB251_250 := nG hg (bV BK250); replace BK250 := bB (bV BK250) hb; have HI251 := Aside0.mk ((⟨_, _, hbox, (by rw [hg]; exact (below_size (lV1 GE250)) : w.heap.size ≤ gb251), HR0.out⟩ : IsS37 w w8 gb251 l0 0 0)); replace HB := bH (lV1 GE250) hb; clear hb hbox hg) | ((with_reducible refine gate_callee (f := 9) rfl ?_); refine goesL_ (some 11) rfl rfl Try.func9 (by kernel_rfl) rfl #[.pointer (some ⟨gb251, 0, none⟩)] rfl aE ?_; (with_reducible refine (spec_l1Cur_clock.calls k gb251 l0 0 0 t252 t253 t256 t257 w _ ?side1 ?side2 A2.out).mono ?_); (case side1 => repeat (first | (with_reducible first | exact HI251.out | apply IsS37.alloc | apply IsS37.drewN | apply IsS37.drew | apply IsS37.set_1 | apply IsS37.set_2 | refine IsS37.far ?_ NB251_250.out _) | exact HI251.out)); (case side2 => repeat (first | (with_reducible first | exact HB.out | apply below_alloc | apply pw_below_drewN | apply below_drew1 | refine below_set ?_ (IsS37.ge HI251.out) | refine below_set ?_ GE250.out) | exact HB.out)); rintro e w9 ⟨v254, rfl, ho0, hi, hb, hk⟩; refine ⟨_, rfl, ?_⟩; replace BK250 := Aside0.mk (KeepBut.blk hk (g' := gb250) (o := .cells #[.int .i64 0, .slice none 0 0] 25 (0, 0)) (bV BK250) NB250_251.out (by simp)); have HO255 := Aside0.mk (Kd.R_lower ho0 (below_size (by repeat (first | (with_reducible first | exact HB.out | apply below_alloc | apply pw_below_drewN | apply below_drew1 | refine below_set ?_ (IsS37.ge HI251.out) | refine below_set ?_ GE250.out) | exact HB.out)))); replace HB := Aside0.mk hb; replace HI251 := Aside0.mk hi; (try clear hb); (try clear hk); (try clear hi); (try clear ho0)) | ((with_reducible refine gate_dst (N := 5) rfl ?_); refine box_event rfl (N := 5) rfl (cs := #[.int .i64 0, .slice none 0 0]) (t := 25) sE ?_; intro gb258 hg w10 hbox hb; replace HO255 := Aside0.mk (Kd.R_below (rU HO255.out) hb); have BK258 := Aside0.mk hbox; have GW258 := Aside0.mk ((by rw [hg]; exact (below_size (by repeat (first | (with_reducible first | exact HB.out | apply below_alloc | apply pw_below_drewN | apply below_drew1 | refine below_set ?_ (IsS37.ge HI251.out) | refine below_set ?_ GE250.out) | exact HB.out))) : w.heap.size ≤ gb258)); have GE258 := Aside0.mk ((by rw [hg]; exact (below_size (by repeat (first | (with_reducible first | exact HB.out | apply below_alloc | apply pw_below_drewN | apply below_drew1 | refine below_set ?_ (IsS37.ge HI251.out) | refine below_set ?_ GE250.out) | exact HB.out))) : w.heap.size ≤ gb258)); replace HB := Aside0.mk (below_step (by repeat (first | (with_reducible first | exact HB.out | apply below_alloc | apply pw_below_drewN | apply below_drew1 | refine below_set ?_ (IsS37.ge HI251.out) | refine below_set ?_ GE250.out) | exact HB.out)) hb); have NB250_258 := nL hg (bV BK250); have NB258_250 := nG hg (bV BK250); replace BK250 := bB (bV BK250) hb; have NB251_258 := Aside0.mk ((by rw [hg]; exact Nat.ne_of_lt (IsS37.lt (show IsS37 w _ gb251 l0 t256 t257 from by repeat (first | (with_reducible first | exact HI251.out | apply IsS37.alloc | apply IsS37.drewN | apply IsS37.drew | apply IsS37.set_1 | apply IsS37.set_2 | refine IsS37.far ?_ NB251_250.out _) | exact HI251.out))) : gb251 ≠ gb258)); have NB258_251 := Aside0.mk ((by rw [hg]; exact Nat.ne_of_gt (IsS37.lt (show IsS37 w _ gb251 l0 t256 t257 from by repeat (first | (with_reducible first | exact HI251.out | apply IsS37.alloc | apply IsS37.drewN | apply IsS37.drew | apply IsS37.set_1 | apply IsS37.set_2 | refine IsS37.far ?_ NB251_250.out _) | exact HI251.out))) : gb258 ≠ gb251)); replace HI251 := Aside0.mk (IsS37.below (by repeat (first | (with_reducible first | exact HI251.out | apply IsS37.alloc | apply IsS37.drewN | apply IsS37.drew | apply IsS37.set_1 | apply IsS37.set_2 | refine IsS37.far ?_ NB251_250.out _) | exact HI251.out)) hb); clear hb hbox hg; have hnb11 := NB258_250.out; have hnc11 := NB250_258.out; have hnb12 := NB258_251.out; have hnc12 := NB251_258.out; have hcz13_0 := cz BK258 0 (.int .i64 0); have hcz13_1 := cz BK258 1 (.slice none 0 0); have hfz13_0 := fz BK258 0; have hfz13_1 := fz BK258 1; obtain ⟨Ao14, co14, eo14⟩ := Kd.R_slice HO255.out; subst eo14))
  have n0_ : Aside0 (Kd.R k47 47 ((w10.setCell ⟨gb258, 0, none⟩ (.int .i64 t252)).setCell ⟨gb258, 1, none⟩ (.slice Ao14 t253.length co14)) w.heap.size (fun _ => True) (.slice Ao14 t253.length co14) t253) := ⟨by (with_reducible repeat (first | apply Kd.R_alloc | apply Kd.R_drewN | apply Kd.R_drew)); exact Kd.R_mono (Kd.R_far (p := ⟨gb258, 1, none⟩) (Kd.R_far (p := ⟨gb258, 0, none⟩) (Kd.R_types HO255.out BK258.out (by decide)) (fun _ hk => hk.2) (.int .i64 t252)) (fun _ hk => hk.2) (.slice Ao14 t253.length co14)) (fun _ hk => trivial)⟩
  have n1_ : Aside0 (((w10.setCell ⟨gb258, 0, none⟩ (.int .i64 t252)).setCell ⟨gb258, 1, none⟩ (.slice Ao14 t253.length co14)).heap[gb250]? = some (.cells #[.int .i64 0, .slice none 0 0] 25 (0, 0))) := ⟨by refine bU ?_; refine blk_far ?_ NB250_258.out _; refine bU ?_; refine blk_far ?_ NB250_258.out _; refine bU ?_; exact BK250.out⟩
  have n2_ : Aside0 (((w10.setCell ⟨gb258, 0, none⟩ (.int .i64 t252)).setCell ⟨gb258, 1, none⟩ (.slice Ao14 t253.length co14)).heap[gb258]? = some (.cells #[.int .i64 t252, .slice Ao14 t253.length co14] 25 (0, 0))) := ⟨by refine bU ?_; refine blk_put (cs := #[.int .i64 t252, .slice none 0 0]) ?_ 1 _ rfl; refine bU ?_; refine blk_put (cs := #[.int .i64 0, .slice none 0 0]) ?_ 0 _ rfl; refine bU ?_; exact BK258.out⟩
  have n3_ : Aside0 (IsS37 w ((w10.setCell ⟨gb258, 0, none⟩ (.int .i64 t252)).setCell ⟨gb258, 1, none⟩ (.slice Ao14 t253.length co14)) gb251 l0 t256 t257) := ⟨by repeat (first | (with_reducible first | exact HI251.out | apply IsS37.alloc | apply IsS37.drewN | apply IsS37.drew | apply IsS37.set_1 | apply IsS37.set_2 | refine IsS37.far ?_ NB251_250.out _ | refine IsS37.far ?_ NB251_258.out _) | exact HI251.out)⟩
  have n4_ : Aside0 (Below w.heap.size w ((w10.setCell ⟨gb258, 0, none⟩ (.int .i64 t252)).setCell ⟨gb258, 1, none⟩ (.slice Ao14 t253.length co14))) := ⟨by repeat (first | (with_reducible first | exact HB.out | apply below_alloc | apply pw_below_drewN | apply below_drew1 | refine below_set ?_ (IsS37.ge HI251.out) | refine below_set ?_ GE250.out | refine below_set ?_ GE258.out) | exact HB.out)⟩
  (try clear HO255)
  (try clear BK250)
  (try clear BK258)
  (try clear HI251)
  (try clear HB)
  generalize ((w10.setCell ⟨gb258, 0, none⟩ (.int .i64 t252)).setCell ⟨gb258, 1, none⟩ (.slice Ao14 t253.length co14)) = w15 at n0_ n1_ n2_ n3_ n4_ ⊢
  have HO255 := n0_
  have BK250 := n1_
  have BK258 := n2_
  have HI251 := n3_
  have HB := n4_
  clear n0_ n1_ n2_ n3_ n4_
  replace HO255 := Aside0.mk (Kd.R_drew HO255.out)
  replace BK250 := Aside0.mk (blk_drew BK250.out)
  replace BK258 := Aside0.mk (blk_drew BK258.out)
  replace HI251 := Aside0.mk (IsS37.drew HI251.out)
  replace HB := Aside0.mk (below_drew1 HB.out)
  refine start_ (n := 6) (S := fun w' => w'.cell? ⟨gb258, 0, none⟩ = some (.int .i64 t252) ∧ w'.cell? ⟨gb258, 1, none⟩ = some (.slice Ao14 t253.length co14)) (ds := []) #[false, false, false, false, false, false] (by kernel_rfl) rfl rfl ⟨cz BK258 0 _, cz BK258 1 _⟩ (fun hHeld => ?_)
  generalize w15.drew = w16 at HO255 BK250 BK258 HI251 HB hHeld ⊢
  refine pure_ (i := 0) (N := some 12) (v := ?_) (a' := ?_) (bz 6 1) rfl rfl (by kernel_rfl) (fun _ _ _ h => h) (Or.inl ⟨by rfl, ?_⟩) ?_ ?_
  rotate_left
  ·intro w'
   go_simp
   with_reducible rfl
  rotate_left
  ·simp only [Act.put, List.setIfInBounds_toArray, List.set_cons_zero, List.set_cons_succ, i64_w, i32_w]
   rfl
  refine pure_ (i := 2) (N := some 14) (v := ?_) (a' := ?_) (bz 6 5) rfl rfl (by kernel_rfl) (fun _ _ _ h => h) (Or.inl ⟨by rfl, ?_⟩) ?_ ?_
  rotate_left
  ·intro w'
   go_simp
   with_reducible rfl
  rotate_left
  ·simp only [Act.put, List.setIfInBounds_toArray, List.set_cons_zero, List.set_cons_succ, i64_w, i32_w]
   rfl
  refine take_ (i := 1) (N := some 13) (v := ?_) (a' := ?_) (bz 6 7) rfl rfl (by kernel_rfl) (fun _ _ _ h => h) (Or.inl ⟨by rfl, ?_⟩) hHeld ?_ ?_
  rotate_left
  ·rintro w' ⟨s0, s1⟩
   go_simp
   with_reducible rfl
  rotate_left
  ·simp only [Act.put, List.setIfInBounds_toArray, List.set_cons_zero, List.set_cons_succ, i64_w, i32_w]
   rfl
  refine one_ (i := 3) (N := some 15) (bz 6 15) rfl rfl (by kernel_rfl) (by decide) (fun K hK => ?_)
  refine goes_ Try.func10 (by kernel_rfl) rfl #[.pointer (some ⟨gb251, 0, none⟩), .int .i64 80] (by rfl) rfl rfl aE ?_
  with_reducible refine (spec_l1Cur_pick.calls gb251 l0 t256 t257 80 t259 t260 t261 w _ ?side1 ?side2 A3.out).mono ?_
  (case side1 => repeat (first | (with_reducible first | exact HI251.out | apply IsS37.alloc | apply IsS37.drewN | apply IsS37.drew | apply IsS37.set_1 | apply IsS37.set_2 | refine IsS37.far ?_ NB251_250.out _ | refine IsS37.far ?_ NB251_258.out _) | exact HI251.out))
  (case side2 => repeat (first | (with_reducible first | exact HB.out | apply below_alloc | apply pw_below_drewN | apply below_drew1 | refine below_set ?_ (IsS37.ge HI251.out) | refine below_set ?_ GE250.out | refine below_set ?_ GE258.out) | exact HB.out))
  rintro e w17 ⟨rfl, hi, hb, hk⟩
  refine ⟨_, rfl, ?_⟩
  replace BK250 := Aside0.mk (KeepBut.blk hk (g' := gb250) (o := .cells #[.int .i64 0, .slice none 0 0] 25 (0, 0)) (bV BK250) NB250_251.out (by simp))
  replace HO255 := Aside0.mk (Kd.R_mono (Kd.R_keep (IsS37.apart (show IsS37 w _ gb251 l0 t256 t257 from by repeat (first | (with_reducible first | exact HI251.out | apply IsS37.alloc | apply IsS37.drewN | apply IsS37.drew | apply IsS37.set_1 | apply IsS37.set_2 | refine IsS37.far ?_ NB251_250.out _ | refine IsS37.far ?_ NB251_258.out _) | exact HI251.out)) (rU HO255.out) (by decide)) hk (fun _ h => h.2)) (fun _ h => h.1))
  replace BK258 := Aside0.mk (KeepBut.blk hk (g' := gb258) (o := .cells #[.int .i64 t252, .slice Ao14 t253.length co14] 25 (0, 0)) (bV BK258) NB258_251.out (by simp))
  replace HB := Aside0.mk hb
  replace HI251 := Aside0.mk hi
  (try clear hb)
  (try clear hb2)
  (try clear hk)
  (try clear hi)
  refine hK.out _ _ ⟨cz BK258 0 _, cz BK258 1 _⟩ (fun hHeld => ?_)
  clear hK K
  refine norm_ (a' := ?_) ?_ ?_
  rotate_left
  ·show Act.put _ (some 15) _ = _
   simp only [Act.put, List.setIfInBounds_toArray, List.set_cons_zero, List.set_cons_succ, i64_w, i32_w]
   rfl
  refine pure_ (i := 4) (N := some 16) (v := ?_) (a' := ?_) (bz 6 31) rfl rfl (by kernel_rfl) (fun _ _ _ h => h) (Or.inl ⟨by rfl, ?_⟩) ?_ ?_
  rotate_left
  ·intro w'
   go_simp
   with_reducible rfl
  rotate_left
  ·simp only [Act.put, List.setIfInBounds_toArray, List.set_cons_zero, List.set_cons_succ, i64_w, i32_w]
   rfl
  refine pure_ (i := 5) (N := some 6) (v := ?_) (a' := ?_) (bz 6 63) rfl rfl (by kernel_rfl) (fun _ _ _ h => h) (Or.inl ⟨by rfl, ?_⟩) ?_ ?_
  rotate_left
  ·intro w'
   go_simp
   with_reducible rfl
  rotate_left
  ·simp only [Act.put, List.setIfInBounds_toArray, List.set_cons_zero, List.set_cons_succ, i64_w, i32_w]
   rfl
  refine done_ (by kernel_rfl) ?_
  try go_wp2_with (first | ((with_reducible refine gate_callee (f := 11) rfl ?_); refine goesL_ (some 18) rfl rfl Try.func11 (by kernel_rfl) rfl #[.pointer (some ⟨gb251, 0, none⟩), .int .i64 20] rfl aE ?_; (with_reducible refine (spec_l1Cur_one.calls gb251 l0 t260 t261 20 true t263 t264 w _ ?side1 ?side2 A4.out).mono ?_); (case side1 => repeat (first | (with_reducible first | exact HI251.out | apply IsS37.alloc | apply IsS37.drewN | apply IsS37.drew | apply IsS37.set_1 | apply IsS37.set_2 | refine IsS37.far ?_ NB251_250.out _ | refine IsS37.far ?_ NB251_258.out _) | exact HI251.out)); (case side2 => repeat (first | (with_reducible first | exact HB.out | apply below_alloc | apply pw_below_drewN | apply below_drew1 | refine below_set ?_ (IsS37.ge HI251.out) | refine below_set ?_ GE250.out | refine below_set ?_ GE258.out) | exact HB.out)); rintro e w18 ⟨rfl, hi, hb, hk⟩; refine ⟨_, rfl, ?_⟩; replace BK250 := Aside0.mk (KeepBut.blk hk (g' := gb250) (o := .cells #[.int .i64 0, .slice none 0 0] 25 (0, 0)) (bV BK250) NB250_251.out (by simp)); replace HO255 := Aside0.mk (Kd.R_mono (Kd.R_keep (IsS37.apart (show IsS37 w _ gb251 l0 t260 t261 from by repeat (first | (with_reducible first | exact HI251.out | apply IsS37.alloc | apply IsS37.drewN | apply IsS37.drew | apply IsS37.set_1 | apply IsS37.set_2 | refine IsS37.far ?_ NB251_250.out _ | refine IsS37.far ?_ NB251_258.out _) | exact HI251.out)) (rU HO255.out) (by decide)) hk (fun _ h => h.2)) (fun _ h => h.1)); replace BK258 := Aside0.mk (KeepBut.blk hk (g' := gb258) (o := .cells #[.int .i64 t252, .slice Ao14 t253.length co14] 25 (0, 0)) (bV BK258) NB258_251.out (by simp)); replace HB := Aside0.mk hb; replace HI251 := Aside0.mk hi; (try clear hb); (try clear hk); (try clear hi); have hcz19_0 := cz BK258 0 (.int .i64 t252); have hcz19_1 := cz BK258 1 (.slice Ao14 t253.length co14); have hfz19_0 := fz BK258 0; have hfz19_1 := fz BK258 1) | ((with_reducible refine gate_dst (N := 23) rfl ?_); refine Kd.R_lit (Kd.int .i64) _ 3 ?hg (N := 23) ?hd (xs := ([wrap64 (t252 - 1), 100000, 100001] : List Int)) (inner := [.int .i64 (wrap64 (t252 - 1)), .int .i64 100000, .int .i64 100001]) (ok := fun _ => True) (okp := fun _ => True) ?hr ?hp (fun _ hk => hk) trivial (Below.refl _ _) (Nat.le_refl _) (by simp) ?_; (case hd => rfl); (case hg => rfl); (case hr => exact sE); (case hp => exact (Reps.one (show Kd.M (Kd.int .i64) _ _ _ (wrap64 (t252 - 1)) [.int .i64 (wrap64 (t252 - 1))] from rfl) (Reps.one (show Kd.M (Kd.int .i64) _ _ _ 100000 [.int .i64 100000] from rfl) (Reps.one (show Kd.M (Kd.int .i64) _ _ _ 100001 [.int .i64 100001] from rfl) (Reps.none _ _))))); intro v266 w20 ho21 hb hg_ hnew_; clear hg_ hnew_; (first | rw [← Ny265.out] at ho21 | (simp only [Int.reduceToNat] at ho21; rw [← Ny265.out] at ho21)); replace HO255 := Aside0.mk (Kd.R_below (rU HO255.out) hb); have HO267 := Aside0.mk (Kd.R_lower ho21 (below_size (by repeat (first | (with_reducible first | exact HB.out | apply below_alloc | apply pw_below_drewN | apply below_drew1 | refine below_set ?_ (IsS37.ge HI251.out) | refine below_set ?_ GE250.out | refine below_set ?_ GE258.out) | exact HB.out)))); replace BK250 := bB (bV BK250) hb; replace BK258 := bB (bV BK258) hb; replace HB := Aside0.mk (below_step (by repeat (first | (with_reducible first | exact HB.out | apply below_alloc | apply pw_below_drewN | apply below_drew1 | refine below_set ?_ (IsS37.ge HI251.out) | refine below_set ?_ GE250.out | refine below_set ?_ GE258.out) | exact HB.out)) hb); replace HI251 := Aside0.mk (IsS37.below (by repeat (first | (with_reducible first | exact HI251.out | apply IsS37.alloc | apply IsS37.drewN | apply IsS37.drew | apply IsS37.set_1 | apply IsS37.set_2 | refine IsS37.far ?_ NB251_250.out _ | refine IsS37.far ?_ NB251_258.out _) | exact HI251.out)) hb); clear hb ho21; obtain ⟨Ao22, co22, eo22⟩ := Kd.R_slice HO267.out; subst eo22) | ((with_reducible refine gate_callee (f := 12) rfl ?_); refine goesL_ (some 24) rfl rfl Try.func12 (by kernel_rfl) rfl #[.pointer (some ⟨gb251, 0, none⟩), .slice Ao22 y265.length co22] rfl aE ?_; (with_reducible refine (spec_l1Cur_among.calls gb251 l0 t263 t264 _ _ y265 t268 t269 t270 w _ ?side1 ?side2 ?side3 ?side4 ?side5 A6.out).mono ?_); (case side1 => repeat (first | (with_reducible first | exact HI251.out | apply IsS37.alloc | apply IsS37.drewN | apply IsS37.drew | apply IsS37.set_1 | apply IsS37.set_2 | refine IsS37.far ?_ NB251_250.out _ | refine IsS37.far ?_ NB251_258.out _) | exact HI251.out)); (case side2 => repeat (first | (with_reducible first | exact HB.out | apply below_alloc | apply pw_below_drewN | apply below_drew1 | refine below_set ?_ (IsS37.ge HI251.out) | refine below_set ?_ GE250.out | refine below_set ?_ GE258.out) | exact HB.out)); (case side3 => exact cU (Kd.R_reads' HO267.out).2.2); (case side4 => exact (Kd.R_reads' HO267.out).2.1); (case side5 => exact far_slice (IsS37.own_ne HI251.out HO267.out (by decide))); rintro e w23 ⟨rfl, hi, hb, hk⟩; refine ⟨_, rfl, ?_⟩; replace BK250 := Aside0.mk (KeepBut.blk hk (g' := gb250) (o := .cells #[.int .i64 0, .slice none 0 0] 25 (0, 0)) (bV BK250) NB250_251.out (by simp)); replace HO255 := Aside0.mk (Kd.R_mono (Kd.R_keep (IsS37.apart (show IsS37 w _ gb251 l0 t263 t264 from by repeat (first | (with_reducible first | exact HI251.out | apply IsS37.alloc | apply IsS37.drewN | apply IsS37.drew | apply IsS37.set_1 | apply IsS37.set_2 | refine IsS37.far ?_ NB251_250.out _ | refine IsS37.far ?_ NB251_258.out _) | exact HI251.out)) (rU HO255.out) (by decide)) hk (fun _ h => h.2)) (fun _ h => h.1)); replace BK258 := Aside0.mk (KeepBut.blk hk (g' := gb258) (o := .cells #[.int .i64 t252, .slice Ao14 t253.length co14] 25 (0, 0)) (bV BK258) NB258_251.out (by simp)); replace HO267 := Aside0.mk (Kd.R_mono (Kd.R_keep (IsS37.apart (show IsS37 w _ gb251 l0 t263 t264 from by repeat (first | (with_reducible first | exact HI251.out | apply IsS37.alloc | apply IsS37.drewN | apply IsS37.drew | apply IsS37.set_1 | apply IsS37.set_2 | refine IsS37.far ?_ NB251_250.out _ | refine IsS37.far ?_ NB251_258.out _) | exact HI251.out)) (rU HO267.out) (by decide)) hk (fun _ h => h.2)) (fun _ h => h.1)); replace HB := Aside0.mk hb; replace HI251 := Aside0.mk hi; (try clear hb); (try clear hk); (try clear hi); have hcz24_0 := cz BK258 0 (.int .i64 t252); have hcz24_1 := cz BK258 1 (.slice Ao14 t253.length co14); have hfz24_0 := fz BK258 0; have hfz24_1 := fz BK258 1; have hnb25 := NB250_251.out; have hnc25 := NB251_250.out; have hcz26_0 := cz BK250 0 (.int .i64 0); have hcz26_1 := cz BK250 1 (.slice none 0 0); have hfz26_0 := fz BK250 0; have hfz26_1 := fz BK250 1))
  refine bodyPost_ret (results_ct rfl _ _ gb250 25 #[.int .i64 t252, .slice Ao14 t253.length co14] (0, 0) _ rfl (by refine bU ?_; refine blk_put (cs := #[.int .i64 t252, .slice none 0 0]) ?_ 1 _ rfl; refine bU ?_; refine blk_put (cs := #[.int .i64 0, .slice none 0 0]) ?_ 0 _ rfl; refine bU ?_; exact BK250.out) Try.underlying25 rfl (by kernel_rfl)) rfl ?_
  exact ⟨_, eE, by (with_reducible repeat (first | apply Kd.R_alloc | apply Kd.R_drewN | apply Kd.R_drew)); exact Kd.R_mono (Kd.R_far (p := ⟨gb250, 1, none⟩) (Kd.R_far (p := ⟨gb250, 0, none⟩) (Kd.R_types HO255.out BK250.out (by decide)) (fun _ hk => hk.2) (.int .i64 t252)) (fun _ hk => hk.2) (.slice Ao14 t253.length co14)) (fun _ hk => trivial), by repeat (first | (with_reducible first | exact HB.out | apply below_alloc | apply pw_below_drewN | apply below_drew1 | refine below_set ?_ (IsS37.ge HI251.out) | refine below_set ?_ GE250.out | refine below_set ?_ GE258.out) | exact HB.out)⟩
 ·replace c5 := Bool.eq_false_iff.mpr c5
  subst c5
  have H1 : (some (t252, t253, wrap64 (t252 + t259))) = some (r1, r2, r3) := by rw [if_neg (show ¬ (false = true) by decide)] at H; exact H
  clear H
  have H := H1
  clear H1
  simp only [Option.some.injEq, Prod.mk.injEq] at H
  obtain ⟨rfl, rfl, rfl⟩ := H
  go_enter Try.func4, Try.ntmps4
  try go_wp2_with (first | ((with_reducible refine gate_dst (N := 2) rfl ?_); refine box_event rfl (N := 2) rfl (cs := #[.int .i64 0, .slice none 0 0]) (t := 25) sE ?_; intro gb250 hg w27 hbox hb; have BK250 := Aside0.mk hbox; have GW250 := gS w hg (lU); have GE250 := gS w hg (lU); replace HB := bH (lU) hb; clear hb hbox hg) | ((with_reducible refine gate_dst (N := 9) rfl ?_); refine box_event rfl (N := 9) rfl (cs := #[.slice A0 l0.length c0, .int .i64 0, .int .u64 0]) (t := 37) sE ?_; intro gb251 hg w28 hbox hb; have NB250_251 := nL hg (bV BK250); have NB251_250 := nG hg (bV BK250); replace BK250 := bB (bV BK250) hb; have HI251 := Aside0.mk ((⟨_, _, hbox, (by rw [hg]; exact (below_size (lV1 GE250)) : w.heap.size ≤ gb251), HR0.out⟩ : IsS37 w w28 gb251 l0 0 0)); replace HB := bH (lV1 GE250) hb; clear hb hbox hg) | ((with_reducible refine gate_callee (f := 9) rfl ?_); refine goesL_ (some 11) rfl rfl Try.func9 (by kernel_rfl) rfl #[.pointer (some ⟨gb251, 0, none⟩)] rfl aE ?_; (with_reducible refine (spec_l1Cur_clock.calls k gb251 l0 0 0 t252 t253 t256 t257 w _ ?side1 ?side2 A2.out).mono ?_); (case side1 => repeat (first | (with_reducible first | exact HI251.out | apply IsS37.alloc | apply IsS37.drewN | apply IsS37.drew | apply IsS37.set_1 | apply IsS37.set_2 | refine IsS37.far ?_ NB251_250.out _) | exact HI251.out)); (case side2 => repeat (first | (with_reducible first | exact HB.out | apply below_alloc | apply pw_below_drewN | apply below_drew1 | refine below_set ?_ (IsS37.ge HI251.out) | refine below_set ?_ GE250.out) | exact HB.out)); rintro e w29 ⟨v254, rfl, ho0, hi, hb, hk⟩; refine ⟨_, rfl, ?_⟩; replace BK250 := Aside0.mk (KeepBut.blk hk (g' := gb250) (o := .cells #[.int .i64 0, .slice none 0 0] 25 (0, 0)) (bV BK250) NB250_251.out (by simp)); have HO255 := Aside0.mk (Kd.R_lower ho0 (below_size (by repeat (first | (with_reducible first | exact HB.out | apply below_alloc | apply pw_below_drewN | apply below_drew1 | refine below_set ?_ (IsS37.ge HI251.out) | refine below_set ?_ GE250.out) | exact HB.out)))); replace HB := Aside0.mk hb; replace HI251 := Aside0.mk hi; (try clear hb); (try clear hk); (try clear hi); (try clear ho0)) | ((with_reducible refine gate_dst (N := 5) rfl ?_); refine box_event rfl (N := 5) rfl (cs := #[.int .i64 0, .slice none 0 0]) (t := 25) sE ?_; intro gb258 hg w30 hbox hb; replace HO255 := Aside0.mk (Kd.R_below (rU HO255.out) hb); have BK258 := Aside0.mk hbox; have GW258 := Aside0.mk ((by rw [hg]; exact (below_size (by repeat (first | (with_reducible first | exact HB.out | apply below_alloc | apply pw_below_drewN | apply below_drew1 | refine below_set ?_ (IsS37.ge HI251.out) | refine below_set ?_ GE250.out) | exact HB.out))) : w.heap.size ≤ gb258)); have GE258 := Aside0.mk ((by rw [hg]; exact (below_size (by repeat (first | (with_reducible first | exact HB.out | apply below_alloc | apply pw_below_drewN | apply below_drew1 | refine below_set ?_ (IsS37.ge HI251.out) | refine below_set ?_ GE250.out) | exact HB.out))) : w.heap.size ≤ gb258)); replace HB := Aside0.mk (below_step (by repeat (first | (with_reducible first | exact HB.out | apply below_alloc | apply pw_below_drewN | apply below_drew1 | refine below_set ?_ (IsS37.ge HI251.out) | refine below_set ?_ GE250.out) | exact HB.out)) hb); have NB250_258 := nL hg (bV BK250); have NB258_250 := nG hg (bV BK250); replace BK250 := bB (bV BK250) hb; have NB251_258 := Aside0.mk ((by rw [hg]; exact Nat.ne_of_lt (IsS37.lt (show IsS37 w _ gb251 l0 t256 t257 from by repeat (first | (with_reducible first | exact HI251.out | apply IsS37.alloc | apply IsS37.drewN | apply IsS37.drew | apply IsS37.set_1 | apply IsS37.set_2 | refine IsS37.far ?_ NB251_250.out _) | exact HI251.out))) : gb251 ≠ gb258)); have NB258_251 := Aside0.mk ((by rw [hg]; exact Nat.ne_of_gt (IsS37.lt (show IsS37 w _ gb251 l0 t256 t257 from by repeat (first | (with_reducible first | exact HI251.out | apply IsS37.alloc | apply IsS37.drewN | apply IsS37.drew | apply IsS37.set_1 | apply IsS37.set_2 | refine IsS37.far ?_ NB251_250.out _) | exact HI251.out))) : gb258 ≠ gb251)); replace HI251 := Aside0.mk (IsS37.below (by repeat (first | (with_reducible first | exact HI251.out | apply IsS37.alloc | apply IsS37.drewN | apply IsS37.drew | apply IsS37.set_1 | apply IsS37.set_2 | refine IsS37.far ?_ NB251_250.out _) | exact HI251.out)) hb); clear hb hbox hg; have hnb31 := NB258_250.out; have hnc31 := NB250_258.out; have hnb32 := NB258_251.out; have hnc32 := NB251_258.out; have hcz33_0 := cz BK258 0 (.int .i64 0); have hcz33_1 := cz BK258 1 (.slice none 0 0); have hfz33_0 := fz BK258 0; have hfz33_1 := fz BK258 1; obtain ⟨Ao34, co34, eo34⟩ := Kd.R_slice HO255.out; subst eo34))
  have n0_ : Aside0 (Kd.R k47 47 ((w30.setCell ⟨gb258, 0, none⟩ (.int .i64 t252)).setCell ⟨gb258, 1, none⟩ (.slice Ao34 t253.length co34)) w.heap.size (fun _ => True) (.slice Ao34 t253.length co34) t253) := ⟨by (with_reducible repeat (first | apply Kd.R_alloc | apply Kd.R_drewN | apply Kd.R_drew)); exact Kd.R_mono (Kd.R_far (p := ⟨gb258, 1, none⟩) (Kd.R_far (p := ⟨gb258, 0, none⟩) (Kd.R_types HO255.out BK258.out (by decide)) (fun _ hk => hk.2) (.int .i64 t252)) (fun _ hk => hk.2) (.slice Ao34 t253.length co34)) (fun _ hk => trivial)⟩
  have n1_ : Aside0 (((w30.setCell ⟨gb258, 0, none⟩ (.int .i64 t252)).setCell ⟨gb258, 1, none⟩ (.slice Ao34 t253.length co34)).heap[gb250]? = some (.cells #[.int .i64 0, .slice none 0 0] 25 (0, 0))) := ⟨by refine bU ?_; refine blk_far ?_ NB250_258.out _; refine bU ?_; refine blk_far ?_ NB250_258.out _; refine bU ?_; exact BK250.out⟩
  have n2_ : Aside0 (((w30.setCell ⟨gb258, 0, none⟩ (.int .i64 t252)).setCell ⟨gb258, 1, none⟩ (.slice Ao34 t253.length co34)).heap[gb258]? = some (.cells #[.int .i64 t252, .slice Ao34 t253.length co34] 25 (0, 0))) := ⟨by refine bU ?_; refine blk_put (cs := #[.int .i64 t252, .slice none 0 0]) ?_ 1 _ rfl; refine bU ?_; refine blk_put (cs := #[.int .i64 0, .slice none 0 0]) ?_ 0 _ rfl; refine bU ?_; exact BK258.out⟩
  have n3_ : Aside0 (IsS37 w ((w30.setCell ⟨gb258, 0, none⟩ (.int .i64 t252)).setCell ⟨gb258, 1, none⟩ (.slice Ao34 t253.length co34)) gb251 l0 t256 t257) := ⟨by repeat (first | (with_reducible first | exact HI251.out | apply IsS37.alloc | apply IsS37.drewN | apply IsS37.drew | apply IsS37.set_1 | apply IsS37.set_2 | refine IsS37.far ?_ NB251_250.out _ | refine IsS37.far ?_ NB251_258.out _) | exact HI251.out)⟩
  have n4_ : Aside0 (Below w.heap.size w ((w30.setCell ⟨gb258, 0, none⟩ (.int .i64 t252)).setCell ⟨gb258, 1, none⟩ (.slice Ao34 t253.length co34))) := ⟨by repeat (first | (with_reducible first | exact HB.out | apply below_alloc | apply pw_below_drewN | apply below_drew1 | refine below_set ?_ (IsS37.ge HI251.out) | refine below_set ?_ GE250.out | refine below_set ?_ GE258.out) | exact HB.out)⟩
  (try clear HO255)
  (try clear BK250)
  (try clear BK258)
  (try clear HI251)
  (try clear HB)
  generalize ((w30.setCell ⟨gb258, 0, none⟩ (.int .i64 t252)).setCell ⟨gb258, 1, none⟩ (.slice Ao34 t253.length co34)) = w35 at n0_ n1_ n2_ n3_ n4_ ⊢
  have HO255 := n0_
  have BK250 := n1_
  have BK258 := n2_
  have HI251 := n3_
  have HB := n4_
  clear n0_ n1_ n2_ n3_ n4_
  replace HO255 := Aside0.mk (Kd.R_drew HO255.out)
  replace BK250 := Aside0.mk (blk_drew BK250.out)
  replace BK258 := Aside0.mk (blk_drew BK258.out)
  replace HI251 := Aside0.mk (IsS37.drew HI251.out)
  replace HB := Aside0.mk (below_drew1 HB.out)
  refine start_ (n := 6) (S := fun w' => w'.cell? ⟨gb258, 0, none⟩ = some (.int .i64 t252) ∧ w'.cell? ⟨gb258, 1, none⟩ = some (.slice Ao34 t253.length co34)) (ds := []) #[false, false, false, false, false, false] (by kernel_rfl) rfl rfl ⟨cz BK258 0 _, cz BK258 1 _⟩ (fun hHeld => ?_)
  generalize w35.drew = w36 at HO255 BK250 BK258 HI251 HB hHeld ⊢
  refine pure_ (i := 0) (N := some 12) (v := ?_) (a' := ?_) (bz 6 1) rfl rfl (by kernel_rfl) (fun _ _ _ h => h) (Or.inl ⟨by rfl, ?_⟩) ?_ ?_
  rotate_left
  ·intro w'
   go_simp
   with_reducible rfl
  rotate_left
  ·simp only [Act.put, List.setIfInBounds_toArray, List.set_cons_zero, List.set_cons_succ, i64_w, i32_w]
   rfl
  refine pure_ (i := 2) (N := some 14) (v := ?_) (a' := ?_) (bz 6 5) rfl rfl (by kernel_rfl) (fun _ _ _ h => h) (Or.inl ⟨by rfl, ?_⟩) ?_ ?_
  rotate_left
  ·intro w'
   go_simp
   with_reducible rfl
  rotate_left
  ·simp only [Act.put, List.setIfInBounds_toArray, List.set_cons_zero, List.set_cons_succ, i64_w, i32_w]
   rfl
  refine take_ (i := 1) (N := some 13) (v := ?_) (a' := ?_) (bz 6 7) rfl rfl (by kernel_rfl) (fun _ _ _ h => h) (Or.inl ⟨by rfl, ?_⟩) hHeld ?_ ?_
  rotate_left
  ·rintro w' ⟨s0, s1⟩
   go_simp
   with_reducible rfl
  rotate_left
  ·simp only [Act.put, List.setIfInBounds_toArray, List.set_cons_zero, List.set_cons_succ, i64_w, i32_w]
   rfl
  refine one_ (i := 3) (N := some 15) (bz 6 15) rfl rfl (by kernel_rfl) (by decide) (fun K hK => ?_)
  refine goes_ Try.func10 (by kernel_rfl) rfl #[.pointer (some ⟨gb251, 0, none⟩), .int .i64 80] (by rfl) rfl rfl aE ?_
  with_reducible refine (spec_l1Cur_pick.calls gb251 l0 t256 t257 80 t259 t260 t261 w _ ?side1 ?side2 A3.out).mono ?_
  (case side1 => repeat (first | (with_reducible first | exact HI251.out | apply IsS37.alloc | apply IsS37.drewN | apply IsS37.drew | apply IsS37.set_1 | apply IsS37.set_2 | refine IsS37.far ?_ NB251_250.out _ | refine IsS37.far ?_ NB251_258.out _) | exact HI251.out))
  (case side2 => repeat (first | (with_reducible first | exact HB.out | apply below_alloc | apply pw_below_drewN | apply below_drew1 | refine below_set ?_ (IsS37.ge HI251.out) | refine below_set ?_ GE250.out | refine below_set ?_ GE258.out) | exact HB.out))
  rintro e w37 ⟨rfl, hi, hb, hk⟩
  refine ⟨_, rfl, ?_⟩
  replace BK250 := Aside0.mk (KeepBut.blk hk (g' := gb250) (o := .cells #[.int .i64 0, .slice none 0 0] 25 (0, 0)) (bV BK250) NB250_251.out (by simp))
  replace HO255 := Aside0.mk (Kd.R_mono (Kd.R_keep (IsS37.apart (show IsS37 w _ gb251 l0 t256 t257 from by repeat (first | (with_reducible first | exact HI251.out | apply IsS37.alloc | apply IsS37.drewN | apply IsS37.drew | apply IsS37.set_1 | apply IsS37.set_2 | refine IsS37.far ?_ NB251_250.out _ | refine IsS37.far ?_ NB251_258.out _) | exact HI251.out)) (rU HO255.out) (by decide)) hk (fun _ h => h.2)) (fun _ h => h.1))
  replace BK258 := Aside0.mk (KeepBut.blk hk (g' := gb258) (o := .cells #[.int .i64 t252, .slice Ao34 t253.length co34] 25 (0, 0)) (bV BK258) NB258_251.out (by simp))
  replace HB := Aside0.mk hb
  replace HI251 := Aside0.mk hi
  (try clear hb)
  (try clear hb2)
  (try clear hk)
  (try clear hi)
  refine hK.out _ _ ⟨cz BK258 0 _, cz BK258 1 _⟩ (fun hHeld => ?_)
  clear hK K
  refine norm_ (a' := ?_) ?_ ?_
  rotate_left
  ·show Act.put _ (some 15) _ = _
   simp only [Act.put, List.setIfInBounds_toArray, List.set_cons_zero, List.set_cons_succ, i64_w, i32_w]
   rfl
  refine pure_ (i := 4) (N := some 16) (v := ?_) (a' := ?_) (bz 6 31) rfl rfl (by kernel_rfl) (fun _ _ _ h => h) (Or.inl ⟨by rfl, ?_⟩) ?_ ?_
  rotate_left
  ·intro w'
   go_simp
   with_reducible rfl
  rotate_left
  ·simp only [Act.put, List.setIfInBounds_toArray, List.set_cons_zero, List.set_cons_succ, i64_w, i32_w]
   rfl
  refine pure_ (i := 5) (N := some 6) (v := ?_) (a' := ?_) (bz 6 63) rfl rfl (by kernel_rfl) (fun _ _ _ h => h) (Or.inl ⟨by rfl, ?_⟩) ?_ ?_
  rotate_left
  ·intro w'
   go_simp
   with_reducible rfl
  rotate_left
  ·simp only [Act.put, List.setIfInBounds_toArray, List.set_cons_zero, List.set_cons_succ, i64_w, i32_w]
   rfl
  refine done_ (by kernel_rfl) ?_
  try go_wp2_with (first | ((with_reducible refine gate_callee (f := 11) rfl ?_); refine goesL_ (some 18) rfl rfl Try.func11 (by kernel_rfl) rfl #[.pointer (some ⟨gb251, 0, none⟩), .int .i64 20] rfl aE ?_; (with_reducible refine (spec_l1Cur_one.calls gb251 l0 t260 t261 20 false t263 t264 w _ ?side1 ?side2 A4.out).mono ?_); (case side1 => repeat (first | (with_reducible first | exact HI251.out | apply IsS37.alloc | apply IsS37.drewN | apply IsS37.drew | apply IsS37.set_1 | apply IsS37.set_2 | refine IsS37.far ?_ NB251_250.out _ | refine IsS37.far ?_ NB251_258.out _) | exact HI251.out)); (case side2 => repeat (first | (with_reducible first | exact HB.out | apply below_alloc | apply pw_below_drewN | apply below_drew1 | refine below_set ?_ (IsS37.ge HI251.out) | refine below_set ?_ GE250.out | refine below_set ?_ GE258.out) | exact HB.out)); rintro e w38 ⟨rfl, hi, hb, hk⟩; refine ⟨_, rfl, ?_⟩; replace BK250 := Aside0.mk (KeepBut.blk hk (g' := gb250) (o := .cells #[.int .i64 0, .slice none 0 0] 25 (0, 0)) (bV BK250) NB250_251.out (by simp)); replace HO255 := Aside0.mk (Kd.R_mono (Kd.R_keep (IsS37.apart (show IsS37 w _ gb251 l0 t260 t261 from by repeat (first | (with_reducible first | exact HI251.out | apply IsS37.alloc | apply IsS37.drewN | apply IsS37.drew | apply IsS37.set_1 | apply IsS37.set_2 | refine IsS37.far ?_ NB251_250.out _ | refine IsS37.far ?_ NB251_258.out _) | exact HI251.out)) (rU HO255.out) (by decide)) hk (fun _ h => h.2)) (fun _ h => h.1)); replace BK258 := Aside0.mk (KeepBut.blk hk (g' := gb258) (o := .cells #[.int .i64 t252, .slice Ao34 t253.length co34] 25 (0, 0)) (bV BK258) NB258_251.out (by simp)); replace HB := Aside0.mk hb; replace HI251 := Aside0.mk hi; (try clear hb); (try clear hk); (try clear hi); have hcz39_0 := cz BK258 0 (.int .i64 t252); have hcz39_1 := cz BK258 1 (.slice Ao34 t253.length co34); have hfz39_0 := fz BK258 0; have hfz39_1 := fz BK258 1; have hnb40 := NB250_251.out; have hnc40 := NB251_250.out; have hcz41_0 := cz BK250 0 (.int .i64 0); have hcz41_1 := cz BK250 1 (.slice none 0 0); have hfz41_0 := fz BK250 0; have hfz41_1 := fz BK250 1))
  refine bodyPost_ret (results_ct rfl _ _ gb250 25 #[.int .i64 t252, .slice Ao34 t253.length co34] (0, 0) _ rfl (by refine bU ?_; refine blk_put (cs := #[.int .i64 t252, .slice none 0 0]) ?_ 1 _ rfl; refine bU ?_; refine blk_put (cs := #[.int .i64 0, .slice none 0 0]) ?_ 0 _ rfl; refine bU ?_; exact BK250.out) Try.underlying25 rfl (by kernel_rfl)) rfl ?_
  exact ⟨_, eE, by (with_reducible repeat (first | apply Kd.R_alloc | apply Kd.R_drewN | apply Kd.R_drew)); exact Kd.R_mono (Kd.R_far (p := ⟨gb250, 1, none⟩) (Kd.R_far (p := ⟨gb250, 0, none⟩) (Kd.R_types HO255.out BK250.out (by decide)) (fun _ hk => hk.2) (.int .i64 t252)) (fun _ hk => hk.2) (.slice Ao34 t253.length co34)) (fun _ hk => trivial), by repeat (first | (with_reducible first | exact HB.out | apply below_alloc | apply pw_below_drewN | apply below_drew1 | refine below_set ?_ (IsS37.ge HI251.out) | refine below_set ?_ GE250.out | refine below_set ?_ GE258.out) | exact HB.out)⟩
def impl_inRange.f (a0 : Int) (a1 : Int) (a2 : Int) : Option (Bool) := if a1 ≤ a0 then (some (decide (a0 ≤ a2))) else (some false)
set_option maxHeartbeats 8000000 in
set_option maxRecDepth 100000 in
theorem impl_inRange.calls (a0 : Int) (a1 : Int) (a2 : Int) (r : Bool) (w : World) (h : impl_inRange.f a0 a1 a2 = some r) :
  Calls Try.prog 14 #[.int .i64 a0, .int .i64 a1, .int .i64 a2] w fun e w' => e = .returned (.bool r) ∧ Drawn0 w w' := by
 have H : (if a1 ≤ a0 then (some (decide (a0 ≤ a2))) else (some false)) = some r := h
 clear h
 by_cases c4 : a1 ≤ a0
 ·rw [if_pos c4] at H
  have c4b0 : decide (a1 ≤ a0) = true := decide_eq_true c4
  clear c4
  obtain rfl := Option.some.inj H
  go_enter Try.func14, Try.ntmps14
  go_wp2
  go_ret
  exact ⟨by first | rfl | (simp; done) | (simp [*]; done) | exact not_isEmpty _ | exact (not_isEmpty _).symm | exact is_empty _ | exact (is_empty _).symm, by repeat (first | exact Drawn0.refl _ | apply Drawn0.step)⟩
 ·rw [if_neg c4] at H
  have c4b0 : decide (a1 ≤ a0) = false := decide_eq_false c4
  clear c4
  obtain rfl := Option.some.inj H
  go_enter Try.func14, Try.ntmps14
  go_wp2
  go_ret
  exact ⟨by first | rfl | (simp; done) | (simp [*]; done) | exact not_isEmpty _ | exact (not_isEmpty _).symm | exact is_empty _ | exact (is_empty _).symm, by repeat (first | exact Drawn0.refl _ | apply Drawn0.step)⟩
def impl_isTime.f (a0 : Int) : Option (Bool) := (impl_inRange.f a0 0 100000).bind fun t271 => (some t271)
set_option maxHeartbeats 8000000 in
set_option maxRecDepth 100000 in
theorem impl_isTime.calls (a0 : Int) (r : Bool) (w : World) (h : impl_isTime.f a0 = some r) :
  Calls Try.prog 22 #[.int .i64 a0] w fun e w' => e = .returned (.bool r) ∧ Drawn0 w w' := by
 have H : ((impl_inRange.f a0 0 100000).bind fun t271 => (some t271)) = some r := h
 clear h
 replace H := Option.bind_eq_some_iff.mp H
 obtain ⟨t271, A20, H⟩ := H
 replace H : (some t271) = some r := H
 have A2 := Aside0.mk A20
 clear A20
 obtain rfl := Option.some.inj H
 go_enter Try.func22, Try.ntmps22
 go_wp2_with (first | ((with_reducible refine gate_callee (f := 14) rfl ?_); refine goesL_ (some 4) rfl rfl Try.func14 (by kernel_rfl) rfl #[.int .i64 a0, .int .i64 0, .int .i64 100000] rfl aE ?_; (with_reducible refine (impl_inRange.calls a0 0 100000 t271 _ A2.out).mono ?_); rintro e w' ⟨rfl, ⟨nd, rfl⟩⟩; refine ⟨_, rfl, ?_⟩))
 go_ret
 exact ⟨by first | rfl | (simp; done) | (simp [*]; done) | exact not_isEmpty _ | exact (not_isEmpty _).symm | exact is_empty _ | exact (is_empty _).symm, by repeat (first | exact Drawn0.refl _ | apply Drawn0.step)⟩
def impl_isTimer.f (a0_0 : Int) (a0_1 : Int) (a0_2 : Int) (a0_3 : Int) (a1 : Int) : Option (Bool) := (impl_inRange.f a0_0 0 999).bind fun t273 => (if t273 = true then ((impl_inRange.f a0_1 (wrap64 (a1 + 1)) 200000).bind fun t274 => (if t274 = true then ((impl_isTime.f a0_2).bind fun t275 => (if t275 = true then ((impl_inRange.f a0_3 1 1000).bind fun t276 => (if t276 = true then (if a0_2 > 0 then (some true) else (some (a0_3 == 1))) else (some false))) else (some false))) else (some false))) else (some false))
set_option maxHeartbeats 8000000 in
set_option maxRecDepth 100000 in
theorem impl_isTimer.calls (a0_0 : Int) (a0_1 : Int) (a0_2 : Int) (a0_3 : Int) (a1 : Int) (r : Bool) (w : World) (h : impl_isTimer.f a0_0 a0_1 a0_2 a0_3 a1 = some r) :
  Calls Try.prog 23 #[.agg #[.int .i64 a0_0, .int .i64 a0_1, .int .i64 a0_2, .int .i64 a0_3], .int .i64 a1] w fun e w' => e = .returned (.bool r) ∧ Below w.heap.size w w' := by
 have hu47 := Try.underlying47
 have HB := Aside0.mk (Below.refl w.heap.size w)
 have H : ((impl_inRange.f a0_0 0 999).bind fun t273 => (if t273 = true then ((impl_inRange.f a0_1 (wrap64 (a1 + 1)) 200000).bind fun t274 => (if t274 = true then ((impl_isTime.f a0_2).bind fun t275 => (if t275 = true then ((impl_inRange.f a0_3 1 1000).bind fun t276 => (if t276 = true then (if a0_2 > 0 then (some true) else (some (a0_3 == 1))) else (some false))) else (some false))) else (some false))) else (some false))) = some r := h
 clear h
 replace H := Option.bind_eq_some_iff.mp H
 obtain ⟨t273, A30, H⟩ := H
 replace H : (if t273 = true then ((impl_inRange.f a0_1 (wrap64 (a1 + 1)) 200000).bind fun t274 => (if t274 = true then ((impl_isTime.f a0_2).bind fun t275 => (if t275 = true then ((impl_inRange.f a0_3 1 1000).bind fun t276 => (if t276 = true then (if a0_2 > 0 then (some true) else (some (a0_3 == 1))) else (some false))) else (some false))) else (some false))) else (some false)) = some r := H
 have A3 := Aside0.mk A30
 clear A30
 by_cases c4 : t273 = true
 ·subst c4
  have H1 : ((impl_inRange.f a0_1 (wrap64 (a1 + 1)) 200000).bind fun t274 => (if t274 = true then ((impl_isTime.f a0_2).bind fun t275 => (if t275 = true then ((impl_inRange.f a0_3 1 1000).bind fun t276 => (if t276 = true then (if a0_2 > 0 then (some true) else (some (a0_3 == 1))) else (some false))) else (some false))) else (some false))) = some r := by rw [if_pos rfl] at H; exact H
  clear H
  have H := H1
  clear H1
  replace H := Option.bind_eq_some_iff.mp H
  obtain ⟨t274, A50, H⟩ := H
  replace H : (if t274 = true then ((impl_isTime.f a0_2).bind fun t275 => (if t275 = true then ((impl_inRange.f a0_3 1 1000).bind fun t276 => (if t276 = true then (if a0_2 > 0 then (some true) else (some (a0_3 == 1))) else (some false))) else (some false))) else (some false)) = some r := H
  have A5 := Aside0.mk A50
  clear A50
  by_cases c6 : t274 = true
  ·subst c6
   have H1 : ((impl_isTime.f a0_2).bind fun t275 => (if t275 = true then ((impl_inRange.f a0_3 1 1000).bind fun t276 => (if t276 = true then (if a0_2 > 0 then (some true) else (some (a0_3 == 1))) else (some false))) else (some false))) = some r := by rw [if_pos rfl] at H; exact H
   clear H
   have H := H1
   clear H1
   replace H := Option.bind_eq_some_iff.mp H
   obtain ⟨t275, A70, H⟩ := H
   replace H : (if t275 = true then ((impl_inRange.f a0_3 1 1000).bind fun t276 => (if t276 = true then (if a0_2 > 0 then (some true) else (some (a0_3 == 1))) else (some false))) else (some false)) = some r := H
   have A7 := Aside0.mk A70
   clear A70
   by_cases c8 : t275 = true
   ·subst c8
    have H1 : ((impl_inRange.f a0_3 1 1000).bind fun t276 => (if t276 = true then (if a0_2 > 0 then (some true) else (some (a0_3 == 1))) else (some false))) = some r := by rw [if_pos rfl] at H; exact H
    clear H
    have H := H1
    clear H1
    replace H := Option.bind_eq_some_iff.mp H
    obtain ⟨t276, A90, H⟩ := H
    replace H : (if t276 = true then (if a0_2 > 0 then (some true) else (some (a0_3 == 1))) else (some false)) = some r := H
    have A9 := Aside0.mk A90
    clear A90
    by_cases c10 : t276 = true
    ·subst c10
     have H1 : (if a0_2 > 0 then (some true) else (some (a0_3 == 1))) = some r := by rw [if_pos rfl] at H; exact H
     clear H
     have H := H1
     clear H1
     by_cases c11 : a0_2 > 0
     ·rw [if_pos c11] at H
      have c11b0 : decide (0 < a0_2) = true := decide_eq_true c11
      clear c11
      obtain rfl := Option.some.inj H
      go_enter Try.func23, Try.ntmps23
      go_wp2_with (first | ((with_reducible refine gate_dst (N := 2) rfl ?_); refine box_event rfl (N := 2) rfl (cs := #[.int .i64 a0_0, .int .i64 a0_1, .int .i64 a0_2, .int .i64 a0_3]) (t := 47) sE ?_; intro gb272 hg w12 hbox hb; have BK272 := Aside0.mk hbox; have GW272 := gS w hg (lU); have GE272 := gS w hg (lU); replace HB := bH (lU) hb; clear hb hbox hg; have hcz13_0 := cz BK272 0 (.int .i64 a0_0); have hcz13_1 := cz BK272 1 (.int .i64 a0_1); have hcz13_2 := cz BK272 2 (.int .i64 a0_2); have hcz13_3 := cz BK272 3 (.int .i64 a0_3); have hfz13_0 := fz BK272 0; have hfz13_1 := fz BK272 1; have hfz13_2 := fz BK272 2; have hfz13_3 := fz BK272 3) | ((with_reducible refine gate_callee (f := 14) rfl ?_); refine goesL_ (some 7) rfl rfl Try.func14 (by kernel_rfl) rfl #[.int .i64 a0_0, .int .i64 0, .int .i64 999] rfl aE ?_; (with_reducible refine (impl_inRange.calls a0_0 0 999 true _ A3.out).mono ?_); rintro e w' ⟨rfl, ⟨nd, rfl⟩⟩; refine ⟨_, rfl, ?_⟩) | (go_at_call 14; (with_reducible refine (impl_inRange.calls a0_1 (wrap64 (a1 + 1)) 200000 true _ A5.out).mono ?_); rintro e w' ⟨rfl, ⟨nd, rfl⟩⟩) | (go_at_call 22; (with_reducible refine (impl_isTime.calls a0_2 true _ A7.out).mono ?_); rintro e w' ⟨rfl, ⟨nd, rfl⟩⟩) | (go_at_call 14; (with_reducible refine (impl_inRange.calls a0_3 1 1000 true _ A9.out).mono ?_); rintro e w' ⟨rfl, ⟨nd, rfl⟩⟩))
      go_ret
      exact ⟨eE, lV1 GE272⟩
     ·rw [if_neg c11] at H
      have c11b0 : decide (0 < a0_2) = false := decide_eq_false c11
      clear c11
      obtain rfl := Option.some.inj H
      go_enter Try.func23, Try.ntmps23
      go_wp2_with (first | ((with_reducible refine gate_dst (N := 2) rfl ?_); refine box_event rfl (N := 2) rfl (cs := #[.int .i64 a0_0, .int .i64 a0_1, .int .i64 a0_2, .int .i64 a0_3]) (t := 47) sE ?_; intro gb272 hg w14 hbox hb; have BK272 := Aside0.mk hbox; have GW272 := gS w hg (lU); have GE272 := gS w hg (lU); replace HB := bH (lU) hb; clear hb hbox hg; have hcz15_0 := cz BK272 0 (.int .i64 a0_0); have hcz15_1 := cz BK272 1 (.int .i64 a0_1); have hcz15_2 := cz BK272 2 (.int .i64 a0_2); have hcz15_3 := cz BK272 3 (.int .i64 a0_3); have hfz15_0 := fz BK272 0; have hfz15_1 := fz BK272 1; have hfz15_2 := fz BK272 2; have hfz15_3 := fz BK272 3) | ((with_reducible refine gate_callee (f := 14) rfl ?_); refine goesL_ (some 7) rfl rfl Try.func14 (by kernel_rfl) rfl #[.int .i64 a0_0, .int .i64 0, .int .i64 999] rfl aE ?_; (with_reducible refine (impl_inRange.calls a0_0 0 999 true _ A3.out).mono ?_); rintro e w' ⟨rfl, ⟨nd, rfl⟩⟩; refine ⟨_, rfl, ?_⟩) | (go_at_call 14; (with_reducible refine (impl_inRange.calls a0_1 (wrap64 (a1 + 1)) 200000 true _ A5.out).mono ?_); rintro e w' ⟨rfl, ⟨nd, rfl⟩⟩) | (go_at_call 22; (with_reducible refine (impl_isTime.calls a0_2 true _ A7.out).mono ?_); rintro e w' ⟨rfl, ⟨nd, rfl⟩⟩) | (go_at_call 14; (with_reducible refine (impl_inRange.calls a0_3 1 1000 true _ A9.out).mono ?_); rintro e w' ⟨rfl, ⟨nd, rfl⟩⟩))
      go_ret
      exact ⟨eE, lV1 GE272⟩
    ·replace c10 := Bool.eq_false_iff.mpr c10
     subst c10
     have H1 : (some false) = some r := by rw [if_neg (show ¬ (false = true) by decide)] at H; exact H
     clear H
     have H := H1
     clear H1
     obtain rfl := Option.some.inj H
     go_enter Try.func23, Try.ntmps23
     go_wp2_with (first | ((with_reducible refine gate_dst (N := 2) rfl ?_); refine box_event rfl (N := 2) rfl (cs := #[.int .i64 a0_0, .int .i64 a0_1, .int .i64 a0_2, .int .i64 a0_3]) (t := 47) sE ?_; intro gb272 hg w16 hbox hb; have BK272 := Aside0.mk hbox; have GW272 := gS w hg (lU); have GE272 := gS w hg (lU); replace HB := bH (lU) hb; clear hb hbox hg; have hcz17_0 := cz BK272 0 (.int .i64 a0_0); have hcz17_1 := cz BK272 1 (.int .i64 a0_1); have hcz17_2 := cz BK272 2 (.int .i64 a0_2); have hcz17_3 := cz BK272 3 (.int .i64 a0_3); have hfz17_0 := fz BK272 0; have hfz17_1 := fz BK272 1; have hfz17_2 := fz BK272 2; have hfz17_3 := fz BK272 3) | ((with_reducible refine gate_callee (f := 14) rfl ?_); refine goesL_ (some 7) rfl rfl Try.func14 (by kernel_rfl) rfl #[.int .i64 a0_0, .int .i64 0, .int .i64 999] rfl aE ?_; (with_reducible refine (impl_inRange.calls a0_0 0 999 true _ A3.out).mono ?_); rintro e w' ⟨rfl, ⟨nd, rfl⟩⟩; refine ⟨_, rfl, ?_⟩) | (go_at_call 14; (with_reducible refine (impl_inRange.calls a0_1 (wrap64 (a1 + 1)) 200000 true _ A5.out).mono ?_); rintro e w' ⟨rfl, ⟨nd, rfl⟩⟩) | (go_at_call 22; (with_reducible refine (impl_isTime.calls a0_2 true _ A7.out).mono ?_); rintro e w' ⟨rfl, ⟨nd, rfl⟩⟩) | (go_at_call 14; (with_reducible refine (impl_inRange.calls a0_3 1 1000 false _ A9.out).mono ?_); rintro e w' ⟨rfl, ⟨nd, rfl⟩⟩))
     go_ret
     exact ⟨eE, lV1 GE272⟩
   ·replace c8 := Bool.eq_false_iff.mpr c8
    subst c8
    have H1 : (some false) = some r := by rw [if_neg (show ¬ (false = true) by decide)] at H; exact H
    clear H
    have H := H1
    clear H1
    obtain rfl := Option.some.inj H
    go_enter Try.func23, Try.ntmps23
    go_wp2_with (first | ((with_reducible refine gate_dst (N := 2) rfl ?_); refine box_event rfl (N := 2) rfl (cs := #[.int .i64 a0_0, .int .i64 a0_1, .int .i64 a0_2, .int .i64 a0_3]) (t := 47) sE ?_; intro gb272 hg w18 hbox hb; have BK272 := Aside0.mk hbox; have GW272 := gS w hg (lU); have GE272 := gS w hg (lU); replace HB := bH (lU) hb; clear hb hbox hg; have hcz19_0 := cz BK272 0 (.int .i64 a0_0); have hcz19_1 := cz BK272 1 (.int .i64 a0_1); have hcz19_2 := cz BK272 2 (.int .i64 a0_2); have hcz19_3 := cz BK272 3 (.int .i64 a0_3); have hfz19_0 := fz BK272 0; have hfz19_1 := fz BK272 1; have hfz19_2 := fz BK272 2; have hfz19_3 := fz BK272 3) | ((with_reducible refine gate_callee (f := 14) rfl ?_); refine goesL_ (some 7) rfl rfl Try.func14 (by kernel_rfl) rfl #[.int .i64 a0_0, .int .i64 0, .int .i64 999] rfl aE ?_; (with_reducible refine (impl_inRange.calls a0_0 0 999 true _ A3.out).mono ?_); rintro e w' ⟨rfl, ⟨nd, rfl⟩⟩; refine ⟨_, rfl, ?_⟩) | (go_at_call 14; (with_reducible refine (impl_inRange.calls a0_1 (wrap64 (a1 + 1)) 200000 true _ A5.out).mono ?_); rintro e w' ⟨rfl, ⟨nd, rfl⟩⟩) | (go_at_call 22; (with_reducible refine (impl_isTime.calls a0_2 false _ A7.out).mono ?_); rintro e w' ⟨rfl, ⟨nd, rfl⟩⟩))
    go_ret
    exact ⟨eE, lV1 GE272⟩
  ·replace c6 := Bool.eq_false_iff.mpr c6
   subst c6
   have H1 : (some false) = some r := by rw [if_neg (show ¬ (false = true) by decide)] at H; exact H
   clear H
   have H := H1
   clear H1
   obtain rfl := Option.some.inj H
   go_enter Try.func23, Try.ntmps23
   go_wp2_with (first | ((with_reducible refine gate_dst (N := 2) rfl ?_); refine box_event rfl (N := 2) rfl (cs := #[.int .i64 a0_0, .int .i64 a0_1, .int .i64 a0_2, .int .i64 a0_3]) (t := 47) sE ?_; intro gb272 hg w20 hbox hb; have BK272 := Aside0.mk hbox; have GW272 := gS w hg (lU); have GE272 := gS w hg (lU); replace HB := bH (lU) hb; clear hb hbox hg; have hcz21_0 := cz BK272 0 (.int .i64 a0_0); have hcz21_1 := cz BK272 1 (.int .i64 a0_1); have hcz21_2 := cz BK272 2 (.int .i64 a0_2); have hcz21_3 := cz BK272 3 (.int .i64 a0_3); have hfz21_0 := fz BK272 0; have hfz21_1 := fz BK272 1; have hfz21_2 := fz BK272 2; have hfz21_3 := fz BK272 3) | ((with_reducible refine gate_callee (f := 14) rfl ?_); refine goesL_ (some 7) rfl rfl Try.func14 (by kernel_rfl) rfl #[.int .i64 a0_0, .int .i64 0, .int .i64 999] rfl aE ?_; (with_reducible refine (impl_inRange.calls a0_0 0 999 true _ A3.out).mono ?_); rintro e w' ⟨rfl, ⟨nd, rfl⟩⟩; refine ⟨_, rfl, ?_⟩) | (go_at_call 14; (with_reducible refine (impl_inRange.calls a0_1 (wrap64 (a1 + 1)) 200000 false _ A5.out).mono ?_); rintro e w' ⟨rfl, ⟨nd, rfl⟩⟩))
   go_ret
   exact ⟨eE, lV1 GE272⟩
 ·replace c4 := Bool.eq_false_iff.mpr c4
  subst c4
  have H1 : (some false) = some r := by rw [if_neg (show ¬ (false = true) by decide)] at H; exact H
  clear H
  have H := H1
  clear H1
  obtain rfl := Option.some.inj H
  go_enter Try.func23, Try.ntmps23
  go_wp2_with (first | ((with_reducible refine gate_dst (N := 2) rfl ?_); refine box_event rfl (N := 2) rfl (cs := #[.int .i64 a0_0, .int .i64 a0_1, .int .i64 a0_2, .int .i64 a0_3]) (t := 47) sE ?_; intro gb272 hg w22 hbox hb; have BK272 := Aside0.mk hbox; have GW272 := gS w hg (lU); have GE272 := gS w hg (lU); replace HB := bH (lU) hb; clear hb hbox hg; have hcz23_0 := cz BK272 0 (.int .i64 a0_0); have hcz23_1 := cz BK272 1 (.int .i64 a0_1); have hcz23_2 := cz BK272 2 (.int .i64 a0_2); have hcz23_3 := cz BK272 3 (.int .i64 a0_3); have hfz23_0 := fz BK272 0; have hfz23_1 := fz BK272 1; have hfz23_2 := fz BK272 2; have hfz23_3 := fz BK272 3) | ((with_reducible refine gate_callee (f := 14) rfl ?_); refine goesL_ (some 7) rfl rfl Try.func14 (by kernel_rfl) rfl #[.int .i64 a0_0, .int .i64 0, .int .i64 999] rfl aE ?_; (with_reducible refine (impl_inRange.calls a0_0 0 999 false _ A3.out).mono ?_); rintro e w' ⟨rfl, ⟨nd, rfl⟩⟩; refine ⟨_, rfl, ?_⟩))
  go_ret
  exact ⟨eE, lV1 GE272⟩
end Go.Proofs.Ythacmchmppnldaa.PFnPieces
