/- Texts of the row of the law FnExactAddTimer, laid together. -/
import Derived.Test.YtjmcahjcgfflgaaZFnExactAddTimer3
import Derived.Test.YtjmcahjcgfflgaaZFnExactAddTimer4
namespace Go.Proofs.Ytjmcahjcgfflgaa.PFnExactAddTimer
open Go.RowKit Go.Proofs.YtjmcahjcgfflgaaW.PrintWords Go.Proofs.YtjmcahjcgfflgaaW.PrintLast Go.Proofs.YtjmcahjcgfflgaaW.PrintMore
attribute [local go_sem] max2_int min2_int max_two min_two max_three min_three max_four min_four   -- for this text's walks alone
set_option linter.unusedVariables false
set_option linter.unusedSimpArgs false
def impl_AddTimer.j0 : Nat → Bool → Int → List (S34) → Int → Int → Int → Int → Option (Int × (List (S34)) × Bool)
 | 0, _, _, _, _, _, _, _ => none
 | k + 1, x18, x176000, x176001, x177000, x177001, x177002, x177003 => if x18 = true then (some (0, ([] : List (S34)), false)) else ((impl_Timer_27.f x176001).bind fun t180 => ((impl_Clock_place.f k x176000 x176001 x177000).bind fun bt184 => (if bt184.2 = true then (if 0 ≤ bt184.1 then (if bt184.1 < (t180.length : Int) then ((some (t180.set (bt184.1 : Int).toNat (⟨x177000, x177001, x177002, x177003⟩ : S34) : List (S34))).bind fun y186 => ((impl_GoodClock.f k x176000 y186).bind fun t187 => (if t187 = true then (some (x176000, y186, true)) else (some (0, ([] : List (S34)), false))))) else (none)) else (none)) else ((impl_Timer_29.f t180 bt184.1 (([(⟨x177000, x177001, x177002, x177003⟩ : S34)] : List (S34)))).bind fun t191 => ((impl_GoodClock.f k x176000 t191).bind fun t194 => (if t194 = true then (some (x176000, t191, true)) else (some (0, ([] : List (S34)), false))))))))
def impl_AddTimer.f (k : Nat) (a0_0 : Int) (l0_1 : List (S34)) (a1_0 : Int) (a1_1 : Int) (a1_2 : Int) (a1_3 : Int) : Option (Int × (List (S34)) × Bool) := (impl_GoodClock.f k a0_0 l0_1).bind fun t178 => (if t178 = true then ((impl_isTimer.f a1_0 a1_1 a1_2 a1_3 a0_0).bind fun t179 => (impl_AddTimer.j0 k (!t179) a0_0 l0_1 a1_0 a1_1 a1_2 a1_3)) else (impl_AddTimer.j0 k true a0_0 l0_1 a1_0 a1_1 a1_2 a1_3))
theorem impl_AddTimer.mono_l : ∀ k, (∀ y0 y1 y2 y3 y4 y5 y6, LeO (impl_AddTimer.j0 k y0 y1 y2 y3 y4 y5 y6) (impl_AddTimer.j0 (k + 1) y0 y1 y2 y3 y4 y5 y6))
 | 0 => fun _ _ _ _ _ _ _ r h => by simp [impl_AddTimer.j0] at h
 | k + 1 => by
  have ih0 := impl_AddTimer.mono_l k
  ·intro y0 y1 y2 y3 y4 y5 y6
   unfold impl_AddTimer.j0
   repeat' first
   | (with_reducible exact ih0 _ _ _ _ _ _ _)
   | (with_reducible exact impl_Clock_place.mono _ _ _ _)
   | (with_reducible exact impl_GoodClock.mono _ _ _)
   | (with_reducible exact LeO.refl _)
   | (with_reducible exact LeO.none _)
   | (with_reducible refine LeO.ite ?_ ?_)
   | (with_reducible refine LeO.bind ?_ (fun _ => ?_))
   | exact ih0 _ _ _ _ _ _ _
   | exact impl_Clock_place.mono _ _ _ _
   | exact impl_GoodClock.mono _ _ _
   | exact LeO.none _
   | refine LeO.ite ?_ ?_
   | refine LeO.bind ?_ (fun _ => ?_)
theorem impl_AddTimer.mono : ∀ a0 a1 a2 a3 a4 a5 k, LeO (impl_AddTimer.f k a0 a1 a2 a3 a4 a5) (impl_AddTimer.f (k + 1) a0 a1 a2 a3 a4 a5) := by
 intro a0 a1 a2 a3 a4 a5 k
 have ih0 := impl_AddTimer.mono_l k
 unfold impl_AddTimer.f
 repeat' first
   | (with_reducible exact ih0 _ _ _ _ _ _ _)
   | (with_reducible exact impl_Clock_place.mono _ _ _ _)
   | (with_reducible exact impl_GoodClock.mono _ _ _)
   | (with_reducible exact LeO.refl _)
   | (with_reducible exact LeO.none _)
   | (with_reducible refine LeO.ite ?_ ?_)
   | (with_reducible refine LeO.bind ?_ (fun _ => ?_))
   | exact ih0 _ _ _ _ _ _ _
   | exact impl_Clock_place.mono _ _ _ _
   | exact impl_GoodClock.mono _ _ _
   | exact LeO.none _
   | refine LeO.ite ?_ ?_
   | refine LeO.bind ?_ (fun _ => ?_)
def impl_AddTimer.T3 : Bool × List (List Nat × List Nat) := (true, [([], []), ([0], [0]), ([], []), ([2], [2]), ([3], [3]), ([1, 4], [1, 4]), ([], []), ([6, 5, 4, 0, 1, 2, 3, 4, 5, 6], [5, 6])])
def impl_AddTimer.B3 : List Nat := [0, 1, 0, 4, 12, 31, 0, 127]
theorem impl_AddTimer.tab3 : rtab .any (opsOf Try.f10 3) = impl_AddTimer.T3 := by kernel_rfl
theorem impl_AddTimer.bits3 : waitsOk impl_AddTimer.T3.2 impl_AddTimer.B3 = true := by kernel_rfl
set_option maxHeartbeats 8000000 in
set_option maxRecDepth 100000 in
theorem impl_AddTimer.calls (k : Nat) (a0_0 : Int) (A0_1 : Option Addr) (c0_1 : Nat) (l0_1 : List (S34)) (a1_0 : Int) (a1_1 : Int) (a1_2 : Int) (a1_3 : Int) (r1 : Int) (r2 : List (S34)) (r3 : Bool) (w : World) (hr0_1 : Kd.C k34 w A0_1 l0_1.length l0_1) (hc0_1 : l0_1.length ≤ c0_1) (h : impl_AddTimer.f k a0_0 l0_1 a1_0 a1_1 a1_2 a1_3 = some (r1, r2, r3)) :
  Calls Try.prog 10 #[.agg #[.int .i64 a0_0, .slice A0_1 l0_1.length c0_1], .agg #[.int .i64 a1_0, .int .i64 a1_1, .int .i64 a1_2, .int .i64 a1_3]] w fun e w' => ∃ v1_ : Value, e = .returned (.tuple #[.agg #[.int .i64 r1, v1_], .bool r3]) ∧ Kd.R k34 34 w' w.heap.size (fun _ => True) v1_ r2 ∧ Below w.heap.size w w' := by
 have hu30 := Try.underlying30
 have hu34 := Try.underlying34
 have HR0_1 := Aside0.mk hr0_1
 have HC0_1 := Aside0.mk hc0_1
 clear hr0_1 hc0_1
 have HB := Aside0.mk (Below.refl w.heap.size w)
 have H : ((impl_GoodClock.f k a0_0 l0_1).bind fun t178 => (if t178 = true then ((impl_isTimer.f a1_0 a1_1 a1_2 a1_3 a0_0).bind fun t179 => (impl_AddTimer.j0 k (!t179) a0_0 l0_1 a1_0 a1_1 a1_2 a1_3)) else (impl_AddTimer.j0 k true a0_0 l0_1 a1_0 a1_1 a1_2 a1_3))) = some (r1, r2, r3) := h
 clear h
 have HC3 := Aside0.mk H
 clear H
 go_enter Try.func10, Try.ntmps10
 go_upto_region 1 with (first | ((with_reducible refine gate_dst (N := 2) rfl ?_); refine box_event rfl (N := 2) rfl (cs := #[.int .i64 a0_0, .slice A0_1 l0_1.length c0_1]) (t := 30) sE ?_; intro gb175 hg w4 hbox hb; have BK175 := Aside0.mk hbox; have GW175 := gS w hg (lU); have GE175 := gS w hg (lU); replace HB := bH (lU) hb; clear hb hbox hg) | ((with_reducible refine gate_dst (N := 3) rfl ?_); refine box_event rfl (N := 3) rfl (cs := #[.int .i64 a1_0, .int .i64 a1_1, .int .i64 a1_2, .int .i64 a1_3]) (t := 34) sE ?_; intro gb176 hg w5 hbox hb; have BK176 := Aside0.mk hbox; have GW176 := gS w hg (lV1 GE175); have GE176 := gS w hg (lV1 GE175); replace HB := bH (lV1 GE175) hb; have NB175_176 := nL hg (bV BK175); have NB176_175 := nG hg (bV BK175); replace BK175 := bB (bV BK175) hb; clear hb hbox hg) | ((with_reducible refine gate_dst (N := 4) rfl ?_); refine box_event rfl (N := 4) rfl (cs := #[.int .i64 0, .slice none 0 0]) (t := 30) sE ?_; intro gb177 hg w6 hbox hb; have BK177 := Aside0.mk hbox; have GW177 := gS w hg (lV2 GE175 GE176); have GE177 := gS w hg (lV2 GE175 GE176); replace HB := bH (lV2 GE175 GE176) hb; have NB175_177 := nL hg (bV BK175); have NB177_175 := nG hg (bV BK175); replace BK175 := bB (bV BK175) hb; have NB176_177 := nL hg (bV BK176); have NB177_176 := nG hg (bV BK176); replace BK176 := bB (bV BK176) hb; clear hb hbox hg))
 (try simp only [Act.put, List.setIfInBounds_toArray, List.set_cons_zero, List.set_cons_succ])
 go_cut [18] (fun v18 wc => ∃ (kq : Nat) (x18_2 : Bool), v18 = .bool x18_2 ∧ Aside0 (impl_AddTimer.j0 kq x18_2 a0_0 l0_1 a1_0 a1_1 a1_2 a1_3 = some (r1, r2, r3)) ∧ Aside0 (kq ≤ k) ∧ Aside0 (wc.heap[gb175]? = some (.cells #[.int .i64 a0_0, (.slice A0_1 l0_1.length c0_1)] 30 (0, 0))) ∧ Aside0 (wc.heap[gb176]? = some (.cells #[.int .i64 a1_0, .int .i64 a1_1, .int .i64 a1_2, .int .i64 a1_3] 34 (0, 0))) ∧ Aside0 (wc.heap[gb177]? = some (.cells #[.int .i64 0, (.slice none 0 0)] 30 (0, 0))) ∧ Aside0 (Below w.heap.size w wc))
 case first =>
  have H := HC3.out
  clear HC3
  replace H := Option.bind_eq_some_iff.mp H
  obtain ⟨t178, A70, H⟩ := H
  replace H : (if t178 = true then ((impl_isTimer.f a1_0 a1_1 a1_2 a1_3 a0_0).bind fun t179 => (impl_AddTimer.j0 k (!t179) a0_0 l0_1 a1_0 a1_1 a1_2 a1_3)) else (impl_AddTimer.j0 k true a0_0 l0_1 a1_0 a1_1 a1_2 a1_3)) = some (r1, r2, r3) := H
  have A7 := Aside0.mk A70
  clear A70
  by_cases c8 : t178 = true
  ·subst c8
   have H1 : ((impl_isTimer.f a1_0 a1_1 a1_2 a1_3 a0_0).bind fun t179 => (impl_AddTimer.j0 k (!t179) a0_0 l0_1 a1_0 a1_1 a1_2 a1_3)) = some (r1, r2, r3) := by rw [if_pos rfl] at H; exact H
   clear H
   have H := H1
   clear H1
   replace H := Option.bind_eq_some_iff.mp H
   obtain ⟨t179, A90, H⟩ := H
   replace H : (impl_AddTimer.j0 k (!t179) a0_0 l0_1 a1_0 a1_1 a1_2 a1_3) = some (r1, r2, r3) := H
   have A9 := Aside0.mk A90
   clear A90
   have H' := Aside0.mk H
   clear H
   have hnb10 := NB175_176.out
   have hnc10 := NB176_175.out
   have hnb11 := NB175_177.out
   have hnc11 := NB177_175.out
   have hcz12_0 := cz BK175 0 (.int .i64 a0_0)
   have hcz12_1 := cz BK175 1 (.slice A0_1 l0_1.length c0_1)
   have hfz12_0 := fz BK175 0
   have hfz12_1 := fz BK175 1
   go_wp2_with (first | ((with_reducible refine gate_callee (f := 25) rfl ?_); refine goesL_ (some 10) rfl rfl Try.func25 (by kernel_rfl) rfl #[.agg #[.int .i64 a0_0, .slice A0_1 l0_1.length c0_1]] rfl aE ?_; (with_reducible refine (impl_GoodClock.calls k a0_0 _ _ l0_1 true _ ?side1 ?side2 A7.out).mono ?_); (case side1 => exact cU (Kd.C_below HR0_1.out HB.out)); (case side2 => exact HC0_1.out); rintro e w13 ⟨rfl, hb⟩; refine ⟨_, rfl, ?_⟩; replace BK175 := bB (bV BK175) hb; replace BK176 := bB (bV BK176) hb; replace BK177 := bB (bV BK177) hb; replace HB := bH (lV3 GE175 GE176 GE177) hb; (try clear hb); have hnb14 := NB176_177.out; have hnc14 := NB177_176.out; have hcz15_0 := cz BK176 0 (.int .i64 a1_0); have hcz15_1 := cz BK176 1 (.int .i64 a1_1); have hcz15_2 := cz BK176 2 (.int .i64 a1_2); have hcz15_3 := cz BK176 3 (.int .i64 a1_3); have hfz15_0 := fz BK176 0; have hfz15_1 := fz BK176 1; have hfz15_2 := fz BK176 2; have hfz15_3 := fz BK176 3; have hcz16_0 := cz BK175 0 (.int .i64 a0_0); have hcz16_1 := cz BK175 1 (.slice A0_1 l0_1.length c0_1); have hfz16_0 := fz BK175 0; have hfz16_1 := fz BK175 1) | (go_at_call 26; (with_reducible refine (impl_isTimer.calls a1_0 a1_1 a1_2 a1_3 a0_0 t179 _ A9.out).mono ?_); rintro e w17 ⟨rfl, hb⟩; replace BK175 := bB (bV BK175) hb; replace BK176 := bB (bV BK176) hb; replace BK177 := bB (bV BK177) hb; replace HB := bH (lV3 GE175 GE176 GE177) hb; (try clear hb)))
   go_meet
   case rel => exact ⟨_, (!t179), tE, H', ⟨by first | omega | exact Nat.le_refl _⟩, ⟨by refine bU ?_; exact BK175.out⟩, ⟨by refine bU ?_; exact BK176.out⟩, ⟨by refine bU ?_; exact BK177.out⟩, ⟨by repeat (first | (with_reducible first | exact HB.out | apply below_alloc | apply pw_below_drewN | apply below_drew1 | refine below_set ?_ GE175.out | refine below_set ?_ GE176.out | refine below_set ?_ GE177.out) | exact HB.out)⟩⟩
  ·replace c8 := Bool.eq_false_iff.mpr c8
   subst c8
   have H1 : (impl_AddTimer.j0 k true a0_0 l0_1 a1_0 a1_1 a1_2 a1_3) = some (r1, r2, r3) := by rw [if_neg (show ¬ (false = true) by decide)] at H; exact H
   clear H
   have H := H1
   clear H1
   have H' := Aside0.mk H
   clear H
   have hnb18 := NB175_176.out
   have hnc18 := NB176_175.out
   have hnb19 := NB175_177.out
   have hnc19 := NB177_175.out
   have hcz20_0 := cz BK175 0 (.int .i64 a0_0)
   have hcz20_1 := cz BK175 1 (.slice A0_1 l0_1.length c0_1)
   have hfz20_0 := fz BK175 0
   have hfz20_1 := fz BK175 1
   go_wp2_with (first | ((with_reducible refine gate_callee (f := 25) rfl ?_); refine goesL_ (some 10) rfl rfl Try.func25 (by kernel_rfl) rfl #[.agg #[.int .i64 a0_0, .slice A0_1 l0_1.length c0_1]] rfl aE ?_; (with_reducible refine (impl_GoodClock.calls k a0_0 _ _ l0_1 false _ ?side1 ?side2 A7.out).mono ?_); (case side1 => exact cU (Kd.C_below HR0_1.out HB.out)); (case side2 => exact HC0_1.out); rintro e w21 ⟨rfl, hb⟩; refine ⟨_, rfl, ?_⟩; replace BK175 := bB (bV BK175) hb; replace BK176 := bB (bV BK176) hb; replace BK177 := bB (bV BK177) hb; replace HB := bH (lV3 GE175 GE176 GE177) hb; (try clear hb)))
   go_meet
   case rel => exact ⟨_, (true), tE, H', ⟨by first | omega | exact Nat.le_refl _⟩, ⟨by refine bU ?_; exact BK175.out⟩, ⟨by refine bU ?_; exact BK176.out⟩, ⟨by refine bU ?_; exact BK177.out⟩, ⟨by repeat (first | (with_reducible first | exact HB.out | apply below_alloc | apply pw_below_drewN | apply below_drew1 | refine below_set ?_ GE175.out | refine below_set ?_ GE176.out | refine below_set ?_ GE177.out) | exact HB.out)⟩⟩
 case rest =>
  clear HC3
  try clear c1
  try clear c2
  try clear p2
  try clear c8
  try clear c10
  try clear c11
  try clear c14
  try clear c18
  try clear c19
  try clear hcz12_0
  try clear hcz12_1
  try clear hcz15_0
  try clear hcz15_1
  try clear hcz15_2
  try clear hcz15_3
  try clear hcz16_0
  try clear hcz16_1
  try clear hcz20_0
  try clear hcz20_1
  try clear hfz12_0
  try clear hfz12_1
  try clear hfz15_0
  try clear hfz15_1
  try clear hfz15_2
  try clear hfz15_3
  try clear hfz16_0
  try clear hfz16_1
  try clear hfz20_0
  try clear hfz20_1
  obtain ⟨kq, x18_2, rfl, HA, HJ2, BK175, BK176, BK177, HB⟩ := hcut
  cases kq with
  | zero => exact absurd HA.out (by simp [impl_AddTimer.j0])
  | succ kj2 =>
   have H := HA.out
   clear HA
   simp only [impl_AddTimer.j0] at H
   by_cases c22 : x18_2 = true
   ·subst c22
    have H1 : (some (0, ([] : List (S34)), false)) = some (r1, r2, r3) := by rw [if_pos rfl] at H; exact H
    clear H
    have H := H1
    clear H1
    simp only [Option.some.injEq, Prod.mk.injEq] at H
    obtain ⟨rfl, rfl, rfl⟩ := H
    have hnb23 := NB177_175.out
    have hnc23 := NB175_177.out
    have hnb24 := NB177_176.out
    have hnc24 := NB176_177.out
    have hcz25_0 := cz BK177 0 (.int .i64 0)
    have hcz25_1 := cz BK177 1 (.slice none 0 0)
    have hfz25_0 := fz BK177 0
    have hfz25_1 := fz BK177 1
    go_wp2_with (first | ((with_reducible refine gate_store (t := 30) (p := 4) rfl ?_); refine store_event (t := 30) (p := 4) (v := ?vo_w26) (w1 := ((wc.setCell ⟨gb177, 0, none⟩ (.int .i64 0)).setCell ⟨gb177, 1, none⟩ (.slice none 0 0))) ?hg ?ho ?hn ?hr ?_; (case ho => rfl); (case hg => rfl); (case hn => rfl); (case hr => first | (go_simp; done) | (go_simp; rfl) | (have hq0_ := (blk_cell BK177.out 0).trans (show _ = some _ from rfl); have hf0_ := blk_frozen BK177.out 0; have hq1_ := (blk_cell BK177.out 1).trans (show _ = some _ from rfl); have hf1_ := blk_frozen BK177.out 1; first | (go_simp; done) | (go_simp; rfl))); intro w26 hw; replace BK175 : Aside0 (w26.heap[gb175]? = some (.cells #[.int .i64 a0_0, .slice A0_1 l0_1.length c0_1] 30 (0, 0))) := ⟨(by rw [hw]; exact (bG NB175_177 BK175))⟩; replace BK176 : Aside0 (w26.heap[gb176]? = some (.cells #[.int .i64 a1_0, .int .i64 a1_1, .int .i64 a1_2, .int .i64 a1_3] 34 (0, 0))) := ⟨(by rw [hw]; exact (bG NB176_177 BK176))⟩; replace BK177 : Aside0 (w26.heap[gb177]? = some (.cells #[.int .i64 0, .slice none 0 0] 30 (0, 0))) := ⟨(by rw [hw]; exact (by refine bU ?_; refine blk_put (cs := #[.int .i64 0, .slice none 0 0]) ?_ 1 _ rfl; refine bU ?_; refine blk_put (cs := #[.int .i64 0, .slice none 0 0]) ?_ 0 _ rfl; refine bU ?_; exact BK177.out))⟩; replace HB : Aside0 (Below w.heap.size w w26) := ⟨(by rw [hw]; exact (lV3 GE175 GE176 GE177))⟩; clear hw))
    refine bodyPost_ret (results_ct rfl _ _ gb177 30 #[.int .i64 0, .slice none 0 0] (0, 0) _ rfl (bV BK177) Try.underlying30 rfl (by kernel_rfl)) rfl ?_
    exact ⟨_, eE, by first | exact Kd.R_nil _ _ _ _ _ | exact Kd.N_nil _ _ _ _ _ | exact Kd.V_nil _ _ _ _ _ | exact Kd.Q_nil _ _ _ _ _ | exact Kd.S_nil _ _ _ _ _, lV3 GE175 GE176 GE177⟩
   ·replace c22 := Bool.eq_false_iff.mpr c22
    subst c22
    have H1 : ((impl_Timer_27.f l0_1).bind fun t180 => ((impl_Clock_place.f kj2 a0_0 l0_1 a1_0).bind fun bt184 => (if bt184.2 = true then (if 0 ≤ bt184.1 then (if bt184.1 < (t180.length : Int) then ((some (t180.set (bt184.1 : Int).toNat (⟨a1_0, a1_1, a1_2, a1_3⟩ : S34) : List (S34))).bind fun y186 => ((impl_GoodClock.f kj2 a0_0 y186).bind fun t187 => (if t187 = true then (some (a0_0, y186, true)) else (some (0, ([] : List (S34)), false))))) else (none)) else (none)) else ((impl_Timer_29.f t180 bt184.1 (([(⟨a1_0, a1_1, a1_2, a1_3⟩ : S34)] : List (S34)))).bind fun t191 => ((impl_GoodClock.f kj2 a0_0 t191).bind fun t194 => (if t194 = true then (some (a0_0, t191, true)) else (some (0, ([] : List (S34)), false)))))))) = some (r1, r2, r3) := by rw [if_neg (show ¬ (false = true) by decide)] at H; exact H
    clear H
    have H := H1
    clear H1
    replace H := Option.bind_eq_some_iff.mp H
    obtain ⟨t180, A270, H⟩ := H
    replace H : ((impl_Clock_place.f kj2 a0_0 l0_1 a1_0).bind fun bt184 => (if bt184.2 = true then (if 0 ≤ bt184.1 then (if bt184.1 < (t180.length : Int) then ((some (t180.set (bt184.1 : Int).toNat (⟨a1_0, a1_1, a1_2, a1_3⟩ : S34) : List (S34))).bind fun y186 => ((impl_GoodClock.f kj2 a0_0 y186).bind fun t187 => (if t187 = true then (some (a0_0, y186, true)) else (some (0, ([] : List (S34)), false))))) else (none)) else (none)) else ((impl_Timer_29.f t180 bt184.1 (([(⟨a1_0, a1_1, a1_2, a1_3⟩ : S34)] : List (S34)))).bind fun t191 => ((impl_GoodClock.f kj2 a0_0 t191).bind fun t194 => (if t194 = true then (some (a0_0, t191, true)) else (some (0, ([] : List (S34)), false))))))) = some (r1, r2, r3) := H
    have A27 := Aside0.mk A270
    clear A270
    replace H := Option.bind_eq_some_iff.mp H
    obtain ⟨⟨t184, t185⟩, A280, H⟩ := H
    replace H : (if t185 = true then (if 0 ≤ t184 then (if t184 < (t180.length : Int) then ((some (t180.set (t184 : Int).toNat (⟨a1_0, a1_1, a1_2, a1_3⟩ : S34) : List (S34))).bind fun y186 => ((impl_GoodClock.f kj2 a0_0 y186).bind fun t187 => (if t187 = true then (some (a0_0, y186, true)) else (some (0, ([] : List (S34)), false))))) else (none)) else (none)) else ((impl_Timer_29.f t180 t184 (([(⟨a1_0, a1_1, a1_2, a1_3⟩ : S34)] : List (S34)))).bind fun t191 => ((impl_GoodClock.f kj2 a0_0 t191).bind fun t194 => (if t194 = true then (some (a0_0, t191, true)) else (some (0, ([] : List (S34)), false)))))) = some (r1, r2, r3) := H
    have A28 := Aside0.mk A280
    clear A280
    by_cases c29 : t185 = true
    ·subst c29
     have H1 : (if 0 ≤ t184 then (if t184 < (t180.length : Int) then ((some (t180.set (t184 : Int).toNat (⟨a1_0, a1_1, a1_2, a1_3⟩ : S34) : List (S34))).bind fun y186 => ((impl_GoodClock.f kj2 a0_0 y186).bind fun t187 => (if t187 = true then (some (a0_0, y186, true)) else (some (0, ([] : List (S34)), false))))) else (none)) else (none)) = some (r1, r2, r3) := by rw [if_pos rfl] at H; exact H
     clear H
     have H := H1
     clear H1
     by_cases c30 : 0 ≤ t184
     ·rw [if_pos c30] at H
      have c30b0 : decide (0 ≤ t184) = true := decide_eq_true c30
      clear c30
      by_cases c31 : t184 < (t180.length : Int)
      ·rw [if_pos c31] at H
       have c31b0 : decide (t184 < (t180.length : Int)) = true := decide_eq_true c31
       clear c31
       obtain ⟨y186, hy186⟩ : ∃ y_ : List (S34), y_ = (t180.set (t184 : Int).toNat (⟨a1_0, a1_1, a1_2, a1_3⟩ : S34)) := ⟨_, rfl⟩
       replace H : ((impl_GoodClock.f kj2 a0_0 y186).bind fun t187 => (if t187 = true then (some (a0_0, y186, true)) else (some (0, ([] : List (S34)), false)))) = some (r1, r2, r3) := by first | (rw [hy186]; with_reducible exact H) | (have H2_ := (Option.bind_some _ _).symm.trans H; rw [hy186]; with_reducible exact H2_) | (have H2_ := (Option.bind_some _ _).symm.trans H; with_reducible exact H2_) | with_reducible exact H | (rw [hy186]; exact H) | exact H
       have Ny186 := Aside0.mk hy186
       clear hy186
       replace H := Option.bind_eq_some_iff.mp H
       obtain ⟨t187, A330, H⟩ := H
       replace H : (if t187 = true then (some (a0_0, y186, true)) else (some (0, ([] : List (S34)), false))) = some (r1, r2, r3) := H
       have A33 := Aside0.mk A330
       clear A330
       by_cases c34 : t187 = true
       ·subst c34
        have H1 : (some (a0_0, y186, true)) = some (r1, r2, r3) := by rw [if_pos rfl] at H; exact H
        clear H
        have H := H1
        clear H1
        simp only [Option.some.injEq, Prod.mk.injEq] at H
        obtain ⟨rfl, rfl, rfl⟩ := H
        try go_wp2
        replace BK175 := Aside0.mk (blk_drew BK175.out)
        replace BK176 := Aside0.mk (blk_drew BK176.out)
        replace BK177 := Aside0.mk (blk_drew BK177.out)
        replace HB := Aside0.mk (below_drew1 HB.out)
        refine start_ (n := 8) (S := fun w' => w'.cell? ⟨gb175, 0, none⟩ = some (.int .i64 a0_0) ∧ w'.cell? ⟨gb175, 1, none⟩ = some (.slice A0_1 l0_1.length c0_1)) (ds := []) #[false, false, false, false, false, false, false, false] (by kernel_rfl) rfl rfl ⟨cz BK175 0 _, cz BK175 1 _⟩ (fun hHeld => ?_); refine with_tabW impl_AddTimer.tab3 impl_AddTimer.bits3 (fun HT_ HW_ => ?_)
        generalize wc.drew = w35 at BK175 BK176 BK177 HB hHeld ⊢
        refine pureA 0 20 (bz 8 1) rfl rfl (any_of HT_.out (by kernel_rfl)) ?_
        refine pureA 2 22 (bz 8 5) rfl rfl (any_of HT_.out (by kernel_rfl)) ?_
        refine takeA 1 21 (bz 8 7) rfl rfl (take_ofW HT_.out HW_.out (by kernel_rfl)) hHeld (by rintro w' ⟨s0, s1⟩; go_simp; with_reducible rfl) ?_
        refine takeA 3 23 (bz 8 15) rfl rfl (take_ofW HT_.out HW_.out (by kernel_rfl)) hHeld (by rintro w' ⟨s0, s1⟩; go_simp; with_reducible rfl) ?_
        refine join_ (σ := Value × Nat) 1 #[true, true, true, true, true, true, true, false] (fun s_ => [(24, s_.1), (6, .pointer (some ⟨s_.2, 0, none⟩)), (25, .agg #[.int .i64 a0_0, s_.1])]) (fun s_ w' => (w'.cell? ⟨gb175, 0, none⟩ = some (.int .i64 a0_0) ∧ w'.cell? ⟨gb175, 1, none⟩ = some (.slice A0_1 l0_1.length c0_1)) ∧ (Kd.R k34 34 w' w.heap.size (fun k_ => k_ ≠ gb176) s_.1 t180) ∧ (w'.heap[gb175]? = some (.cells #[.int .i64 a0_0, .slice A0_1 l0_1.length c0_1] 30 (0, 0))) ∧ (w'.heap[gb176]? = some (.cells #[.int .i64 a1_0, .int .i64 a1_1, .int .i64 a1_2, .int .i64 a1_3] 34 (0, 0))) ∧ (w'.heap[gb177]? = some (.cells #[.int .i64 0, .slice none 0 0] 30 (0, 0))) ∧ (w'.heap[s_.2]? = some (.cells #[.int .i64 0, .slice none 0 0] 30 (0, 0))) ∧ (w.heap.size ≤ s_.2) ∧ (w.heap.size ≤ s_.2) ∧ (gb175 ≠ s_.2) ∧ (s_.2 ≠ gb175) ∧ (gb176 ≠ s_.2) ∧ (s_.2 ≠ gb176) ∧ (gb177 ≠ s_.2) ∧ (s_.2 ≠ gb177) ∧ (Below w.heap.size w w')) ?_ ?_
        rotate_left
        ·intro hCont
         refine two_ (i := 4) (j := 6) (Ni := some 24) (Nj := some 6) #[true, true, true, true, true, false, false, false] #[true, true, true, true, false, false, true, false] rfl rfl rfl rfl (two_of HT_.out (by kernel_rfl)) (by decide) (by decide) (fun K hK => ?_) (fun K hK => ?_)
         ·skip
          refine goes_ Try.func27 (by kernel_rfl) rfl #[.slice A0_1 l0_1.length c0_1] (by rfl) rfl rfl aE ?_
          with_reducible refine (impl_Timer_27.calls _ _ l0_1 t180 _ ?side1 ?side2 A27.out).mono ?_
          (case side1 => exact cU (Kd.C_below HR0_1.out HB.out))
          (case side2 => exact HC0_1.out)
          rintro e w36 ⟨v181, rfl, ho0, hb⟩
          refine ⟨_, rfl, ?_⟩
          have HO182 := Aside0.mk (Kd.R_lower (Kd.R_newB ho0 (g := gb176) (o := .cells #[.int .i64 a1_0, .int .i64 a1_1, .int .i64 a1_2, .int .i64 a1_3] 34 (0, 0)) (bV BK176)) (below_size (lV3 GE175 GE176 GE177)))
          replace BK175 := bB (bV BK175) hb
          replace BK176 := bB (bV BK176) hb
          replace BK177 := bB (bV BK177) hb
          replace HB := bH (lV3 GE175 GE176 GE177) hb
          (try clear hb)
          (try clear hb2)
          (try clear hk)
          (try clear hi)
          (try clear ho0)
          obtain ⟨Ao37, co37, eo37⟩ := Kd.R_slice HO182.out
          (first | subst eo37 | (injection eo37 with f1_ f2_ f3_; have f4_ := f1_.symm; have f5_ := f3_.symm; clear f1_ f2_ f3_; subst f4_; subst f5_))
          refine hK.out _ _ ⟨cz BK175 0 _, cz BK175 1 _⟩ (fun hHeld => ?_)
          clear hK K
          refine norm_ (a' := ?_) ?_ ?_
          rotate_left
          ·show Act.put _ (some 24) _ = _
           simp only [Act.put, List.setIfInBounds_toArray, List.set_cons_zero, List.set_cons_succ, i64_w, i32_w]
           rfl
          refine pureA 5 25 (bz 8 63) rfl rfl (any_of HT_.out (by kernel_rfl)) ?_
          refine one_ (i := 6) (N := some 6) (bz 8 127) rfl rfl (one_of HT_.out (by kernel_rfl)) (by decide) (fun K hK => ?_)
          refine box_step ?hg (N := 6) ?hd (cs := #[.int .i64 0, .slice none 0 0]) (t := 30) ?hr ?_; (case hd => rfl); (case hg => rfl); (case hr => exact sE)
          intro gb183 hg w38 hbox hb
          replace HO182 := Aside0.mk (Kd.R_below (rU HO182.out) hb)
          have BK183 := Aside0.mk hbox
          have GW183 := gS w hg (lV3 GE175 GE176 GE177)
          have GE183 := gS w hg (lV3 GE175 GE176 GE177)
          replace HB := bH (lV3 GE175 GE176 GE177) hb
          have NB175_183 := nL hg (bV BK175)
          have NB183_175 := nG hg (bV BK175)
          replace BK175 := bB (bV BK175) hb
          have NB176_183 := nL hg (bV BK176)
          have NB183_176 := nG hg (bV BK176)
          replace BK176 := bB (bV BK176) hb
          have NB177_183 := nL hg (bV BK177)
          have NB183_177 := nG hg (bV BK177)
          replace BK177 := bB (bV BK177) hb
          clear hb hbox hg
          refine hK.out _ _ ⟨cz BK175 0 _, cz BK175 1 _⟩ (fun hHeld => ?_)
          clear hK K
          refine norm_ (a' := ?_) ?_ ?_
          rotate_left
          ·show Act.put _ (some 6) _ = _
           simp only [Act.put, List.setIfInBounds_toArray, List.set_cons_zero, List.set_cons_succ, i64_w, i32_w]
           rfl
          exact norm_ (by simp only [putAll, Act.put, List.setIfInBounds_toArray, List.set_cons_zero, List.set_cons_succ]) (hCont (.slice Ao37 t180.length co37, gb183) _ ⟨hHeld, (by (with_reducible repeat (first | apply Kd.R_alloc | apply Kd.R_drewN | apply Kd.R_drew)); exact Kd.R_mono HO182.out (fun _ hk => hk.2)), (bV BK175), (bV BK176), (bV BK177), (bV BK183), GW183.out, GE183.out, NB175_183.out, NB183_175.out, NB176_183.out, NB183_176.out, NB177_183.out, NB183_177.out, (lV4 GE175 GE176 GE177 GE183)⟩)
         ·skip
          refine box_step ?hg (N := 6) ?hd (cs := #[.int .i64 0, .slice none 0 0]) (t := 30) ?hr ?_; (case hd => rfl); (case hg => rfl); (case hr => exact sE)
          intro gb183 hg w36 hbox hb
          have BK183 := Aside0.mk hbox
          have GW183 := gS w hg (lV3 GE175 GE176 GE177)
          have GE183 := gS w hg (lV3 GE175 GE176 GE177)
          replace HB := bH (lV3 GE175 GE176 GE177) hb
          have NB175_183 := nL hg (bV BK175)
          have NB183_175 := nG hg (bV BK175)
          replace BK175 := bB (bV BK175) hb
          have NB176_183 := nL hg (bV BK176)
          have NB183_176 := nG hg (bV BK176)
          replace BK176 := bB (bV BK176) hb
          have NB177_183 := nL hg (bV BK177)
          have NB183_177 := nG hg (bV BK177)
          replace BK177 := bB (bV BK177) hb
          clear hb hbox hg
          refine hK.out _ _ ⟨cz BK175 0 _, cz BK175 1 _⟩ (fun hHeld => ?_)
          clear hK K
          refine norm_ (a' := ?_) ?_ ?_
          rotate_left
          ·show Act.put _ (some 6) _ = _
           simp only [Act.put, List.setIfInBounds_toArray, List.set_cons_zero, List.set_cons_succ, i64_w, i32_w]
           rfl
          refine one_ (i := 4) (N := some 24) (bz 8 95) rfl rfl (one_of HT_.out (by kernel_rfl)) (by decide) (fun K hK => ?_)
          refine goes_ Try.func27 (by kernel_rfl) rfl #[.slice A0_1 l0_1.length c0_1] (by rfl) rfl rfl aE ?_
          with_reducible refine (impl_Timer_27.calls _ _ l0_1 t180 _ ?side1 ?side2 A27.out).mono ?_
          (case side1 => exact cU (Kd.C_below HR0_1.out HB.out))
          (case side2 => exact HC0_1.out)
          rintro e w37 ⟨v181, rfl, ho0, hb⟩
          refine ⟨_, rfl, ?_⟩
          have HO182 := Aside0.mk (Kd.R_lower (Kd.R_newB ho0 (g := gb176) (o := .cells #[.int .i64 a1_0, .int .i64 a1_1, .int .i64 a1_2, .int .i64 a1_3] 34 (0, 0)) (bV BK176)) (below_size (lV4 GE175 GE176 GE177 GE183)))
          replace BK175 := bB (bV BK175) hb
          replace BK176 := bB (bV BK176) hb
          replace BK177 := bB (bV BK177) hb
          replace BK183 := bB (bV BK183) hb
          replace HB := bH (lV4 GE175 GE176 GE177 GE183) hb
          (try clear hb)
          (try clear hb2)
          (try clear hk)
          (try clear hi)
          (try clear ho0)
          obtain ⟨Ao38, co38, eo38⟩ := Kd.R_slice HO182.out
          (first | subst eo38 | (injection eo38 with f1_ f2_ f3_; have f4_ := f1_.symm; have f5_ := f3_.symm; clear f1_ f2_ f3_; subst f4_; subst f5_))
          refine hK.out _ _ ⟨cz BK175 0 _, cz BK175 1 _⟩ (fun hHeld => ?_)
          clear hK K
          refine norm_ (a' := ?_) ?_ ?_
          rotate_left
          ·show Act.put _ (some 24) _ = _
           simp only [Act.put, List.setIfInBounds_toArray, List.set_cons_zero, List.set_cons_succ, i64_w, i32_w]
           rfl
          refine pureA 5 25 (bz 8 127) rfl rfl (any_of HT_.out (by kernel_rfl)) ?_
          exact norm_ (by simp only [putAll, Act.put, List.setIfInBounds_toArray, List.set_cons_zero, List.set_cons_succ]) (hCont (.slice Ao38 t180.length co38, gb183) _ ⟨hHeld, (by (with_reducible repeat (first | apply Kd.R_alloc | apply Kd.R_drewN | apply Kd.R_drew)); exact Kd.R_mono HO182.out (fun _ hk => hk.2)), (bV BK175), (bV BK176), (bV BK177), (bV BK183), GW183.out, GE183.out, NB175_183.out, NB183_175.out, NB176_183.out, NB183_176.out, NB177_183.out, NB183_177.out, (lV4 GE175 GE176 GE177 GE183)⟩)
        rintro ⟨v181, gb183⟩ w39 ⟨hS_, h0_, h1_, h2_, h3_, h4_, h5_, h6_, h7_, h8_, h9_, h10_, h11_, h12_, h13_⟩
        have HO182 : Aside0 (Kd.R k34 34 w39 w.heap.size (fun k_ => k_ ≠ gb176) v181 t180) := ⟨h0_⟩
        replace BK175 : Aside0 (w39.heap[gb175]? = some (.cells #[.int .i64 a0_0, .slice A0_1 l0_1.length c0_1] 30 (0, 0))) := ⟨h1_⟩
        replace BK176 : Aside0 (w39.heap[gb176]? = some (.cells #[.int .i64 a1_0, .int .i64 a1_1, .int .i64 a1_2, .int .i64 a1_3] 34 (0, 0))) := ⟨h2_⟩
        replace BK177 : Aside0 (w39.heap[gb177]? = some (.cells #[.int .i64 0, .slice none 0 0] 30 (0, 0))) := ⟨h3_⟩
        have BK183 : Aside0 (w39.heap[gb183]? = some (.cells #[.int .i64 0, .slice none 0 0] 30 (0, 0))) := ⟨h4_⟩
        have GW183 : Aside0 (w.heap.size ≤ gb183) := ⟨h5_⟩
        have GE183 : Aside0 (w.heap.size ≤ gb183) := ⟨h6_⟩
        have NB175_183 : Aside0 (gb175 ≠ gb183) := ⟨h7_⟩
        have NB183_175 : Aside0 (gb183 ≠ gb175) := ⟨h8_⟩
        have NB176_183 : Aside0 (gb176 ≠ gb183) := ⟨h9_⟩
        have NB183_176 : Aside0 (gb183 ≠ gb176) := ⟨h10_⟩
        have NB177_183 : Aside0 (gb177 ≠ gb183) := ⟨h11_⟩
        have NB183_177 : Aside0 (gb183 ≠ gb177) := ⟨h12_⟩
        replace HB : Aside0 (Below w.heap.size w w39) := ⟨h13_⟩
        clear h0_ h1_ h2_ h3_ h4_ h5_ h6_ h7_ h8_ h9_ h10_ h11_ h12_ h13_
        have hHeld : w39.cell? ⟨gb175, 0, none⟩ = some (.int .i64 a0_0) ∧ w39.cell? ⟨gb175, 1, none⟩ = some (.slice A0_1 l0_1.length c0_1) := hS_
        obtain ⟨Ao40, co40, eo40⟩ := Kd.R_slice HO182.out
        (first | subst eo40 | (injection eo40 with f1_ f2_ f3_; have f4_ := f1_.symm; have f5_ := f3_.symm; clear f1_ f2_ f3_; subst f4_; subst f5_))
        refine norm_ (a' := ?_) ?_ ?_
        rotate_left
        ·simp only [putAll, Act.put, List.setIfInBounds_toArray, List.set_cons_zero, List.set_cons_succ]
         rfl
        refine one_ (i := 7) (N := none) (bz 8 255) rfl rfl (one_of HT_.out (by kernel_rfl)) (by decide) (fun K hK => ?_)
        have hs41 : w39.cell? ⟨gb183, 0, none⟩ = some (.int .i64 0) := (blk_cell BK183.out 0).trans rfl
        have hfs41 := blk_frozen BK183.out 0
        have hns41_0 := NB175_183.out
        have hns41_1 := NB176_183.out
        have hns41_2 := NB177_183.out
        have hms41_0 := NB183_175.out
        have hms41_1 := NB183_176.out
        have hms41_2 := NB183_177.out
        have hs42 : w39.cell? ⟨gb183, 1, none⟩ = some (.slice none 0 0) := (blk_cell BK183.out 1).trans rfl
        have hfs42 := blk_frozen BK183.out 1
        have hns42_0 := NB175_183.out
        have hns42_1 := NB176_183.out
        have hns42_2 := NB177_183.out
        have hms42_0 := NB183_175.out
        have hms42_1 := NB183_176.out
        have hms42_2 := NB183_177.out
        refine skip_ (w1 := ?_) (by rfl) rfl ?_ ?_
        rotate_left
        ·go_simp
         rfl
        refine hK.out _ _ ⟨((cell_far (p := ⟨gb183, _, none⟩) NB175_183.out _).trans (((cell_far (p := ⟨gb183, _, none⟩) NB175_183.out _).trans (hHeld.1)))), ((cell_far (p := ⟨gb183, _, none⟩) NB175_183.out _).trans (((cell_far (p := ⟨gb183, _, none⟩) NB175_183.out _).trans (hHeld.2))))⟩ (fun hHeld => ?_)
        clear hK K
        refine done_ (done_of HT_.out (by kernel_rfl)) ?_
        have hnb43 := NB175_176.out
        have hnc43 := NB176_175.out
        have hnb44 := NB175_177.out
        have hnc44 := NB177_175.out
        have hnb45 := NB175_183.out
        have hnc45 := NB183_175.out
        have hcz46_0 := cz BK175 0 (.int .i64 a0_0)
        have hcz46_1 := cz BK175 1 (.slice A0_1 l0_1.length c0_1)
        have hfz46_0 := fz BK175 0
        have hfz46_1 := fz BK175 1
        have hnb47 := NB176_177.out
        have hnc47 := NB177_176.out
        have hnb48 := NB176_183.out
        have hnc48 := NB183_176.out
        have hcz49_0 := cz BK176 0 (.int .i64 a1_0)
        have hcz49_1 := cz BK176 1 (.int .i64 a1_1)
        have hcz49_2 := cz BK176 2 (.int .i64 a1_2)
        have hcz49_3 := cz BK176 3 (.int .i64 a1_3)
        have hfz49_0 := fz BK176 0
        have hfz49_1 := fz BK176 1
        have hfz49_2 := fz BK176 2
        have hfz49_3 := fz BK176 3
        try go_wp2_with (first | ((with_reducible refine gate_callee (f := 28) rfl ?_); refine goesL_ (some 30) rfl rfl Try.func28 (by kernel_rfl) rfl #[.agg #[.int .i64 a0_0, .slice A0_1 l0_1.length c0_1], .int .i64 a1_0] rfl aE ?_; (with_reducible refine (impl_Clock_place.calls kj2 a0_0 _ _ l0_1 a1_0 t184 true _ ?side1 ?side2 A28.out).mono ?_); (case side1 => exact Kd.C_below HR0_1.out (lV4 GE175 GE176 GE177 GE183)); (case side2 => exact HC0_1.out); rintro e w50 ⟨rfl, hb⟩; refine ⟨_, rfl, ?_⟩; replace HO182 := Aside0.mk (Kd.R_below (rU (Kd.R_mono (Kd.R_far (p := ⟨gb183, 1, none⟩) (Kd.R_far (p := ⟨gb183, 0, none⟩) (Kd.R_types HO182.out BK183.out (by decide)) (fun _ hk => hk.2) (.int .i64 a0_0)) (fun _ hk => hk.2) (.slice Ao40 t180.length co40)) (fun _ h_ => h_.1))) hb); replace BK175 := bB (bG NB175_183 BK175) hb; replace BK176 := bB (bG NB176_183 BK176) hb; replace BK177 := bB (bG NB177_183 BK177) hb; replace BK183 := Aside0.mk (blk_below (g := gb183) (o := .cells #[.int .i64 a0_0, .slice Ao40 t180.length co40] 30 (0, 0)) (by refine bU ?_; refine blk_put (cs := #[.int .i64 a0_0, .slice none 0 0]) ?_ 1 _ rfl; refine bU ?_; refine blk_put (cs := #[.int .i64 0, .slice none 0 0]) ?_ 0 _ rfl; refine bU ?_; exact BK183.out) hb); replace HB := bH (lV4 GE175 GE176 GE177 GE183) hb; (try clear hb); have hnb51 := NB183_177.out; have hnc51 := NB177_183.out; have hcz52_0 := cz BK183 0 (.int .i64 a0_0); have hcz52_1 := cz BK183 1 (.slice Ao40 t180.length co40); have hfz52_0 := fz BK183 0; have hfz52_1 := fz BK183 1; have hcz53_0 := cz BK176 0 (.int .i64 a1_0); have hcz53_1 := cz BK176 1 (.int .i64 a1_1); have hcz53_2 := cz BK176 2 (.int .i64 a1_2); have hcz53_3 := cz BK176 3 (.int .i64 a1_3); have hfz53_0 := fz BK176 0; have hfz53_1 := fz BK176 1; have hfz53_2 := fz BK176 2; have hfz53_3 := fz BK176 3; have p32 : 0 ≤ (t184 : Int) := of_decide_eq_true hE; have q32 : (t184 : Int) < ((t180.length : Int) : Int) := of_decide_eq_true hE; obtain ⟨go32, co32, eo32, gb32, gl32, cl32, HG32⟩ := Kd.R_form HO182.out (by omega); (first | cases eo32 | (injection eo32 with ea_ en_ ec_; (first | subst ea_ | (injection ea_ with ea_; subst ea_)); subst ec_; clear en_)); have GB32 := Aside0.mk gb32; have GG32 := Aside0.mk HG32; clear gb32 gl32 HG32; obtain ⟨ce32, hcl32, hM32, hcc32, hfr32⟩ := Kd.R_elem HO182.out z34 (t184 : Int) p32 q32; obtain rfl := k34_openM hM32; have hx32_0 : w50.cell? ⟨go32, (t184 : Int).toNat * 4, none⟩ = some (.int .i64 ((rd_T34 t180 t184).f0)) := hcc32 0 _ rfl; have hx32_1 : w50.cell? ⟨go32, (t184 : Int).toNat * 4 + 1, none⟩ = some (.int .i64 ((rd_T34 t180 t184).f1)) := hcc32 1 _ rfl; have hx32_2 : w50.cell? ⟨go32, (t184 : Int).toNat * 4 + 2, none⟩ = some (.int .i64 ((rd_T34 t180 t184).f2)) := hcc32 2 _ rfl; have hx32_3 : w50.cell? ⟨go32, (t184 : Int).toNat * 4 + 3, none⟩ = some (.int .i64 ((rd_T34 t180 t184).f3)) := hcc32 3 _ rfl; have hf32_0 : w50.frozen? ⟨go32, (t184 : Int).toNat * 4, none⟩ = false := hfr32 0; have hf32_1 : w50.frozen? ⟨go32, (t184 : Int).toNat * 4 + 1, none⟩ = false := hfr32 1; have hf32_2 : w50.frozen? ⟨go32, (t184 : Int).toNat * 4 + 2, none⟩ = false := hfr32 2; have hf32_3 : w50.frozen? ⟨go32, (t184 : Int).toNat * 4 + 3, none⟩ = false := hfr32 3; (try clear hcl32); (try clear hcc32); (try clear hfr32); (try clear hM32); replace p32 := eq_true p32; replace q32 := eq_true q32; have HX54 := Aside0.mk (show Kd.R k34 34 w50 w.heap.size (fun k_ => k_ ≠ gb176) (.slice (some ⟨go32, 0, none⟩) t180.length co40) t180 from (rU HO182.out)); obtain ⟨ce54, hcl54, hM54, hcc54, hfr54⟩ := Kd.R_elem HX54.out z34 (t184 : Int) (of_decide_eq_true hE) (by have h_ : (t184 : Int) < ((t180.length : Int) : Int) := of_decide_eq_true hE; first | exact h_ | (have e_ := (Kd.R_reads' HO182.out).1; omega) | simpa using h_); obtain rfl := k34_openM hM54; have HP54 := Kd.R_seg HX54.out (t184 : Int) (of_decide_eq_true hE) (by have h_ : (t184 : Int) < ((t180.length : Int) : Int) := of_decide_eq_true hE; first | exact h_ | (have e_ := (Kd.R_reads' HO182.out).1; omega) | simpa using h_) (seg := [.int .i64 a1_0, .int .i64 a1_1, .int .i64 a1_2, .int .i64 a1_3]) (j := 0) hcl54 hcc54 (show 4 ≤ 4 from by decide) (x' := (⟨a1_0, a1_1, a1_2, a1_3⟩ : S34)) (k34_mkM _ _ _ (⟨a1_0, a1_1, a1_2, a1_3⟩ : S34) ) (fun _ hk => hk); have hx54_0 := hcc54 0 _ rfl; (try simp only [show (k34).sz = 4 from rfl, Nat.mul_one, Nat.add_zero] at hx54_0); have hf54_0 := hfr54 0; (try simp only [show (k34).sz = 4 from rfl, Nat.mul_one, Nat.add_zero] at hf54_0); have hx54_1 := hcc54 1 _ rfl; (try simp only [show (k34).sz = 4 from rfl, Nat.mul_one, Nat.add_zero] at hx54_1); have hf54_1 := hfr54 1; (try simp only [show (k34).sz = 4 from rfl, Nat.mul_one, Nat.add_zero] at hf54_1); have hx54_2 := hcc54 2 _ rfl; (try simp only [show (k34).sz = 4 from rfl, Nat.mul_one, Nat.add_zero] at hx54_2); have hf54_2 := hfr54 2; (try simp only [show (k34).sz = 4 from rfl, Nat.mul_one, Nat.add_zero] at hf54_2); have hx54_3 := hcc54 3 _ rfl; (try simp only [show (k34).sz = 4 from rfl, Nat.mul_one, Nat.add_zero] at hx54_3); have hf54_3 := hfr54 3; (try simp only [show (k34).sz = 4 from rfl, Nat.mul_one, Nat.add_zero] at hf54_3); (try clear hcl54); (try clear hcc54); (try clear hfr54); (try clear hM54)) | ((with_reducible refine gate_store (t := 34) (p := 38) rfl ?_); refine store_event (t := 34) (p := 38) (v := ?vo_w55) (w1 := ((((w50.setCell ⟨go32, (t184 : Int).toNat * 4, none⟩ (.int .i64 a1_0)).setCell ⟨go32, (t184 : Int).toNat * 4 + 1, none⟩ (.int .i64 a1_1)).setCell ⟨go32, (t184 : Int).toNat * 4 + 2, none⟩ (.int .i64 a1_2)).setCell ⟨go32, (t184 : Int).toNat * 4 + 3, none⟩ (.int .i64 a1_3))) ?hg ?ho ?hn ?hr ?_; (case ho => rfl); (case hg => rfl); (case hn => rfl); (case hr => exact sE); intro w55 hw; have hg : w50.grownBy w55 (some go32) := (by rw [hw]; exact HP54.2); have hp_ : Kd.R k34 34 w55 w.heap.size (fun k_ => k_ ≠ gb176) (.slice (some ⟨go32, 0, none⟩) t180.length co40) y186 := (by rw [hw, Ny186.out]; exact HP54.1); clear HP54; replace BK175 := Aside0.mk (blk_grown (g := gb175) (o := .cells #[.int .i64 a0_0, .slice A0_1 l0_1.length c0_1] 30 (0, 0)) (bV BK175) hg (Kd.R_ne HO182.out BK175.out (by decide))); replace BK176 := Aside0.mk (blk_grown (g := gb176) (o := .cells #[.int .i64 a1_0, .int .i64 a1_1, .int .i64 a1_2, .int .i64 a1_3] 34 (0, 0)) (bV BK176) hg (Kd.R_away HO182.out (fun _ hk => hk))); replace BK177 := Aside0.mk (blk_grown (g := gb177) (o := .cells #[.int .i64 0, .slice none 0 0] 30 (0, 0)) (bV BK177) hg (Kd.R_ne HO182.out BK177.out (by decide))); replace BK183 := Aside0.mk (blk_grown (g := gb183) (o := .cells #[.int .i64 a0_0, .slice (some ⟨go32, 0, none⟩) t180.length co40] 30 (0, 0)) (bV BK183) hg (Kd.R_ne HO182.out BK183.out (by decide))); replace HO182 := Aside0.mk hp_; replace HB := Aside0.mk ((by rw [hw]; exact below_set (below_set (below_set (below_set (HB.out) GB32.out) GB32.out) GB32.out) GB32.out : Below w.heap.size w w55)); clear hg hw hp_; have hcz56_0 := cz BK183 0 (.int .i64 a0_0); have hcz56_1 := cz BK183 1 (.slice (some ⟨go32, 0, none⟩) t180.length co40); have hfz56_0 := fz BK183 0; have hfz56_1 := fz BK183 1) | ((with_reducible refine gate_callee (f := 25) rfl ?_); refine goesL_ (some 47) rfl rfl Try.func25 (by kernel_rfl) rfl #[.agg #[.int .i64 a0_0, .slice (some ⟨go32, 0, none⟩) y186.length co40]] rfl (by (try simp only [List.map_toArray, List.map_cons, List.map_nil]); first | done | (rw [show y186.length = t180.length from (Kd.R_reads' HO182.out).1.symm] <;> rfl) | rfl | (simp only [List.length_drop, List.length_take]; rfl)) ?_; (with_reducible refine (impl_GoodClock.calls kj2 a0_0 _ _ y186 true _ ?side1 ?side2 A33.out).mono ?_); (case side1 => exact cU (Kd.R_reads' HO182.out).2.2); (case side2 => rw [show y186.length = t180.length from (Kd.R_reads' HO182.out).1.symm]; exact (Kd.R_reads' HO182.out).2.1); rintro e w57 ⟨rfl, hb⟩; refine ⟨_, rfl, ?_⟩; replace HO182 := Aside0.mk (Kd.R_below (rU HO182.out) hb); replace BK175 := bB (bV BK175) hb; replace BK176 := bB (bV BK176) hb; replace BK177 := bB (bV BK177) hb; replace BK183 := bB (bV BK183) hb; replace HB := bH (lV4 GE175 GE176 GE177 GE183) hb; (try clear hb); have hcz58_0 := cz BK183 0 (.int .i64 a0_0); have hcz58_1 := cz BK183 1 (.slice (some ⟨go32, 0, none⟩) t180.length co40); have hfz58_0 := fz BK183 0; have hfz58_1 := fz BK183 1; have hcz59_0 := cz BK177 0 (.int .i64 0); have hcz59_1 := cz BK177 1 (.slice none 0 0); have hfz59_0 := fz BK177 0; have hfz59_1 := fz BK177 1) | ((with_reducible refine gate_store (t := 30) (p := 4) rfl ?_); refine store_event (t := 30) (p := 4) (v := ?vo_w60) (w1 := ((w57.setCell ⟨gb177, 0, none⟩ (.int .i64 a0_0)).setCell ⟨gb177, 1, none⟩ (.slice (some ⟨go32, 0, none⟩) t180.length co40))) ?hg ?ho ?hn ?hr ?_; (case ho => rfl); (case hg => rfl); (case hn => rfl); (case hr => first | (go_simp; done) | (go_simp; rfl) | (have hq0_ := (blk_cell BK177.out 0).trans (show _ = some _ from rfl); have hf0_ := blk_frozen BK177.out 0; have hq1_ := (blk_cell BK177.out 1).trans (show _ = some _ from rfl); have hf1_ := blk_frozen BK177.out 1; first | (go_simp; done) | (go_simp; rfl))); intro w60 hw; replace HO182 : Aside0 (Kd.R k34 34 w60 w.heap.size (fun k_ => k_ ≠ gb176) (.slice (some ⟨go32, 0, none⟩) t180.length co40) y186) := ⟨(by rw [hw]; exact (by (with_reducible repeat (first | apply Kd.R_alloc | apply Kd.R_drewN | apply Kd.R_drew)); exact Kd.R_mono (Kd.R_far (p := ⟨gb177, 1, none⟩) (Kd.R_far (p := ⟨gb177, 0, none⟩) (Kd.R_types HO182.out BK177.out (by decide)) (fun _ hk => hk.2) (.int .i64 a0_0)) (fun _ hk => hk.2) (.slice (some ⟨go32, 0, none⟩) t180.length co40)) (fun _ hk => hk.1)))⟩; replace BK175 : Aside0 (w60.heap[gb175]? = some (.cells #[.int .i64 a0_0, .slice A0_1 l0_1.length c0_1] 30 (0, 0))) := ⟨(by rw [hw]; exact (bG NB175_177 BK175))⟩; replace BK176 : Aside0 (w60.heap[gb176]? = some (.cells #[.int .i64 a1_0, .int .i64 a1_1, .int .i64 a1_2, .int .i64 a1_3] 34 (0, 0))) := ⟨(by rw [hw]; exact (bG NB176_177 BK176))⟩; replace BK177 : Aside0 (w60.heap[gb177]? = some (.cells #[.int .i64 a0_0, .slice (some ⟨go32, 0, none⟩) t180.length co40] 30 (0, 0))) := ⟨(by rw [hw]; exact (by refine bU ?_; refine blk_put (cs := #[.int .i64 a0_0, .slice none 0 0]) ?_ 1 _ rfl; refine bU ?_; refine blk_put (cs := #[.int .i64 0, .slice none 0 0]) ?_ 0 _ rfl; refine bU ?_; exact BK177.out))⟩; replace BK183 : Aside0 (w60.heap[gb183]? = some (.cells #[.int .i64 a0_0, .slice (some ⟨go32, 0, none⟩) t180.length co40] 30 (0, 0))) := ⟨(by rw [hw]; exact (bG NB183_177 BK183))⟩; replace HB : Aside0 (Below w.heap.size w w60) := ⟨(by rw [hw]; exact (lV4 GE175 GE176 GE177 GE183))⟩; clear hw))
        refine bodyPost_ret (results_ct rfl _ _ gb177 30 #[.int .i64 a0_0, .slice (some ⟨go32, 0, none⟩) t180.length co40] (0, 0) _ rfl (bV BK177) Try.underlying30 rfl (by kernel_rfl)) rfl ?_
        exact ⟨_, eE, by (with_reducible repeat (first | apply Kd.R_alloc | apply Kd.R_drewN | apply Kd.R_drew)); exact Kd.R_mono HO182.out (fun _ hk => trivial), lV4 GE175 GE176 GE177 GE183⟩
       ·replace c34 := Bool.eq_false_iff.mpr c34
        subst c34
        have H1 : (some (0, ([] : List (S34)), false)) = some (r1, r2, r3) := by rw [if_neg (show ¬ (false = true) by decide)] at H; exact H
        clear H
        have H := H1
        clear H1
        simp only [Option.some.injEq, Prod.mk.injEq] at H
        obtain ⟨rfl, rfl, rfl⟩ := H
        try go_wp2
        replace BK175 := Aside0.mk (blk_drew BK175.out)
        replace BK176 := Aside0.mk (blk_drew BK176.out)
        replace BK177 := Aside0.mk (blk_drew BK177.out)
        replace HB := Aside0.mk (below_drew1 HB.out)
        refine start_ (n := 8) (S := fun w' => w'.cell? ⟨gb175, 0, none⟩ = some (.int .i64 a0_0) ∧ w'.cell? ⟨gb175, 1, none⟩ = some (.slice A0_1 l0_1.length c0_1)) (ds := []) #[false, false, false, false, false, false, false, false] (by kernel_rfl) rfl rfl ⟨cz BK175 0 _, cz BK175 1 _⟩ (fun hHeld => ?_); refine with_tabW impl_AddTimer.tab3 impl_AddTimer.bits3 (fun HT_ HW_ => ?_)
        generalize wc.drew = w61 at BK175 BK176 BK177 HB hHeld ⊢
        refine pureA 0 20 (bz 8 1) rfl rfl (any_of HT_.out (by kernel_rfl)) ?_
        refine pureA 2 22 (bz 8 5) rfl rfl (any_of HT_.out (by kernel_rfl)) ?_
        refine takeA 1 21 (bz 8 7) rfl rfl (take_ofW HT_.out HW_.out (by kernel_rfl)) hHeld (by rintro w' ⟨s0, s1⟩; go_simp; with_reducible rfl) ?_
        refine takeA 3 23 (bz 8 15) rfl rfl (take_ofW HT_.out HW_.out (by kernel_rfl)) hHeld (by rintro w' ⟨s0, s1⟩; go_simp; with_reducible rfl) ?_
        refine join_ (σ := Value × Nat) 1 #[true, true, true, true, true, true, true, false] (fun s_ => [(24, s_.1), (6, .pointer (some ⟨s_.2, 0, none⟩)), (25, .agg #[.int .i64 a0_0, s_.1])]) (fun s_ w' => (w'.cell? ⟨gb175, 0, none⟩ = some (.int .i64 a0_0) ∧ w'.cell? ⟨gb175, 1, none⟩ = some (.slice A0_1 l0_1.length c0_1)) ∧ (Kd.R k34 34 w' w.heap.size (fun k_ => k_ ≠ gb176) s_.1 t180) ∧ (w'.heap[gb175]? = some (.cells #[.int .i64 a0_0, .slice A0_1 l0_1.length c0_1] 30 (0, 0))) ∧ (w'.heap[gb176]? = some (.cells #[.int .i64 a1_0, .int .i64 a1_1, .int .i64 a1_2, .int .i64 a1_3] 34 (0, 0))) ∧ (w'.heap[gb177]? = some (.cells #[.int .i64 0, .slice none 0 0] 30 (0, 0))) ∧ (w'.heap[s_.2]? = some (.cells #[.int .i64 0, .slice none 0 0] 30 (0, 0))) ∧ (w.heap.size ≤ s_.2) ∧ (w.heap.size ≤ s_.2) ∧ (gb175 ≠ s_.2) ∧ (s_.2 ≠ gb175) ∧ (gb176 ≠ s_.2) ∧ (s_.2 ≠ gb176) ∧ (gb177 ≠ s_.2) ∧ (s_.2 ≠ gb177) ∧ (Below w.heap.size w w')) ?_ ?_
        rotate_left
        ·intro hCont
         refine two_ (i := 4) (j := 6) (Ni := some 24) (Nj := some 6) #[true, true, true, true, true, false, false, false] #[true, true, true, true, false, false, true, false] rfl rfl rfl rfl (two_of HT_.out (by kernel_rfl)) (by decide) (by decide) (fun K hK => ?_) (fun K hK => ?_)
         ·skip
          refine goes_ Try.func27 (by kernel_rfl) rfl #[.slice A0_1 l0_1.length c0_1] (by rfl) rfl rfl aE ?_
          with_reducible refine (impl_Timer_27.calls _ _ l0_1 t180 _ ?side1 ?side2 A27.out).mono ?_
          (case side1 => exact cU (Kd.C_below HR0_1.out HB.out))
          (case side2 => exact HC0_1.out)
          rintro e w62 ⟨v181, rfl, ho0, hb⟩
          refine ⟨_, rfl, ?_⟩
          have HO182 := Aside0.mk (Kd.R_lower (Kd.R_newB ho0 (g := gb176) (o := .cells #[.int .i64 a1_0, .int .i64 a1_1, .int .i64 a1_2, .int .i64 a1_3] 34 (0, 0)) (bV BK176)) (below_size (lV3 GE175 GE176 GE177)))
          replace BK175 := bB (bV BK175) hb
          replace BK176 := bB (bV BK176) hb
          replace BK177 := bB (bV BK177) hb
          replace HB := bH (lV3 GE175 GE176 GE177) hb
          (try clear hb)
          (try clear hb2)
          (try clear hk)
          (try clear hi)
          (try clear ho0)
          obtain ⟨Ao63, co63, eo63⟩ := Kd.R_slice HO182.out
          (first | subst eo63 | (injection eo63 with f1_ f2_ f3_; have f4_ := f1_.symm; have f5_ := f3_.symm; clear f1_ f2_ f3_; subst f4_; subst f5_))
          refine hK.out _ _ ⟨cz BK175 0 _, cz BK175 1 _⟩ (fun hHeld => ?_)
          clear hK K
          refine norm_ (a' := ?_) ?_ ?_
          rotate_left
          ·show Act.put _ (some 24) _ = _
           simp only [Act.put, List.setIfInBounds_toArray, List.set_cons_zero, List.set_cons_succ, i64_w, i32_w]
           rfl
          refine pureA 5 25 (bz 8 63) rfl rfl (any_of HT_.out (by kernel_rfl)) ?_
          refine one_ (i := 6) (N := some 6) (bz 8 127) rfl rfl (one_of HT_.out (by kernel_rfl)) (by decide) (fun K hK => ?_)
          refine box_step ?hg (N := 6) ?hd (cs := #[.int .i64 0, .slice none 0 0]) (t := 30) ?hr ?_; (case hd => rfl); (case hg => rfl); (case hr => exact sE)
          intro gb183 hg w64 hbox hb
          replace HO182 := Aside0.mk (Kd.R_below (rU HO182.out) hb)
          have BK183 := Aside0.mk hbox
          have GW183 := gS w hg (lV3 GE175 GE176 GE177)
          have GE183 := gS w hg (lV3 GE175 GE176 GE177)
          replace HB := bH (lV3 GE175 GE176 GE177) hb
          have NB175_183 := nL hg (bV BK175)
          have NB183_175 := nG hg (bV BK175)
          replace BK175 := bB (bV BK175) hb
          have NB176_183 := nL hg (bV BK176)
          have NB183_176 := nG hg (bV BK176)
          replace BK176 := bB (bV BK176) hb
          have NB177_183 := nL hg (bV BK177)
          have NB183_177 := nG hg (bV BK177)
          replace BK177 := bB (bV BK177) hb
          clear hb hbox hg
          refine hK.out _ _ ⟨cz BK175 0 _, cz BK175 1 _⟩ (fun hHeld => ?_)
          clear hK K
          refine norm_ (a' := ?_) ?_ ?_
          rotate_left
          ·show Act.put _ (some 6) _ = _
           simp only [Act.put, List.setIfInBounds_toArray, List.set_cons_zero, List.set_cons_succ, i64_w, i32_w]
           rfl
          exact norm_ (by simp only [putAll, Act.put, List.setIfInBounds_toArray, List.set_cons_zero, List.set_cons_succ]) (hCont (.slice Ao63 t180.length co63, gb183) _ ⟨hHeld, (by (with_reducible repeat (first | apply Kd.R_alloc | apply Kd.R_drewN | apply Kd.R_drew)); exact Kd.R_mono HO182.out (fun _ hk => hk.2)), (bV BK175), (bV BK176), (bV BK177), (bV BK183), GW183.out, GE183.out, NB175_183.out, NB183_175.out, NB176_183.out, NB183_176.out, NB177_183.out, NB183_177.out, (lV4 GE175 GE176 GE177 GE183)⟩)
         ·skip
          refine box_step ?hg (N := 6) ?hd (cs := #[.int .i64 0, .slice none 0 0]) (t := 30) ?hr ?_; (case hd => rfl); (case hg => rfl); (case hr => exact sE)
          intro gb183 hg w62 hbox hb
          have BK183 := Aside0.mk hbox
          have GW183 := gS w hg (lV3 GE175 GE176 GE177)
          have GE183 := gS w hg (lV3 GE175 GE176 GE177)
          replace HB := bH (lV3 GE175 GE176 GE177) hb
          have NB175_183 := nL hg (bV BK175)
          have NB183_175 := nG hg (bV BK175)
          replace BK175 := bB (bV BK175) hb
          have NB176_183 := nL hg (bV BK176)
          have NB183_176 := nG hg (bV BK176)
          replace BK176 := bB (bV BK176) hb
          have NB177_183 := nL hg (bV BK177)
          have NB183_177 := nG hg (bV BK177)
          replace BK177 := bB (bV BK177) hb
          clear hb hbox hg
          refine hK.out _ _ ⟨cz BK175 0 _, cz BK175 1 _⟩ (fun hHeld => ?_)
          clear hK K
          refine norm_ (a' := ?_) ?_ ?_
          rotate_left
          ·show Act.put _ (some 6) _ = _
           simp only [Act.put, List.setIfInBounds_toArray, List.set_cons_zero, List.set_cons_succ, i64_w, i32_w]
           rfl
          refine one_ (i := 4) (N := some 24) (bz 8 95) rfl rfl (one_of HT_.out (by kernel_rfl)) (by decide) (fun K hK => ?_)
          refine goes_ Try.func27 (by kernel_rfl) rfl #[.slice A0_1 l0_1.length c0_1] (by rfl) rfl rfl aE ?_
          with_reducible refine (impl_Timer_27.calls _ _ l0_1 t180 _ ?side1 ?side2 A27.out).mono ?_
          (case side1 => exact cU (Kd.C_below HR0_1.out HB.out))
          (case side2 => exact HC0_1.out)
          rintro e w63 ⟨v181, rfl, ho0, hb⟩
          refine ⟨_, rfl, ?_⟩
          have HO182 := Aside0.mk (Kd.R_lower (Kd.R_newB ho0 (g := gb176) (o := .cells #[.int .i64 a1_0, .int .i64 a1_1, .int .i64 a1_2, .int .i64 a1_3] 34 (0, 0)) (bV BK176)) (below_size (lV4 GE175 GE176 GE177 GE183)))
          replace BK175 := bB (bV BK175) hb
          replace BK176 := bB (bV BK176) hb
          replace BK177 := bB (bV BK177) hb
          replace BK183 := bB (bV BK183) hb
          replace HB := bH (lV4 GE175 GE176 GE177 GE183) hb
          (try clear hb)
          (try clear hb2)
          (try clear hk)
          (try clear hi)
          (try clear ho0)
          obtain ⟨Ao64, co64, eo64⟩ := Kd.R_slice HO182.out
          (first | subst eo64 | (injection eo64 with f1_ f2_ f3_; have f4_ := f1_.symm; have f5_ := f3_.symm; clear f1_ f2_ f3_; subst f4_; subst f5_))
          refine hK.out _ _ ⟨cz BK175 0 _, cz BK175 1 _⟩ (fun hHeld => ?_)
          clear hK K
          refine norm_ (a' := ?_) ?_ ?_
          rotate_left
          ·show Act.put _ (some 24) _ = _
           simp only [Act.put, List.setIfInBounds_toArray, List.set_cons_zero, List.set_cons_succ, i64_w, i32_w]
           rfl
          refine pureA 5 25 (bz 8 127) rfl rfl (any_of HT_.out (by kernel_rfl)) ?_
          exact norm_ (by simp only [putAll, Act.put, List.setIfInBounds_toArray, List.set_cons_zero, List.set_cons_succ]) (hCont (.slice Ao64 t180.length co64, gb183) _ ⟨hHeld, (by (with_reducible repeat (first | apply Kd.R_alloc | apply Kd.R_drewN | apply Kd.R_drew)); exact Kd.R_mono HO182.out (fun _ hk => hk.2)), (bV BK175), (bV BK176), (bV BK177), (bV BK183), GW183.out, GE183.out, NB175_183.out, NB183_175.out, NB176_183.out, NB183_176.out, NB177_183.out, NB183_177.out, (lV4 GE175 GE176 GE177 GE183)⟩)
        rintro ⟨v181, gb183⟩ w65 ⟨hS_, h0_, h1_, h2_, h3_, h4_, h5_, h6_, h7_, h8_, h9_, h10_, h11_, h12_, h13_⟩
        have HO182 : Aside0 (Kd.R k34 34 w65 w.heap.size (fun k_ => k_ ≠ gb176) v181 t180) := ⟨h0_⟩
        replace BK175 : Aside0 (w65.heap[gb175]? = some (.cells #[.int .i64 a0_0, .slice A0_1 l0_1.length c0_1] 30 (0, 0))) := ⟨h1_⟩
        replace BK176 : Aside0 (w65.heap[gb176]? = some (.cells #[.int .i64 a1_0, .int .i64 a1_1, .int .i64 a1_2, .int .i64 a1_3] 34 (0, 0))) := ⟨h2_⟩
        replace BK177 : Aside0 (w65.heap[gb177]? = some (.cells #[.int .i64 0, .slice none 0 0] 30 (0, 0))) := ⟨h3_⟩
        have BK183 : Aside0 (w65.heap[gb183]? = some (.cells #[.int .i64 0, .slice none 0 0] 30 (0, 0))) := ⟨h4_⟩
        have GW183 : Aside0 (w.heap.size ≤ gb183) := ⟨h5_⟩
        have GE183 : Aside0 (w.heap.size ≤ gb183) := ⟨h6_⟩
        have NB175_183 : Aside0 (gb175 ≠ gb183) := ⟨h7_⟩
        have NB183_175 : Aside0 (gb183 ≠ gb175) := ⟨h8_⟩
        have NB176_183 : Aside0 (gb176 ≠ gb183) := ⟨h9_⟩
        have NB183_176 : Aside0 (gb183 ≠ gb176) := ⟨h10_⟩
        have NB177_183 : Aside0 (gb177 ≠ gb183) := ⟨h11_⟩
        have NB183_177 : Aside0 (gb183 ≠ gb177) := ⟨h12_⟩
        replace HB : Aside0 (Below w.heap.size w w65) := ⟨h13_⟩
        clear h0_ h1_ h2_ h3_ h4_ h5_ h6_ h7_ h8_ h9_ h10_ h11_ h12_ h13_
        have hHeld : w65.cell? ⟨gb175, 0, none⟩ = some (.int .i64 a0_0) ∧ w65.cell? ⟨gb175, 1, none⟩ = some (.slice A0_1 l0_1.length c0_1) := hS_
        obtain ⟨Ao66, co66, eo66⟩ := Kd.R_slice HO182.out
        (first | subst eo66 | (injection eo66 with f1_ f2_ f3_; have f4_ := f1_.symm; have f5_ := f3_.symm; clear f1_ f2_ f3_; subst f4_; subst f5_))
        refine norm_ (a' := ?_) ?_ ?_
        rotate_left
        ·simp only [putAll, Act.put, List.setIfInBounds_toArray, List.set_cons_zero, List.set_cons_succ]
         rfl
        refine one_ (i := 7) (N := none) (bz 8 255) rfl rfl (one_of HT_.out (by kernel_rfl)) (by decide) (fun K hK => ?_)
        have hs67 : w65.cell? ⟨gb183, 0, none⟩ = some (.int .i64 0) := (blk_cell BK183.out 0).trans rfl
        have hfs67 := blk_frozen BK183.out 0
        have hns67_0 := NB175_183.out
        have hns67_1 := NB176_183.out
        have hns67_2 := NB177_183.out
        have hms67_0 := NB183_175.out
        have hms67_1 := NB183_176.out
        have hms67_2 := NB183_177.out
        have hs68 : w65.cell? ⟨gb183, 1, none⟩ = some (.slice none 0 0) := (blk_cell BK183.out 1).trans rfl
        have hfs68 := blk_frozen BK183.out 1
        have hns68_0 := NB175_183.out
        have hns68_1 := NB176_183.out
        have hns68_2 := NB177_183.out
        have hms68_0 := NB183_175.out
        have hms68_1 := NB183_176.out
        have hms68_2 := NB183_177.out
        refine skip_ (w1 := ?_) (by rfl) rfl ?_ ?_
        rotate_left
        ·go_simp
         rfl
        refine hK.out _ _ ⟨((cell_far (p := ⟨gb183, _, none⟩) NB175_183.out _).trans (((cell_far (p := ⟨gb183, _, none⟩) NB175_183.out _).trans (hHeld.1)))), ((cell_far (p := ⟨gb183, _, none⟩) NB175_183.out _).trans (((cell_far (p := ⟨gb183, _, none⟩) NB175_183.out _).trans (hHeld.2))))⟩ (fun hHeld => ?_)
        clear hK K
        refine done_ (done_of HT_.out (by kernel_rfl)) ?_
        have hnb69 := NB175_176.out
        have hnc69 := NB176_175.out
        have hnb70 := NB175_177.out
        have hnc70 := NB177_175.out
        have hnb71 := NB175_183.out
        have hnc71 := NB183_175.out
        have hcz72_0 := cz BK175 0 (.int .i64 a0_0)
        have hcz72_1 := cz BK175 1 (.slice A0_1 l0_1.length c0_1)
        have hfz72_0 := fz BK175 0
        have hfz72_1 := fz BK175 1
        have hnb73 := NB176_177.out
        have hnc73 := NB177_176.out
        have hnb74 := NB176_183.out
        have hnc74 := NB183_176.out
        have hcz75_0 := cz BK176 0 (.int .i64 a1_0)
        have hcz75_1 := cz BK176 1 (.int .i64 a1_1)
        have hcz75_2 := cz BK176 2 (.int .i64 a1_2)
        have hcz75_3 := cz BK176 3 (.int .i64 a1_3)
        have hfz75_0 := fz BK176 0
        have hfz75_1 := fz BK176 1
        have hfz75_2 := fz BK176 2
        have hfz75_3 := fz BK176 3
        try go_wp2_with (first | ((with_reducible refine gate_callee (f := 28) rfl ?_); refine goesL_ (some 30) rfl rfl Try.func28 (by kernel_rfl) rfl #[.agg #[.int .i64 a0_0, .slice A0_1 l0_1.length c0_1], .int .i64 a1_0] rfl aE ?_; (with_reducible refine (impl_Clock_place.calls kj2 a0_0 _ _ l0_1 a1_0 t184 true _ ?side1 ?side2 A28.out).mono ?_); (case side1 => exact Kd.C_below HR0_1.out (lV4 GE175 GE176 GE177 GE183)); (case side2 => exact HC0_1.out); rintro e w76 ⟨rfl, hb⟩; refine ⟨_, rfl, ?_⟩; replace HO182 := Aside0.mk (Kd.R_below (rU (Kd.R_mono (Kd.R_far (p := ⟨gb183, 1, none⟩) (Kd.R_far (p := ⟨gb183, 0, none⟩) (Kd.R_types HO182.out BK183.out (by decide)) (fun _ hk => hk.2) (.int .i64 a0_0)) (fun _ hk => hk.2) (.slice Ao66 t180.length co66)) (fun _ h_ => h_.1))) hb); replace BK175 := bB (bG NB175_183 BK175) hb; replace BK176 := bB (bG NB176_183 BK176) hb; replace BK177 := bB (bG NB177_183 BK177) hb; replace BK183 := Aside0.mk (blk_below (g := gb183) (o := .cells #[.int .i64 a0_0, .slice Ao66 t180.length co66] 30 (0, 0)) (by refine bU ?_; refine blk_put (cs := #[.int .i64 a0_0, .slice none 0 0]) ?_ 1 _ rfl; refine bU ?_; refine blk_put (cs := #[.int .i64 0, .slice none 0 0]) ?_ 0 _ rfl; refine bU ?_; exact BK183.out) hb); replace HB := bH (lV4 GE175 GE176 GE177 GE183) hb; (try clear hb); have hnb77 := NB183_177.out; have hnc77 := NB177_183.out; have hcz78_0 := cz BK183 0 (.int .i64 a0_0); have hcz78_1 := cz BK183 1 (.slice Ao66 t180.length co66); have hfz78_0 := fz BK183 0; have hfz78_1 := fz BK183 1; have hcz79_0 := cz BK176 0 (.int .i64 a1_0); have hcz79_1 := cz BK176 1 (.int .i64 a1_1); have hcz79_2 := cz BK176 2 (.int .i64 a1_2); have hcz79_3 := cz BK176 3 (.int .i64 a1_3); have hfz79_0 := fz BK176 0; have hfz79_1 := fz BK176 1; have hfz79_2 := fz BK176 2; have hfz79_3 := fz BK176 3; have p32 : 0 ≤ (t184 : Int) := of_decide_eq_true hE; have q32 : (t184 : Int) < ((t180.length : Int) : Int) := of_decide_eq_true hE; obtain ⟨go32, co32, eo32, gb32, gl32, cl32, HG32⟩ := Kd.R_form HO182.out (by omega); (first | cases eo32 | (injection eo32 with ea_ en_ ec_; (first | subst ea_ | (injection ea_ with ea_; subst ea_)); subst ec_; clear en_)); have GB32 := Aside0.mk gb32; have GG32 := Aside0.mk HG32; clear gb32 gl32 HG32; obtain ⟨ce32, hcl32, hM32, hcc32, hfr32⟩ := Kd.R_elem HO182.out z34 (t184 : Int) p32 q32; obtain rfl := k34_openM hM32; have hx32_0 : w76.cell? ⟨go32, (t184 : Int).toNat * 4, none⟩ = some (.int .i64 ((rd_T34 t180 t184).f0)) := hcc32 0 _ rfl; have hx32_1 : w76.cell? ⟨go32, (t184 : Int).toNat * 4 + 1, none⟩ = some (.int .i64 ((rd_T34 t180 t184).f1)) := hcc32 1 _ rfl; have hx32_2 : w76.cell? ⟨go32, (t184 : Int).toNat * 4 + 2, none⟩ = some (.int .i64 ((rd_T34 t180 t184).f2)) := hcc32 2 _ rfl; have hx32_3 : w76.cell? ⟨go32, (t184 : Int).toNat * 4 + 3, none⟩ = some (.int .i64 ((rd_T34 t180 t184).f3)) := hcc32 3 _ rfl; have hf32_0 : w76.frozen? ⟨go32, (t184 : Int).toNat * 4, none⟩ = false := hfr32 0; have hf32_1 : w76.frozen? ⟨go32, (t184 : Int).toNat * 4 + 1, none⟩ = false := hfr32 1; have hf32_2 : w76.frozen? ⟨go32, (t184 : Int).toNat * 4 + 2, none⟩ = false := hfr32 2; have hf32_3 : w76.frozen? ⟨go32, (t184 : Int).toNat * 4 + 3, none⟩ = false := hfr32 3; (try clear hcl32); (try clear hcc32); (try clear hfr32); (try clear hM32); replace p32 := eq_true p32; replace q32 := eq_true q32; have HX80 := Aside0.mk (show Kd.R k34 34 w76 w.heap.size (fun k_ => k_ ≠ gb176) (.slice (some ⟨go32, 0, none⟩) t180.length co66) t180 from (rU HO182.out)); obtain ⟨ce80, hcl80, hM80, hcc80, hfr80⟩ := Kd.R_elem HX80.out z34 (t184 : Int) (of_decide_eq_true hE) (by have h_ : (t184 : Int) < ((t180.length : Int) : Int) := of_decide_eq_true hE; first | exact h_ | (have e_ := (Kd.R_reads' HO182.out).1; omega) | simpa using h_); obtain rfl := k34_openM hM80; have HP80 := Kd.R_seg HX80.out (t184 : Int) (of_decide_eq_true hE) (by have h_ : (t184 : Int) < ((t180.length : Int) : Int) := of_decide_eq_true hE; first | exact h_ | (have e_ := (Kd.R_reads' HO182.out).1; omega) | simpa using h_) (seg := [.int .i64 a1_0, .int .i64 a1_1, .int .i64 a1_2, .int .i64 a1_3]) (j := 0) hcl80 hcc80 (show 4 ≤ 4 from by decide) (x' := (⟨a1_0, a1_1, a1_2, a1_3⟩ : S34)) (k34_mkM _ _ _ (⟨a1_0, a1_1, a1_2, a1_3⟩ : S34) ) (fun _ hk => hk); have hx80_0 := hcc80 0 _ rfl; (try simp only [show (k34).sz = 4 from rfl, Nat.mul_one, Nat.add_zero] at hx80_0); have hf80_0 := hfr80 0; (try simp only [show (k34).sz = 4 from rfl, Nat.mul_one, Nat.add_zero] at hf80_0); have hx80_1 := hcc80 1 _ rfl; (try simp only [show (k34).sz = 4 from rfl, Nat.mul_one, Nat.add_zero] at hx80_1); have hf80_1 := hfr80 1; (try simp only [show (k34).sz = 4 from rfl, Nat.mul_one, Nat.add_zero] at hf80_1); have hx80_2 := hcc80 2 _ rfl; (try simp only [show (k34).sz = 4 from rfl, Nat.mul_one, Nat.add_zero] at hx80_2); have hf80_2 := hfr80 2; (try simp only [show (k34).sz = 4 from rfl, Nat.mul_one, Nat.add_zero] at hf80_2); have hx80_3 := hcc80 3 _ rfl; (try simp only [show (k34).sz = 4 from rfl, Nat.mul_one, Nat.add_zero] at hx80_3); have hf80_3 := hfr80 3; (try simp only [show (k34).sz = 4 from rfl, Nat.mul_one, Nat.add_zero] at hf80_3); (try clear hcl80); (try clear hcc80); (try clear hfr80); (try clear hM80)) | ((with_reducible refine gate_store (t := 34) (p := 38) rfl ?_); refine store_event (t := 34) (p := 38) (v := ?vo_w81) (w1 := ((((w76.setCell ⟨go32, (t184 : Int).toNat * 4, none⟩ (.int .i64 a1_0)).setCell ⟨go32, (t184 : Int).toNat * 4 + 1, none⟩ (.int .i64 a1_1)).setCell ⟨go32, (t184 : Int).toNat * 4 + 2, none⟩ (.int .i64 a1_2)).setCell ⟨go32, (t184 : Int).toNat * 4 + 3, none⟩ (.int .i64 a1_3))) ?hg ?ho ?hn ?hr ?_; (case ho => rfl); (case hg => rfl); (case hn => rfl); (case hr => exact sE); intro w81 hw; have hg : w76.grownBy w81 (some go32) := (by rw [hw]; exact HP80.2); have hp_ : Kd.R k34 34 w81 w.heap.size (fun k_ => k_ ≠ gb176) (.slice (some ⟨go32, 0, none⟩) t180.length co66) y186 := (by rw [hw, Ny186.out]; exact HP80.1); clear HP80; replace BK175 := Aside0.mk (blk_grown (g := gb175) (o := .cells #[.int .i64 a0_0, .slice A0_1 l0_1.length c0_1] 30 (0, 0)) (bV BK175) hg (Kd.R_ne HO182.out BK175.out (by decide))); replace BK176 := Aside0.mk (blk_grown (g := gb176) (o := .cells #[.int .i64 a1_0, .int .i64 a1_1, .int .i64 a1_2, .int .i64 a1_3] 34 (0, 0)) (bV BK176) hg (Kd.R_away HO182.out (fun _ hk => hk))); replace BK177 := Aside0.mk (blk_grown (g := gb177) (o := .cells #[.int .i64 0, .slice none 0 0] 30 (0, 0)) (bV BK177) hg (Kd.R_ne HO182.out BK177.out (by decide))); replace BK183 := Aside0.mk (blk_grown (g := gb183) (o := .cells #[.int .i64 a0_0, .slice (some ⟨go32, 0, none⟩) t180.length co66] 30 (0, 0)) (bV BK183) hg (Kd.R_ne HO182.out BK183.out (by decide))); replace HO182 := Aside0.mk hp_; replace HB := Aside0.mk ((by rw [hw]; exact below_set (below_set (below_set (below_set (HB.out) GB32.out) GB32.out) GB32.out) GB32.out : Below w.heap.size w w81)); clear hg hw hp_; have hcz82_0 := cz BK183 0 (.int .i64 a0_0); have hcz82_1 := cz BK183 1 (.slice (some ⟨go32, 0, none⟩) t180.length co66); have hfz82_0 := fz BK183 0; have hfz82_1 := fz BK183 1) | ((with_reducible refine gate_callee (f := 25) rfl ?_); refine goesL_ (some 47) rfl rfl Try.func25 (by kernel_rfl) rfl #[.agg #[.int .i64 a0_0, .slice (some ⟨go32, 0, none⟩) y186.length co66]] rfl (by (try simp only [List.map_toArray, List.map_cons, List.map_nil]); first | done | (rw [show y186.length = t180.length from (Kd.R_reads' HO182.out).1.symm] <;> rfl) | rfl | (simp only [List.length_drop, List.length_take]; rfl)) ?_; (with_reducible refine (impl_GoodClock.calls kj2 a0_0 _ _ y186 false _ ?side1 ?side2 A33.out).mono ?_); (case side1 => exact cU (Kd.R_reads' HO182.out).2.2); (case side2 => rw [show y186.length = t180.length from (Kd.R_reads' HO182.out).1.symm]; exact (Kd.R_reads' HO182.out).2.1); rintro e w83 ⟨rfl, hb⟩; refine ⟨_, rfl, ?_⟩; replace HO182 := Aside0.mk (Kd.R_below (rU HO182.out) hb); replace BK175 := bB (bV BK175) hb; replace BK176 := bB (bV BK176) hb; replace BK177 := bB (bV BK177) hb; replace BK183 := bB (bV BK183) hb; replace HB := bH (lV4 GE175 GE176 GE177 GE183) hb; (try clear hb); have hcz84_0 := cz BK177 0 (.int .i64 0); have hcz84_1 := cz BK177 1 (.slice none 0 0); have hfz84_0 := fz BK177 0; have hfz84_1 := fz BK177 1) | ((with_reducible refine gate_store (t := 30) (p := 4) rfl ?_); refine store_event (t := 30) (p := 4) (v := ?vo_w85) (w1 := ((w83.setCell ⟨gb177, 0, none⟩ (.int .i64 0)).setCell ⟨gb177, 1, none⟩ (.slice none 0 0))) ?hg ?ho ?hn ?hr ?_; (case ho => rfl); (case hg => rfl); (case hn => rfl); (case hr => first | (go_simp; done) | (go_simp; rfl) | (have hq0_ := (blk_cell BK177.out 0).trans (show _ = some _ from rfl); have hf0_ := blk_frozen BK177.out 0; have hq1_ := (blk_cell BK177.out 1).trans (show _ = some _ from rfl); have hf1_ := blk_frozen BK177.out 1; first | (go_simp; done) | (go_simp; rfl))); intro w85 hw; replace HO182 : Aside0 (Kd.R k34 34 w85 w.heap.size (fun k_ => k_ ≠ gb176) (.slice (some ⟨go32, 0, none⟩) t180.length co66) y186) := ⟨(by rw [hw]; exact (by (with_reducible repeat (first | apply Kd.R_alloc | apply Kd.R_drewN | apply Kd.R_drew)); exact Kd.R_mono (Kd.R_far (p := ⟨gb177, 1, none⟩) (Kd.R_far (p := ⟨gb177, 0, none⟩) (Kd.R_types HO182.out BK177.out (by decide)) (fun _ hk => hk.2) (.int .i64 0)) (fun _ hk => hk.2) (.slice none 0 0)) (fun _ hk => hk.1)))⟩; replace BK175 : Aside0 (w85.heap[gb175]? = some (.cells #[.int .i64 a0_0, .slice A0_1 l0_1.length c0_1] 30 (0, 0))) := ⟨(by rw [hw]; exact (bG NB175_177 BK175))⟩; replace BK176 : Aside0 (w85.heap[gb176]? = some (.cells #[.int .i64 a1_0, .int .i64 a1_1, .int .i64 a1_2, .int .i64 a1_3] 34 (0, 0))) := ⟨(by rw [hw]; exact (bG NB176_177 BK176))⟩; replace BK177 : Aside0 (w85.heap[gb177]? = some (.cells #[.int .i64 0, .slice none 0 0] 30 (0, 0))) := ⟨(by rw [hw]; exact (by refine bU ?_; refine blk_put (cs := #[.int .i64 0, .slice none 0 0]) ?_ 1 _ rfl; refine bU ?_; refine blk_put (cs := #[.int .i64 0, .slice none 0 0]) ?_ 0 _ rfl; refine bU ?_; exact BK177.out))⟩; replace BK183 : Aside0 (w85.heap[gb183]? = some (.cells #[.int .i64 a0_0, .slice (some ⟨go32, 0, none⟩) t180.length co66] 30 (0, 0))) := ⟨(by rw [hw]; exact (bG NB183_177 BK183))⟩; replace HB : Aside0 (Below w.heap.size w w85) := ⟨(by rw [hw]; exact (lV4 GE175 GE176 GE177 GE183))⟩; clear hw))
        refine bodyPost_ret (results_ct rfl _ _ gb177 30 #[.int .i64 0, .slice none 0 0] (0, 0) _ rfl (bV BK177) Try.underlying30 rfl (by kernel_rfl)) rfl ?_
        exact ⟨_, eE, by first | exact Kd.R_nil _ _ _ _ _ | exact Kd.N_nil _ _ _ _ _ | exact Kd.V_nil _ _ _ _ _ | exact Kd.Q_nil _ _ _ _ _ | exact Kd.S_nil _ _ _ _ _, lV4 GE175 GE176 GE177 GE183⟩
      ·rw [if_neg c31] at H
       exact absurd H (by simp)
     ·rw [if_neg c30] at H
      exact absurd H (by simp)
    ·replace c29 := Bool.eq_false_iff.mpr c29
     subst c29
     have H1 : ((impl_Timer_29.f t180 t184 (([(⟨a1_0, a1_1, a1_2, a1_3⟩ : S34)] : List (S34)))).bind fun t191 => ((impl_GoodClock.f kj2 a0_0 t191).bind fun t194 => (if t194 = true then (some (a0_0, t191, true)) else (some (0, ([] : List (S34)), false))))) = some (r1, r2, r3) := by rw [if_neg (show ¬ (false = true) by decide)] at H; exact H
     clear H
     have H := H1
     clear H1
     obtain ⟨y188, hy188⟩ : ∃ y_ : List (S34), y_ = (([(⟨a1_0, a1_1, a1_2, a1_3⟩ : S34)] : List (S34))) := ⟨_, rfl⟩
     replace H : ((impl_Timer_29.f t180 t184 y188).bind fun t191 => ((impl_GoodClock.f kj2 a0_0 t191).bind fun t194 => (if t194 = true then (some (a0_0, t191, true)) else (some (0, ([] : List (S34)), false))))) = some (r1, r2, r3) := by first | (rw [hy188]; with_reducible exact H) | (have H2_ := (Option.bind_some _ _).symm.trans H; rw [hy188]; with_reducible exact H2_) | (have H2_ := (Option.bind_some _ _).symm.trans H; with_reducible exact H2_) | with_reducible exact H | (rw [hy188]; exact H) | exact H
     have Ny188 := Aside0.mk hy188
     clear hy188
     replace H := Option.bind_eq_some_iff.mp H
     obtain ⟨t191, A860, H⟩ := H
     replace H : ((impl_GoodClock.f kj2 a0_0 t191).bind fun t194 => (if t194 = true then (some (a0_0, t191, true)) else (some (0, ([] : List (S34)), false)))) = some (r1, r2, r3) := H
     have A86 := Aside0.mk A860
     clear A860
     replace H := Option.bind_eq_some_iff.mp H
     obtain ⟨t194, A870, H⟩ := H
     replace H : (if t194 = true then (some (a0_0, t191, true)) else (some (0, ([] : List (S34)), false))) = some (r1, r2, r3) := H
     have A87 := Aside0.mk A870
     clear A870
     by_cases c88 : t194 = true
     ·subst c88
      have H1 : (some (a0_0, t191, true)) = some (r1, r2, r3) := by rw [if_pos rfl] at H; exact H
      clear H
      have H := H1
      clear H1
      simp only [Option.some.injEq, Prod.mk.injEq] at H
      obtain ⟨rfl, rfl, rfl⟩ := H
      try go_wp2
      replace BK175 := Aside0.mk (blk_drew BK175.out)
      replace BK176 := Aside0.mk (blk_drew BK176.out)
      replace BK177 := Aside0.mk (blk_drew BK177.out)
      replace HB := Aside0.mk (below_drew1 HB.out)
      refine start_ (n := 8) (S := fun w' => w'.cell? ⟨gb175, 0, none⟩ = some (.int .i64 a0_0) ∧ w'.cell? ⟨gb175, 1, none⟩ = some (.slice A0_1 l0_1.length c0_1)) (ds := []) #[false, false, false, false, false, false, false, false] (by kernel_rfl) rfl rfl ⟨cz BK175 0 _, cz BK175 1 _⟩ (fun hHeld => ?_); refine with_tabW impl_AddTimer.tab3 impl_AddTimer.bits3 (fun HT_ HW_ => ?_)
      generalize wc.drew = w89 at BK175 BK176 BK177 HB hHeld ⊢
      refine pureA 0 20 (bz 8 1) rfl rfl (any_of HT_.out (by kernel_rfl)) ?_
      refine pureA 2 22 (bz 8 5) rfl rfl (any_of HT_.out (by kernel_rfl)) ?_
      refine takeA 1 21 (bz 8 7) rfl rfl (take_ofW HT_.out HW_.out (by kernel_rfl)) hHeld (by rintro w' ⟨s0, s1⟩; go_simp; with_reducible rfl) ?_
      refine takeA 3 23 (bz 8 15) rfl rfl (take_ofW HT_.out HW_.out (by kernel_rfl)) hHeld (by rintro w' ⟨s0, s1⟩; go_simp; with_reducible rfl) ?_
      refine join_ (σ := Value × Nat) 1 #[true, true, true, true, true, true, true, false] (fun s_ => [(24, s_.1), (6, .pointer (some ⟨s_.2, 0, none⟩)), (25, .agg #[.int .i64 a0_0, s_.1])]) (fun s_ w' => (w'.cell? ⟨gb175, 0, none⟩ = some (.int .i64 a0_0) ∧ w'.cell? ⟨gb175, 1, none⟩ = some (.slice A0_1 l0_1.length c0_1)) ∧ (Kd.R k34 34 w' w.heap.size (fun k_ => k_ ≠ gb176) s_.1 t180) ∧ (w'.heap[gb175]? = some (.cells #[.int .i64 a0_0, .slice A0_1 l0_1.length c0_1] 30 (0, 0))) ∧ (w'.heap[gb176]? = some (.cells #[.int .i64 a1_0, .int .i64 a1_1, .int .i64 a1_2, .int .i64 a1_3] 34 (0, 0))) ∧ (w'.heap[gb177]? = some (.cells #[.int .i64 0, .slice none 0 0] 30 (0, 0))) ∧ (w'.heap[s_.2]? = some (.cells #[.int .i64 0, .slice none 0 0] 30 (0, 0))) ∧ (w.heap.size ≤ s_.2) ∧ (w.heap.size ≤ s_.2) ∧ (gb175 ≠ s_.2) ∧ (s_.2 ≠ gb175) ∧ (gb176 ≠ s_.2) ∧ (s_.2 ≠ gb176) ∧ (gb177 ≠ s_.2) ∧ (s_.2 ≠ gb177) ∧ (Below w.heap.size w w')) ?_ ?_
      rotate_left
      ·intro hCont
       refine two_ (i := 4) (j := 6) (Ni := some 24) (Nj := some 6) #[true, true, true, true, true, false, false, false] #[true, true, true, true, false, false, true, false] rfl rfl rfl rfl (two_of HT_.out (by kernel_rfl)) (by decide) (by decide) (fun K hK => ?_) (fun K hK => ?_)
       ·skip
        refine goes_ Try.func27 (by kernel_rfl) rfl #[.slice A0_1 l0_1.length c0_1] (by rfl) rfl rfl aE ?_
        with_reducible refine (impl_Timer_27.calls _ _ l0_1 t180 _ ?side1 ?side2 A27.out).mono ?_
        (case side1 => exact cU (Kd.C_below HR0_1.out HB.out))
        (case side2 => exact HC0_1.out)
        rintro e w90 ⟨v181, rfl, ho0, hb⟩
        refine ⟨_, rfl, ?_⟩
        have HO182 := Aside0.mk (Kd.R_lower (Kd.R_newB ho0 (g := gb176) (o := .cells #[.int .i64 a1_0, .int .i64 a1_1, .int .i64 a1_2, .int .i64 a1_3] 34 (0, 0)) (bV BK176)) (below_size (lV3 GE175 GE176 GE177)))
        replace BK175 := bB (bV BK175) hb
        replace BK176 := bB (bV BK176) hb
        replace BK177 := bB (bV BK177) hb
        replace HB := bH (lV3 GE175 GE176 GE177) hb
        (try clear hb)
        (try clear hb2)
        (try clear hk)
        (try clear hi)
        (try clear ho0)
        obtain ⟨Ao91, co91, eo91⟩ := Kd.R_slice HO182.out
        (first | subst eo91 | (injection eo91 with f1_ f2_ f3_; have f4_ := f1_.symm; have f5_ := f3_.symm; clear f1_ f2_ f3_; subst f4_; subst f5_))
        refine hK.out _ _ ⟨cz BK175 0 _, cz BK175 1 _⟩ (fun hHeld => ?_)
        clear hK K
        refine norm_ (a' := ?_) ?_ ?_
        rotate_left
        ·show Act.put _ (some 24) _ = _
         simp only [Act.put, List.setIfInBounds_toArray, List.set_cons_zero, List.set_cons_succ, i64_w, i32_w]
         rfl
        refine pureA 5 25 (bz 8 63) rfl rfl (any_of HT_.out (by kernel_rfl)) ?_
        refine one_ (i := 6) (N := some 6) (bz 8 127) rfl rfl (one_of HT_.out (by kernel_rfl)) (by decide) (fun K hK => ?_)
        refine box_step ?hg (N := 6) ?hd (cs := #[.int .i64 0, .slice none 0 0]) (t := 30) ?hr ?_; (case hd => rfl); (case hg => rfl); (case hr => exact sE)
        intro gb183 hg w92 hbox hb
        replace HO182 := Aside0.mk (Kd.R_below (rU HO182.out) hb)
        have BK183 := Aside0.mk hbox
        have GW183 := gS w hg (lV3 GE175 GE176 GE177)
        have GE183 := gS w hg (lV3 GE175 GE176 GE177)
        replace HB := bH (lV3 GE175 GE176 GE177) hb
        have NB175_183 := nL hg (bV BK175)
        have NB183_175 := nG hg (bV BK175)
        replace BK175 := bB (bV BK175) hb
        have NB176_183 := nL hg (bV BK176)
        have NB183_176 := nG hg (bV BK176)
        replace BK176 := bB (bV BK176) hb
        have NB177_183 := nL hg (bV BK177)
        have NB183_177 := nG hg (bV BK177)
        replace BK177 := bB (bV BK177) hb
        clear hb hbox hg
        refine hK.out _ _ ⟨cz BK175 0 _, cz BK175 1 _⟩ (fun hHeld => ?_)
        clear hK K
        refine norm_ (a' := ?_) ?_ ?_
        rotate_left
        ·show Act.put _ (some 6) _ = _
         simp only [Act.put, List.setIfInBounds_toArray, List.set_cons_zero, List.set_cons_succ, i64_w, i32_w]
         rfl
        exact norm_ (by simp only [putAll, Act.put, List.setIfInBounds_toArray, List.set_cons_zero, List.set_cons_succ]) (hCont (.slice Ao91 t180.length co91, gb183) _ ⟨hHeld, (by (with_reducible repeat (first | apply Kd.R_alloc | apply Kd.R_drewN | apply Kd.R_drew)); exact Kd.R_mono HO182.out (fun _ hk => hk.2)), (bV BK175), (bV BK176), (bV BK177), (bV BK183), GW183.out, GE183.out, NB175_183.out, NB183_175.out, NB176_183.out, NB183_176.out, NB177_183.out, NB183_177.out, (lV4 GE175 GE176 GE177 GE183)⟩)
       ·skip
        refine box_step ?hg (N := 6) ?hd (cs := #[.int .i64 0, .slice none 0 0]) (t := 30) ?hr ?_; (case hd => rfl); (case hg => rfl); (case hr => exact sE)
        intro gb183 hg w90 hbox hb
        have BK183 := Aside0.mk hbox
        have GW183 := gS w hg (lV3 GE175 GE176 GE177)
        have GE183 := gS w hg (lV3 GE175 GE176 GE177)
        replace HB := bH (lV3 GE175 GE176 GE177) hb
        have NB175_183 := nL hg (bV BK175)
        have NB183_175 := nG hg (bV BK175)
        replace BK175 := bB (bV BK175) hb
        have NB176_183 := nL hg (bV BK176)
        have NB183_176 := nG hg (bV BK176)
        replace BK176 := bB (bV BK176) hb
        have NB177_183 := nL hg (bV BK177)
        have NB183_177 := nG hg (bV BK177)
        replace BK177 := bB (bV BK177) hb
        clear hb hbox hg
        refine hK.out _ _ ⟨cz BK175 0 _, cz BK175 1 _⟩ (fun hHeld => ?_)
        clear hK K
        refine norm_ (a' := ?_) ?_ ?_
        rotate_left
        ·show Act.put _ (some 6) _ = _
         simp only [Act.put, List.setIfInBounds_toArray, List.set_cons_zero, List.set_cons_succ, i64_w, i32_w]
         rfl
        refine one_ (i := 4) (N := some 24) (bz 8 95) rfl rfl (one_of HT_.out (by kernel_rfl)) (by decide) (fun K hK => ?_)
        refine goes_ Try.func27 (by kernel_rfl) rfl #[.slice A0_1 l0_1.length c0_1] (by rfl) rfl rfl aE ?_
        with_reducible refine (impl_Timer_27.calls _ _ l0_1 t180 _ ?side1 ?side2 A27.out).mono ?_
        (case side1 => exact cU (Kd.C_below HR0_1.out HB.out))
        (case side2 => exact HC0_1.out)
        rintro e w91 ⟨v181, rfl, ho0, hb⟩
        refine ⟨_, rfl, ?_⟩
        have HO182 := Aside0.mk (Kd.R_lower (Kd.R_newB ho0 (g := gb176) (o := .cells #[.int .i64 a1_0, .int .i64 a1_1, .int .i64 a1_2, .int .i64 a1_3] 34 (0, 0)) (bV BK176)) (below_size (lV4 GE175 GE176 GE177 GE183)))
        replace BK175 := bB (bV BK175) hb
        replace BK176 := bB (bV BK176) hb
        replace BK177 := bB (bV BK177) hb
        replace BK183 := bB (bV BK183) hb
        replace HB := bH (lV4 GE175 GE176 GE177 GE183) hb
        (try clear hb)
        (try clear hb2)
        (try clear hk)
        (try clear hi)
        (try clear ho0)
        obtain ⟨Ao92, co92, eo92⟩ := Kd.R_slice HO182.out
        (first | subst eo92 | (injection eo92 with f1_ f2_ f3_; have f4_ := f1_.symm; have f5_ := f3_.symm; clear f1_ f2_ f3_; subst f4_; subst f5_))
        refine hK.out _ _ ⟨cz BK175 0 _, cz BK175 1 _⟩ (fun hHeld => ?_)
        clear hK K
        refine norm_ (a' := ?_) ?_ ?_
        rotate_left
        ·show Act.put _ (some 24) _ = _
         simp only [Act.put, List.setIfInBounds_toArray, List.set_cons_zero, List.set_cons_succ, i64_w, i32_w]
         rfl
        refine pureA 5 25 (bz 8 127) rfl rfl (any_of HT_.out (by kernel_rfl)) ?_
        exact norm_ (by simp only [putAll, Act.put, List.setIfInBounds_toArray, List.set_cons_zero, List.set_cons_succ]) (hCont (.slice Ao92 t180.length co92, gb183) _ ⟨hHeld, (by (with_reducible repeat (first | apply Kd.R_alloc | apply Kd.R_drewN | apply Kd.R_drew)); exact Kd.R_mono HO182.out (fun _ hk => hk.2)), (bV BK175), (bV BK176), (bV BK177), (bV BK183), GW183.out, GE183.out, NB175_183.out, NB183_175.out, NB176_183.out, NB183_176.out, NB177_183.out, NB183_177.out, (lV4 GE175 GE176 GE177 GE183)⟩)
      rintro ⟨v181, gb183⟩ w93 ⟨hS_, h0_, h1_, h2_, h3_, h4_, h5_, h6_, h7_, h8_, h9_, h10_, h11_, h12_, h13_⟩
      have HO182 : Aside0 (Kd.R k34 34 w93 w.heap.size (fun k_ => k_ ≠ gb176) v181 t180) := ⟨h0_⟩
      replace BK175 : Aside0 (w93.heap[gb175]? = some (.cells #[.int .i64 a0_0, .slice A0_1 l0_1.length c0_1] 30 (0, 0))) := ⟨h1_⟩
      replace BK176 : Aside0 (w93.heap[gb176]? = some (.cells #[.int .i64 a1_0, .int .i64 a1_1, .int .i64 a1_2, .int .i64 a1_3] 34 (0, 0))) := ⟨h2_⟩
      replace BK177 : Aside0 (w93.heap[gb177]? = some (.cells #[.int .i64 0, .slice none 0 0] 30 (0, 0))) := ⟨h3_⟩
      have BK183 : Aside0 (w93.heap[gb183]? = some (.cells #[.int .i64 0, .slice none 0 0] 30 (0, 0))) := ⟨h4_⟩
      have GW183 : Aside0 (w.heap.size ≤ gb183) := ⟨h5_⟩
      have GE183 : Aside0 (w.heap.size ≤ gb183) := ⟨h6_⟩
      have NB175_183 : Aside0 (gb175 ≠ gb183) := ⟨h7_⟩
      have NB183_175 : Aside0 (gb183 ≠ gb175) := ⟨h8_⟩
      have NB176_183 : Aside0 (gb176 ≠ gb183) := ⟨h9_⟩
      have NB183_176 : Aside0 (gb183 ≠ gb176) := ⟨h10_⟩
      have NB177_183 : Aside0 (gb177 ≠ gb183) := ⟨h11_⟩
      have NB183_177 : Aside0 (gb183 ≠ gb177) := ⟨h12_⟩
      replace HB : Aside0 (Below w.heap.size w w93) := ⟨h13_⟩
      clear h0_ h1_ h2_ h3_ h4_ h5_ h6_ h7_ h8_ h9_ h10_ h11_ h12_ h13_
      have hHeld : w93.cell? ⟨gb175, 0, none⟩ = some (.int .i64 a0_0) ∧ w93.cell? ⟨gb175, 1, none⟩ = some (.slice A0_1 l0_1.length c0_1) := hS_
      obtain ⟨Ao94, co94, eo94⟩ := Kd.R_slice HO182.out
      (first | subst eo94 | (injection eo94 with f1_ f2_ f3_; have f4_ := f1_.symm; have f5_ := f3_.symm; clear f1_ f2_ f3_; subst f4_; subst f5_))
      refine norm_ (a' := ?_) ?_ ?_
      rotate_left
      ·simp only [putAll, Act.put, List.setIfInBounds_toArray, List.set_cons_zero, List.set_cons_succ]
       rfl
      refine one_ (i := 7) (N := none) (bz 8 255) rfl rfl (one_of HT_.out (by kernel_rfl)) (by decide) (fun K hK => ?_)
      have hs95 : w93.cell? ⟨gb183, 0, none⟩ = some (.int .i64 0) := (blk_cell BK183.out 0).trans rfl
      have hfs95 := blk_frozen BK183.out 0
      have hns95_0 := NB175_183.out
      have hns95_1 := NB176_183.out
      have hns95_2 := NB177_183.out
      have hms95_0 := NB183_175.out
      have hms95_1 := NB183_176.out
      have hms95_2 := NB183_177.out
      have hs96 : w93.cell? ⟨gb183, 1, none⟩ = some (.slice none 0 0) := (blk_cell BK183.out 1).trans rfl
      have hfs96 := blk_frozen BK183.out 1
      have hns96_0 := NB175_183.out
      have hns96_1 := NB176_183.out
      have hns96_2 := NB177_183.out
      have hms96_0 := NB183_175.out
      have hms96_1 := NB183_176.out
      have hms96_2 := NB183_177.out
      refine skip_ (w1 := ?_) (by rfl) rfl ?_ ?_
      rotate_left
      ·go_simp
       rfl
      refine hK.out _ _ ⟨((cell_far (p := ⟨gb183, _, none⟩) NB175_183.out _).trans (((cell_far (p := ⟨gb183, _, none⟩) NB175_183.out _).trans (hHeld.1)))), ((cell_far (p := ⟨gb183, _, none⟩) NB175_183.out _).trans (((cell_far (p := ⟨gb183, _, none⟩) NB175_183.out _).trans (hHeld.2))))⟩ (fun hHeld => ?_)
      clear hK K
      refine done_ (done_of HT_.out (by kernel_rfl)) ?_
      have hnb97 := NB175_176.out
      have hnc97 := NB176_175.out
      have hnb98 := NB175_177.out
      have hnc98 := NB177_175.out
      have hnb99 := NB175_183.out
      have hnc99 := NB183_175.out
      have hcz100_0 := cz BK175 0 (.int .i64 a0_0)
      have hcz100_1 := cz BK175 1 (.slice A0_1 l0_1.length c0_1)
      have hfz100_0 := fz BK175 0
      have hfz100_1 := fz BK175 1
      have hnb101 := NB176_177.out
      have hnc101 := NB177_176.out
      have hnb102 := NB176_183.out
      have hnc102 := NB183_176.out
      have hcz103_0 := cz BK176 0 (.int .i64 a1_0)
      have hcz103_1 := cz BK176 1 (.int .i64 a1_1)
      have hcz103_2 := cz BK176 2 (.int .i64 a1_2)
      have hcz103_3 := cz BK176 3 (.int .i64 a1_3)
      have hfz103_0 := fz BK176 0
      have hfz103_1 := fz BK176 1
      have hfz103_2 := fz BK176 2
      have hfz103_3 := fz BK176 3
      try go_wp2_with (first | ((with_reducible refine gate_callee (f := 28) rfl ?_); refine goesL_ (some 30) rfl rfl Try.func28 (by kernel_rfl) rfl #[.agg #[.int .i64 a0_0, .slice A0_1 l0_1.length c0_1], .int .i64 a1_0] rfl aE ?_; (with_reducible refine (impl_Clock_place.calls kj2 a0_0 _ _ l0_1 a1_0 t184 false _ ?side1 ?side2 A28.out).mono ?_); (case side1 => exact Kd.C_below HR0_1.out (lV4 GE175 GE176 GE177 GE183)); (case side2 => exact HC0_1.out); rintro e w104 ⟨rfl, hb⟩; refine ⟨_, rfl, ?_⟩; replace HO182 := Aside0.mk (Kd.R_below (rU (Kd.R_mono (Kd.R_far (p := ⟨gb183, 1, none⟩) (Kd.R_far (p := ⟨gb183, 0, none⟩) (Kd.R_types HO182.out BK183.out (by decide)) (fun _ hk => hk.2) (.int .i64 a0_0)) (fun _ hk => hk.2) (.slice Ao94 t180.length co94)) (fun _ h_ => h_.1))) hb); replace BK175 := bB (bG NB175_183 BK175) hb; replace BK176 := bB (bG NB176_183 BK176) hb; replace BK177 := bB (bG NB177_183 BK177) hb; replace BK183 := Aside0.mk (blk_below (g := gb183) (o := .cells #[.int .i64 a0_0, .slice Ao94 t180.length co94] 30 (0, 0)) (by refine bU ?_; refine blk_put (cs := #[.int .i64 a0_0, .slice none 0 0]) ?_ 1 _ rfl; refine bU ?_; refine blk_put (cs := #[.int .i64 0, .slice none 0 0]) ?_ 0 _ rfl; refine bU ?_; exact BK183.out) hb); replace HB := bH (lV4 GE175 GE176 GE177 GE183) hb; (try clear hb); have hnb105 := NB183_177.out; have hnc105 := NB177_183.out; have hcz106_0 := cz BK183 0 (.int .i64 a0_0); have hcz106_1 := cz BK183 1 (.slice Ao94 t180.length co94); have hfz106_0 := fz BK183 0; have hfz106_1 := fz BK183 1; have hcz107_0 := cz BK176 0 (.int .i64 a1_0); have hcz107_1 := cz BK176 1 (.int .i64 a1_1); have hcz107_2 := cz BK176 2 (.int .i64 a1_2); have hcz107_3 := cz BK176 3 (.int .i64 a1_3); have hfz107_0 := fz BK176 0; have hfz107_1 := fz BK176 1; have hfz107_2 := fz BK176 2; have hfz107_3 := fz BK176 3) | ((with_reducible refine gate_dst (N := 43) rfl ?_); refine Kd.R_lit k34 _ 34 ?hg (N := 43) ?hd (xs := ([(⟨a1_0, a1_1, a1_2, a1_3⟩ : S34)] : List (S34))) (inner := [.int .i64 a1_0, .int .i64 a1_1, .int .i64 a1_2, .int .i64 a1_3]) (ok := fun _ => True) (okp := fun _ => True) ?hr ?hp (fun _ hk => hk) trivial (Below.refl _ _) (Nat.le_refl _) (by simp) ?_; (case hd => rfl); (case hg => rfl); (case hr => exact sE); (case hp => exact (Reps.c4 (show Kd.M k34 _ _ _ (⟨a1_0, a1_1, a1_2, a1_3⟩ : S34) [.int .i64 a1_0, .int .i64 a1_1, .int .i64 a1_2, .int .i64 a1_3] from (k34_mkM _ _ _ (⟨a1_0, a1_1, a1_2, a1_3⟩ : S34) )) (Reps.none _ _))); intro v189 w108 ho109 hb hg_ hnew_; clear hg_ hnew_; (first | rw [← Ny188.out] at ho109 | (simp only [Int.reduceToNat] at ho109; rw [← Ny188.out] at ho109)); have HO190 := Aside0.mk (Kd.R_lower (Kd.R_newB (Kd.R_new' ho109 (Kd.R_lt (rU HO182.out))) (g := gb176) (o := .cells #[.int .i64 a1_0, .int .i64 a1_1, .int .i64 a1_2, .int .i64 a1_3] 34 (0, 0)) (bV BK176)) (below_size (lV4 GE175 GE176 GE177 GE183))); replace HO182 := Aside0.mk (Kd.R_elder' (rU HO182.out) (Kd.R_base ho109) hb); replace BK175 := bB (bV BK175) hb; replace BK176 := bB (bV BK176) hb; replace BK177 := bB (bV BK177) hb; replace BK183 := bB (bV BK183) hb; replace HB := bH (lV4 GE175 GE176 GE177 GE183) hb; clear hb ho109; obtain ⟨Ao110, co110, eo110⟩ := Kd.R_slice HO190.out; subst eo110) | ((with_reducible refine gate_callee (f := 29) rfl ?_); refine goesL_ (some 44) rfl rfl Try.func29 (by kernel_rfl) rfl #[.slice Ao94 t180.length co94, .int .i64 t184, .slice Ao110 y188.length co110] rfl aE ?_; (with_reducible refine (impl_Timer_29.calls (fun k_ => some k_ = (.slice Ao94 t180.length co94 : Value).ownBlock) (.slice Ao94 t180.length co94) t180 t184 _ _ y188 t191 w _ ?side1 ?side2 ?side3 ?side4 A86.out).mono ?_); (case side1 => repeat (first | (with_reducible first | exact HB.out | apply below_alloc | apply pw_below_drewN | apply below_drew1 | refine below_set ?_ GE175.out | refine below_set ?_ GE176.out | refine below_set ?_ GE177.out | refine below_set ?_ GE183.out) | exact HB.out)); (case side2 => exact Kd.R_tight rfl HO182.out); (case side3 => exact Kd.C_kept_own (HO190.out) (fun k_ hk_ hs_ => (hk_.1.2) hs_)); (case side4 => exact (Kd.R_reads' HO190.out).2.1); rintro e w111 ⟨v192, rfl, ho0, hb, hkp⟩; refine ⟨_, rfl, ?_⟩; replace BK175 := Aside0.mk (blk_kept (bV BK175) hkp (fun hs_ => (fun e_ => (Kd.R_ne HO182.out BK175.out (by decide)) e_) hs_)); replace BK177 := Aside0.mk (blk_kept (bV BK177) hkp (fun hs_ => (fun e_ => (Kd.R_ne HO182.out BK177.out (by decide)) e_) hs_)); replace BK183 := Aside0.mk (blk_kept (bV BK183) hkp (fun hs_ => (fun e_ => (Kd.R_ne HO182.out BK183.out (by decide)) e_) hs_)); have HO193 := Aside0.mk (Kd.R_mono (ok' := fun k_ => some k_ ≠ (.slice Ao110 y188.length co110 : Value).ownBlock ∧ k_ ≠ gb176) ho0 (fun k_ hk_ => ⟨Or.elim hk_ (fun hs_ => fun e_ => (((HO190.out).1 k_ e_.symm).1.2) hs_) (fun hn_ => (Kd.fresh' (Kd.R_lt (rU HO190.out)) k_ hn_)), Or.elim hk_ (fun hs_ => fun e_ => (Kd.R_away HO182.out (fun _ hk => hk.1)) (by rw [← e_]; exact hs_)) (fun hn_ => (Kd.freshB (g := gb176) (o := .cells #[.int .i64 a1_0, .int .i64 a1_1, .int .i64 a1_2, .int .i64 a1_3] 34 (0, 0)) (bV BK176) k_ hn_))⟩)); replace BK176 := Aside0.mk (blk_kept (bV BK176) hkp (fun hs_ => (fun e_ => (Kd.R_away HO182.out (fun _ hk => hk.1)) e_) hs_)); replace HO190 := Aside0.mk (Kd.R_mono (ok' := fun k_ => k_ ≠ gb176 ∧ some k_ ≠ (v192 : Value).ownBlock) (Kd.R_keptB (HO190.out) hkp (fun k_ hk_ hs_ => (hk_.1.2) hs_)) (fun k_ hk_ => ⟨hk_.1.2, fun e_ => Or.elim (ho0.1 k_ e_.symm) (fun hs_ => hk_.2.1 hs_) (fun hn_ => Nat.not_le.2 hk_.2.2 hn_)⟩)); replace HB := Aside0.mk hb; clear HO182; (try clear hb); (try clear hkp); (try clear hg_); (try clear hp_); (try clear ho0); obtain ⟨Ao112, co112, eo112⟩ := Kd.R_slice HO193.out; subst eo112; have hcz113_0 := cz BK183 0 (.int .i64 a0_0); have hcz113_1 := cz BK183 1 (.slice Ao94 t180.length co94); have hfz113_0 := fz BK183 0; have hfz113_1 := fz BK183 1) | ((with_reducible refine gate_store (t := 28) (p := 45) rfl ?_); refine store_event (t := 28) (p := 45) (v := ?vo_w114) (w1 := (w111.setCell ⟨gb183, 1, none⟩ (.slice Ao112 t191.length co112))) ?hg ?ho ?hn ?hr ?_; (case ho => rfl); (case hg => rfl); (case hn => rfl); (case hr => first | (go_simp; done) | (go_simp; rfl) | (have hq0_ := (blk_cell BK183.out 1).trans (show _ = some _ from rfl); have hf0_ := blk_frozen BK183.out 1; first | (go_simp; done) | (go_simp; rfl))); intro w114 hw; replace HO190 : Aside0 (Kd.R k34 34 w114 w.heap.size (fun k_ => some k_ ≠ (.slice Ao112 t191.length co112 : Value).ownBlock ∧ k_ ≠ gb176) (.slice Ao110 y188.length co110) y188) := ⟨(by rw [hw]; exact (by (with_reducible repeat (first | apply Kd.R_alloc | apply Kd.R_drewN | apply Kd.R_drew)); exact Kd.R_mono (Kd.R_far (p := ⟨gb183, 1, none⟩) (Kd.R_types HO190.out BK183.out (by decide)) (fun _ hk => hk.2) (.slice Ao112 t191.length co112)) (fun _ hk => ⟨hk.1.2, hk.1.1⟩)))⟩; replace HO193 : Aside0 (Kd.R k34 34 w114 w.heap.size (fun k_ => some k_ ≠ (.slice Ao110 y188.length co110 : Value).ownBlock ∧ k_ ≠ gb176) (.slice Ao112 t191.length co112) t191) := ⟨(by rw [hw]; exact (by (with_reducible repeat (first | apply Kd.R_alloc | apply Kd.R_drewN | apply Kd.R_drew)); exact Kd.R_mono (Kd.R_far (p := ⟨gb183, 1, none⟩) (Kd.R_types HO193.out BK183.out (by decide)) (fun _ hk => hk.2) (.slice Ao112 t191.length co112)) (fun _ hk => ⟨hk.1.1, hk.1.2⟩)))⟩; replace BK175 : Aside0 (w114.heap[gb175]? = some (.cells #[.int .i64 a0_0, .slice A0_1 l0_1.length c0_1] 30 (0, 0))) := ⟨(by rw [hw]; exact (bG NB175_183 BK175))⟩; replace BK176 : Aside0 (w114.heap[gb176]? = some (.cells #[.int .i64 a1_0, .int .i64 a1_1, .int .i64 a1_2, .int .i64 a1_3] 34 (0, 0))) := ⟨(by rw [hw]; exact (bG NB176_183 BK176))⟩; replace BK177 : Aside0 (w114.heap[gb177]? = some (.cells #[.int .i64 0, .slice none 0 0] 30 (0, 0))) := ⟨(by rw [hw]; exact (bG NB177_183 BK177))⟩; replace BK183 : Aside0 (w114.heap[gb183]? = some (.cells #[.int .i64 a0_0, .slice Ao112 t191.length co112] 30 (0, 0))) := ⟨(by rw [hw]; exact (by refine bU ?_; refine blk_put (cs := #[.int .i64 a0_0, .slice Ao94 t180.length co94]) ?_ 1 _ rfl; refine bU ?_; exact BK183.out))⟩; replace HB : Aside0 (Below w.heap.size w w114) := ⟨(by rw [hw]; exact (lV4 GE175 GE176 GE177 GE183))⟩; clear hw; have hcz115_0 := cz BK183 0 (.int .i64 a0_0); have hcz115_1 := cz BK183 1 (.slice Ao112 t191.length co112); have hfz115_0 := fz BK183 0; have hfz115_1 := fz BK183 1) | ((with_reducible refine gate_callee (f := 25) rfl ?_); refine goesL_ (some 47) rfl rfl Try.func25 (by kernel_rfl) rfl #[.agg #[.int .i64 a0_0, .slice Ao112 t191.length co112]] rfl aE ?_; (with_reducible refine (impl_GoodClock.calls kj2 a0_0 _ _ t191 true _ ?side1 ?side2 A87.out).mono ?_); (case side1 => exact cU (Kd.R_reads' HO193.out).2.2); (case side2 => exact (Kd.R_reads' HO193.out).2.1); rintro e w116 ⟨rfl, hb⟩; refine ⟨_, rfl, ?_⟩; replace HO190 := Aside0.mk (Kd.R_below (rU HO190.out) hb); replace HO193 := Aside0.mk (Kd.R_below (rU HO193.out) hb); replace BK175 := bB (bV BK175) hb; replace BK176 := bB (bV BK176) hb; replace BK177 := bB (bV BK177) hb; replace BK183 := bB (bV BK183) hb; replace HB := bH (lV4 GE175 GE176 GE177 GE183) hb; (try clear hb); have hcz117_0 := cz BK183 0 (.int .i64 a0_0); have hcz117_1 := cz BK183 1 (.slice Ao112 t191.length co112); have hfz117_0 := fz BK183 0; have hfz117_1 := fz BK183 1; have hcz118_0 := cz BK177 0 (.int .i64 0); have hcz118_1 := cz BK177 1 (.slice none 0 0); have hfz118_0 := fz BK177 0; have hfz118_1 := fz BK177 1) | ((with_reducible refine gate_store (t := 30) (p := 4) rfl ?_); refine store_event (t := 30) (p := 4) (v := ?vo_w119) (w1 := ((w116.setCell ⟨gb177, 0, none⟩ (.int .i64 a0_0)).setCell ⟨gb177, 1, none⟩ (.slice Ao112 t191.length co112))) ?hg ?ho ?hn ?hr ?_; (case ho => rfl); (case hg => rfl); (case hn => rfl); (case hr => first | (go_simp; done) | (go_simp; rfl) | (have hq0_ := (blk_cell BK177.out 0).trans (show _ = some _ from rfl); have hf0_ := blk_frozen BK177.out 0; have hq1_ := (blk_cell BK177.out 1).trans (show _ = some _ from rfl); have hf1_ := blk_frozen BK177.out 1; first | (go_simp; done) | (go_simp; rfl))); intro w119 hw; replace HO190 : Aside0 (Kd.R k34 34 w119 w.heap.size (fun k_ => some k_ ≠ (.slice Ao112 t191.length co112 : Value).ownBlock ∧ k_ ≠ gb176) (.slice Ao110 y188.length co110) y188) := ⟨(by rw [hw]; exact (by (with_reducible repeat (first | apply Kd.R_alloc | apply Kd.R_drewN | apply Kd.R_drew)); exact Kd.R_mono (Kd.R_far (p := ⟨gb177, 1, none⟩) (Kd.R_far (p := ⟨gb177, 0, none⟩) (Kd.R_types HO190.out BK177.out (by decide)) (fun _ hk => hk.2) (.int .i64 a0_0)) (fun _ hk => hk.2) (.slice Ao112 t191.length co112)) (fun _ hk => ⟨hk.1.1, hk.1.2⟩)))⟩; replace HO193 : Aside0 (Kd.R k34 34 w119 w.heap.size (fun k_ => some k_ ≠ (.slice Ao110 y188.length co110 : Value).ownBlock ∧ k_ ≠ gb176) (.slice Ao112 t191.length co112) t191) := ⟨(by rw [hw]; exact (by (with_reducible repeat (first | apply Kd.R_alloc | apply Kd.R_drewN | apply Kd.R_drew)); exact Kd.R_mono (Kd.R_far (p := ⟨gb177, 1, none⟩) (Kd.R_far (p := ⟨gb177, 0, none⟩) (Kd.R_types HO193.out BK177.out (by decide)) (fun _ hk => hk.2) (.int .i64 a0_0)) (fun _ hk => hk.2) (.slice Ao112 t191.length co112)) (fun _ hk => ⟨hk.1.1, hk.1.2⟩)))⟩; replace BK175 : Aside0 (w119.heap[gb175]? = some (.cells #[.int .i64 a0_0, .slice A0_1 l0_1.length c0_1] 30 (0, 0))) := ⟨(by rw [hw]; exact (bG NB175_177 BK175))⟩; replace BK176 : Aside0 (w119.heap[gb176]? = some (.cells #[.int .i64 a1_0, .int .i64 a1_1, .int .i64 a1_2, .int .i64 a1_3] 34 (0, 0))) := ⟨(by rw [hw]; exact (bG NB176_177 BK176))⟩; replace BK177 : Aside0 (w119.heap[gb177]? = some (.cells #[.int .i64 a0_0, .slice Ao112 t191.length co112] 30 (0, 0))) := ⟨(by rw [hw]; exact (by refine bU ?_; refine blk_put (cs := #[.int .i64 a0_0, .slice none 0 0]) ?_ 1 _ rfl; refine bU ?_; refine blk_put (cs := #[.int .i64 0, .slice none 0 0]) ?_ 0 _ rfl; refine bU ?_; exact BK177.out))⟩; replace BK183 : Aside0 (w119.heap[gb183]? = some (.cells #[.int .i64 a0_0, .slice Ao112 t191.length co112] 30 (0, 0))) := ⟨(by rw [hw]; exact (bG NB183_177 BK183))⟩; replace HB : Aside0 (Below w.heap.size w w119) := ⟨(by rw [hw]; exact (lV4 GE175 GE176 GE177 GE183))⟩; clear hw))
      refine bodyPost_ret (results_ct rfl _ _ gb177 30 #[.int .i64 a0_0, .slice Ao112 t191.length co112] (0, 0) _ rfl (bV BK177) Try.underlying30 rfl (by kernel_rfl)) rfl ?_
      exact ⟨_, eE, by (with_reducible repeat (first | apply Kd.R_alloc | apply Kd.R_drewN | apply Kd.R_drew)); exact Kd.R_mono HO193.out (fun _ hk => trivial), lV4 GE175 GE176 GE177 GE183⟩
     ·replace c88 := Bool.eq_false_iff.mpr c88
      subst c88
      have H1 : (some (0, ([] : List (S34)), false)) = some (r1, r2, r3) := by rw [if_neg (show ¬ (false = true) by decide)] at H; exact H
      clear H
      have H := H1
      clear H1
      simp only [Option.some.injEq, Prod.mk.injEq] at H
      obtain ⟨rfl, rfl, rfl⟩ := H
      try go_wp2
      replace BK175 := Aside0.mk (blk_drew BK175.out)
      replace BK176 := Aside0.mk (blk_drew BK176.out)
      replace BK177 := Aside0.mk (blk_drew BK177.out)
      replace HB := Aside0.mk (below_drew1 HB.out)
      refine start_ (n := 8) (S := fun w' => w'.cell? ⟨gb175, 0, none⟩ = some (.int .i64 a0_0) ∧ w'.cell? ⟨gb175, 1, none⟩ = some (.slice A0_1 l0_1.length c0_1)) (ds := []) #[false, false, false, false, false, false, false, false] (by kernel_rfl) rfl rfl ⟨cz BK175 0 _, cz BK175 1 _⟩ (fun hHeld => ?_); refine with_tabW impl_AddTimer.tab3 impl_AddTimer.bits3 (fun HT_ HW_ => ?_)
      generalize wc.drew = w120 at BK175 BK176 BK177 HB hHeld ⊢
      refine pureA 0 20 (bz 8 1) rfl rfl (any_of HT_.out (by kernel_rfl)) ?_
      refine pureA 2 22 (bz 8 5) rfl rfl (any_of HT_.out (by kernel_rfl)) ?_
      refine takeA 1 21 (bz 8 7) rfl rfl (take_ofW HT_.out HW_.out (by kernel_rfl)) hHeld (by rintro w' ⟨s0, s1⟩; go_simp; with_reducible rfl) ?_
      refine takeA 3 23 (bz 8 15) rfl rfl (take_ofW HT_.out HW_.out (by kernel_rfl)) hHeld (by rintro w' ⟨s0, s1⟩; go_simp; with_reducible rfl) ?_
      refine join_ (σ := Value × Nat) 1 #[true, true, true, true, true, true, true, false] (fun s_ => [(24, s_.1), (6, .pointer (some ⟨s_.2, 0, none⟩)), (25, .agg #[.int .i64 a0_0, s_.1])]) (fun s_ w' => (w'.cell? ⟨gb175, 0, none⟩ = some (.int .i64 a0_0) ∧ w'.cell? ⟨gb175, 1, none⟩ = some (.slice A0_1 l0_1.length c0_1)) ∧ (Kd.R k34 34 w' w.heap.size (fun k_ => k_ ≠ gb176) s_.1 t180) ∧ (w'.heap[gb175]? = some (.cells #[.int .i64 a0_0, .slice A0_1 l0_1.length c0_1] 30 (0, 0))) ∧ (w'.heap[gb176]? = some (.cells #[.int .i64 a1_0, .int .i64 a1_1, .int .i64 a1_2, .int .i64 a1_3] 34 (0, 0))) ∧ (w'.heap[gb177]? = some (.cells #[.int .i64 0, .slice none 0 0] 30 (0, 0))) ∧ (w'.heap[s_.2]? = some (.cells #[.int .i64 0, .slice none 0 0] 30 (0, 0))) ∧ (w.heap.size ≤ s_.2) ∧ (w.heap.size ≤ s_.2) ∧ (gb175 ≠ s_.2) ∧ (s_.2 ≠ gb175) ∧ (gb176 ≠ s_.2) ∧ (s_.2 ≠ gb176) ∧ (gb177 ≠ s_.2) ∧ (s_.2 ≠ gb177) ∧ (Below w.heap.size w w')) ?_ ?_
      rotate_left
      ·intro hCont
       refine two_ (i := 4) (j := 6) (Ni := some 24) (Nj := some 6) #[true, true, true, true, true, false, false, false] #[true, true, true, true, false, false, true, false] rfl rfl rfl rfl (two_of HT_.out (by kernel_rfl)) (by decide) (by decide) (fun K hK => ?_) (fun K hK => ?_)
       ·skip
        refine goes_ Try.func27 (by kernel_rfl) rfl #[.slice A0_1 l0_1.length c0_1] (by rfl) rfl rfl aE ?_
        with_reducible refine (impl_Timer_27.calls _ _ l0_1 t180 _ ?side1 ?side2 A27.out).mono ?_
        (case side1 => exact cU (Kd.C_below HR0_1.out HB.out))
        (case side2 => exact HC0_1.out)
        rintro e w121 ⟨v181, rfl, ho0, hb⟩
        refine ⟨_, rfl, ?_⟩
        have HO182 := Aside0.mk (Kd.R_lower (Kd.R_newB ho0 (g := gb176) (o := .cells #[.int .i64 a1_0, .int .i64 a1_1, .int .i64 a1_2, .int .i64 a1_3] 34 (0, 0)) (bV BK176)) (below_size (lV3 GE175 GE176 GE177)))
        replace BK175 := bB (bV BK175) hb
        replace BK176 := bB (bV BK176) hb
        replace BK177 := bB (bV BK177) hb
        replace HB := bH (lV3 GE175 GE176 GE177) hb
        (try clear hb)
        (try clear hb2)
        (try clear hk)
        (try clear hi)
        (try clear ho0)
        obtain ⟨Ao122, co122, eo122⟩ := Kd.R_slice HO182.out
        (first | subst eo122 | (injection eo122 with f1_ f2_ f3_; have f4_ := f1_.symm; have f5_ := f3_.symm; clear f1_ f2_ f3_; subst f4_; subst f5_))
        refine hK.out _ _ ⟨cz BK175 0 _, cz BK175 1 _⟩ (fun hHeld => ?_)
        clear hK K
        refine norm_ (a' := ?_) ?_ ?_
        rotate_left
        ·show Act.put _ (some 24) _ = _
         simp only [Act.put, List.setIfInBounds_toArray, List.set_cons_zero, List.set_cons_succ, i64_w, i32_w]
         rfl
        refine pureA 5 25 (bz 8 63) rfl rfl (any_of HT_.out (by kernel_rfl)) ?_
        refine one_ (i := 6) (N := some 6) (bz 8 127) rfl rfl (one_of HT_.out (by kernel_rfl)) (by decide) (fun K hK => ?_)
        refine box_step ?hg (N := 6) ?hd (cs := #[.int .i64 0, .slice none 0 0]) (t := 30) ?hr ?_; (case hd => rfl); (case hg => rfl); (case hr => exact sE)
        intro gb183 hg w123 hbox hb
        replace HO182 := Aside0.mk (Kd.R_below (rU HO182.out) hb)
        have BK183 := Aside0.mk hbox
        have GW183 := gS w hg (lV3 GE175 GE176 GE177)
        have GE183 := gS w hg (lV3 GE175 GE176 GE177)
        replace HB := bH (lV3 GE175 GE176 GE177) hb
        have NB175_183 := nL hg (bV BK175)
        have NB183_175 := nG hg (bV BK175)
        replace BK175 := bB (bV BK175) hb
        have NB176_183 := nL hg (bV BK176)
        have NB183_176 := nG hg (bV BK176)
        replace BK176 := bB (bV BK176) hb
        have NB177_183 := nL hg (bV BK177)
        have NB183_177 := nG hg (bV BK177)
        replace BK177 := bB (bV BK177) hb
        clear hb hbox hg
        refine hK.out _ _ ⟨cz BK175 0 _, cz BK175 1 _⟩ (fun hHeld => ?_)
        clear hK K
        refine norm_ (a' := ?_) ?_ ?_
        rotate_left
        ·show Act.put _ (some 6) _ = _
         simp only [Act.put, List.setIfInBounds_toArray, List.set_cons_zero, List.set_cons_succ, i64_w, i32_w]
         rfl
        exact norm_ (by simp only [putAll, Act.put, List.setIfInBounds_toArray, List.set_cons_zero, List.set_cons_succ]) (hCont (.slice Ao122 t180.length co122, gb183) _ ⟨hHeld, (by (with_reducible repeat (first | apply Kd.R_alloc | apply Kd.R_drewN | apply Kd.R_drew)); exact Kd.R_mono HO182.out (fun _ hk => hk.2)), (bV BK175), (bV BK176), (bV BK177), (bV BK183), GW183.out, GE183.out, NB175_183.out, NB183_175.out, NB176_183.out, NB183_176.out, NB177_183.out, NB183_177.out, (lV4 GE175 GE176 GE177 GE183)⟩)
       ·skip
        refine box_step ?hg (N := 6) ?hd (cs := #[.int .i64 0, .slice none 0 0]) (t := 30) ?hr ?_; (case hd => rfl); (case hg => rfl); (case hr => exact sE)
        intro gb183 hg w121 hbox hb
        have BK183 := Aside0.mk hbox
        have GW183 := gS w hg (lV3 GE175 GE176 GE177)
        have GE183 := gS w hg (lV3 GE175 GE176 GE177)
        replace HB := bH (lV3 GE175 GE176 GE177) hb
        have NB175_183 := nL hg (bV BK175)
        have NB183_175 := nG hg (bV BK175)
        replace BK175 := bB (bV BK175) hb
        have NB176_183 := nL hg (bV BK176)
        have NB183_176 := nG hg (bV BK176)
        replace BK176 := bB (bV BK176) hb
        have NB177_183 := nL hg (bV BK177)
        have NB183_177 := nG hg (bV BK177)
        replace BK177 := bB (bV BK177) hb
        clear hb hbox hg
        refine hK.out _ _ ⟨cz BK175 0 _, cz BK175 1 _⟩ (fun hHeld => ?_)
        clear hK K
        refine norm_ (a' := ?_) ?_ ?_
        rotate_left
        ·show Act.put _ (some 6) _ = _
         simp only [Act.put, List.setIfInBounds_toArray, List.set_cons_zero, List.set_cons_succ, i64_w, i32_w]
         rfl
        refine one_ (i := 4) (N := some 24) (bz 8 95) rfl rfl (one_of HT_.out (by kernel_rfl)) (by decide) (fun K hK => ?_)
        refine goes_ Try.func27 (by kernel_rfl) rfl #[.slice A0_1 l0_1.length c0_1] (by rfl) rfl rfl aE ?_
        with_reducible refine (impl_Timer_27.calls _ _ l0_1 t180 _ ?side1 ?side2 A27.out).mono ?_
        (case side1 => exact cU (Kd.C_below HR0_1.out HB.out))
        (case side2 => exact HC0_1.out)
        rintro e w122 ⟨v181, rfl, ho0, hb⟩
        refine ⟨_, rfl, ?_⟩
        have HO182 := Aside0.mk (Kd.R_lower (Kd.R_newB ho0 (g := gb176) (o := .cells #[.int .i64 a1_0, .int .i64 a1_1, .int .i64 a1_2, .int .i64 a1_3] 34 (0, 0)) (bV BK176)) (below_size (lV4 GE175 GE176 GE177 GE183)))
        replace BK175 := bB (bV BK175) hb
        replace BK176 := bB (bV BK176) hb
        replace BK177 := bB (bV BK177) hb
        replace BK183 := bB (bV BK183) hb
        replace HB := bH (lV4 GE175 GE176 GE177 GE183) hb
        (try clear hb)
        (try clear hb2)
        (try clear hk)
        (try clear hi)
        (try clear ho0)
        obtain ⟨Ao123, co123, eo123⟩ := Kd.R_slice HO182.out
        (first | subst eo123 | (injection eo123 with f1_ f2_ f3_; have f4_ := f1_.symm; have f5_ := f3_.symm; clear f1_ f2_ f3_; subst f4_; subst f5_))
        refine hK.out _ _ ⟨cz BK175 0 _, cz BK175 1 _⟩ (fun hHeld => ?_)
        clear hK K
        refine norm_ (a' := ?_) ?_ ?_
        rotate_left
        ·show Act.put _ (some 24) _ = _
         simp only [Act.put, List.setIfInBounds_toArray, List.set_cons_zero, List.set_cons_succ, i64_w, i32_w]
         rfl
        refine pureA 5 25 (bz 8 127) rfl rfl (any_of HT_.out (by kernel_rfl)) ?_
        exact norm_ (by simp only [putAll, Act.put, List.setIfInBounds_toArray, List.set_cons_zero, List.set_cons_succ]) (hCont (.slice Ao123 t180.length co123, gb183) _ ⟨hHeld, (by (with_reducible repeat (first | apply Kd.R_alloc | apply Kd.R_drewN | apply Kd.R_drew)); exact Kd.R_mono HO182.out (fun _ hk => hk.2)), (bV BK175), (bV BK176), (bV BK177), (bV BK183), GW183.out, GE183.out, NB175_183.out, NB183_175.out, NB176_183.out, NB183_176.out, NB177_183.out, NB183_177.out, (lV4 GE175 GE176 GE177 GE183)⟩)
      rintro ⟨v181, gb183⟩ w124 ⟨hS_, h0_, h1_, h2_, h3_, h4_, h5_, h6_, h7_, h8_, h9_, h10_, h11_, h12_, h13_⟩
      have HO182 : Aside0 (Kd.R k34 34 w124 w.heap.size (fun k_ => k_ ≠ gb176) v181 t180) := ⟨h0_⟩
      replace BK175 : Aside0 (w124.heap[gb175]? = some (.cells #[.int .i64 a0_0, .slice A0_1 l0_1.length c0_1] 30 (0, 0))) := ⟨h1_⟩
      replace BK176 : Aside0 (w124.heap[gb176]? = some (.cells #[.int .i64 a1_0, .int .i64 a1_1, .int .i64 a1_2, .int .i64 a1_3] 34 (0, 0))) := ⟨h2_⟩
      replace BK177 : Aside0 (w124.heap[gb177]? = some (.cells #[.int .i64 0, .slice none 0 0] 30 (0, 0))) := ⟨h3_⟩
      have BK183 : Aside0 (w124.heap[gb183]? = some (.cells #[.int .i64 0, .slice none 0 0] 30 (0, 0))) := ⟨h4_⟩
      have GW183 : Aside0 (w.heap.size ≤ gb183) := ⟨h5_⟩
      have GE183 : Aside0 (w.heap.size ≤ gb183) := ⟨h6_⟩
      have NB175_183 : Aside0 (gb175 ≠ gb183) := ⟨h7_⟩
      have NB183_175 : Aside0 (gb183 ≠ gb175) := ⟨h8_⟩
      have NB176_183 : Aside0 (gb176 ≠ gb183) := ⟨h9_⟩
      have NB183_176 : Aside0 (gb183 ≠ gb176) := ⟨h10_⟩
      have NB177_183 : Aside0 (gb177 ≠ gb183) := ⟨h11_⟩
      have NB183_177 : Aside0 (gb183 ≠ gb177) := ⟨h12_⟩
      replace HB : Aside0 (Below w.heap.size w w124) := ⟨h13_⟩
      clear h0_ h1_ h2_ h3_ h4_ h5_ h6_ h7_ h8_ h9_ h10_ h11_ h12_ h13_
      have hHeld : w124.cell? ⟨gb175, 0, none⟩ = some (.int .i64 a0_0) ∧ w124.cell? ⟨gb175, 1, none⟩ = some (.slice A0_1 l0_1.length c0_1) := hS_
      obtain ⟨Ao125, co125, eo125⟩ := Kd.R_slice HO182.out
      (first | subst eo125 | (injection eo125 with f1_ f2_ f3_; have f4_ := f1_.symm; have f5_ := f3_.symm; clear f1_ f2_ f3_; subst f4_; subst f5_))
      refine norm_ (a' := ?_) ?_ ?_
      rotate_left
      ·simp only [putAll, Act.put, List.setIfInBounds_toArray, List.set_cons_zero, List.set_cons_succ]
       rfl
      refine one_ (i := 7) (N := none) (bz 8 255) rfl rfl (one_of HT_.out (by kernel_rfl)) (by decide) (fun K hK => ?_)
      have hs126 : w124.cell? ⟨gb183, 0, none⟩ = some (.int .i64 0) := (blk_cell BK183.out 0).trans rfl
      have hfs126 := blk_frozen BK183.out 0
      have hns126_0 := NB175_183.out
      have hns126_1 := NB176_183.out
      have hns126_2 := NB177_183.out
      have hms126_0 := NB183_175.out
      have hms126_1 := NB183_176.out
      have hms126_2 := NB183_177.out
      have hs127 : w124.cell? ⟨gb183, 1, none⟩ = some (.slice none 0 0) := (blk_cell BK183.out 1).trans rfl
      have hfs127 := blk_frozen BK183.out 1
      have hns127_0 := NB175_183.out
      have hns127_1 := NB176_183.out
      have hns127_2 := NB177_183.out
      have hms127_0 := NB183_175.out
      have hms127_1 := NB183_176.out
      have hms127_2 := NB183_177.out
      refine skip_ (w1 := ?_) (by rfl) rfl ?_ ?_
      rotate_left
      ·go_simp
       rfl
      refine hK.out _ _ ⟨((cell_far (p := ⟨gb183, _, none⟩) NB175_183.out _).trans (((cell_far (p := ⟨gb183, _, none⟩) NB175_183.out _).trans (hHeld.1)))), ((cell_far (p := ⟨gb183, _, none⟩) NB175_183.out _).trans (((cell_far (p := ⟨gb183, _, none⟩) NB175_183.out _).trans (hHeld.2))))⟩ (fun hHeld => ?_)
      clear hK K
      refine done_ (done_of HT_.out (by kernel_rfl)) ?_
      have hnb128 := NB175_176.out
      have hnc128 := NB176_175.out
      have hnb129 := NB175_177.out
      have hnc129 := NB177_175.out
      have hnb130 := NB175_183.out
      have hnc130 := NB183_175.out
      have hcz131_0 := cz BK175 0 (.int .i64 a0_0)
      have hcz131_1 := cz BK175 1 (.slice A0_1 l0_1.length c0_1)
      have hfz131_0 := fz BK175 0
      have hfz131_1 := fz BK175 1
      have hnb132 := NB176_177.out
      have hnc132 := NB177_176.out
      have hnb133 := NB176_183.out
      have hnc133 := NB183_176.out
      have hcz134_0 := cz BK176 0 (.int .i64 a1_0)
      have hcz134_1 := cz BK176 1 (.int .i64 a1_1)
      have hcz134_2 := cz BK176 2 (.int .i64 a1_2)
      have hcz134_3 := cz BK176 3 (.int .i64 a1_3)
      have hfz134_0 := fz BK176 0
      have hfz134_1 := fz BK176 1
      have hfz134_2 := fz BK176 2
      have hfz134_3 := fz BK176 3
      try go_wp2_with (first | ((with_reducible refine gate_callee (f := 28) rfl ?_); refine goesL_ (some 30) rfl rfl Try.func28 (by kernel_rfl) rfl #[.agg #[.int .i64 a0_0, .slice A0_1 l0_1.length c0_1], .int .i64 a1_0] rfl aE ?_; (with_reducible refine (impl_Clock_place.calls kj2 a0_0 _ _ l0_1 a1_0 t184 false _ ?side1 ?side2 A28.out).mono ?_); (case side1 => exact Kd.C_below HR0_1.out (lV4 GE175 GE176 GE177 GE183)); (case side2 => exact HC0_1.out); rintro e w135 ⟨rfl, hb⟩; refine ⟨_, rfl, ?_⟩; replace HO182 := Aside0.mk (Kd.R_below (rU (Kd.R_mono (Kd.R_far (p := ⟨gb183, 1, none⟩) (Kd.R_far (p := ⟨gb183, 0, none⟩) (Kd.R_types HO182.out BK183.out (by decide)) (fun _ hk => hk.2) (.int .i64 a0_0)) (fun _ hk => hk.2) (.slice Ao125 t180.length co125)) (fun _ h_ => h_.1))) hb); replace BK175 := bB (bG NB175_183 BK175) hb; replace BK176 := bB (bG NB176_183 BK176) hb; replace BK177 := bB (bG NB177_183 BK177) hb; replace BK183 := Aside0.mk (blk_below (g := gb183) (o := .cells #[.int .i64 a0_0, .slice Ao125 t180.length co125] 30 (0, 0)) (by refine bU ?_; refine blk_put (cs := #[.int .i64 a0_0, .slice none 0 0]) ?_ 1 _ rfl; refine bU ?_; refine blk_put (cs := #[.int .i64 0, .slice none 0 0]) ?_ 0 _ rfl; refine bU ?_; exact BK183.out) hb); replace HB := bH (lV4 GE175 GE176 GE177 GE183) hb; (try clear hb); have hnb136 := NB183_177.out; have hnc136 := NB177_183.out; have hcz137_0 := cz BK183 0 (.int .i64 a0_0); have hcz137_1 := cz BK183 1 (.slice Ao125 t180.length co125); have hfz137_0 := fz BK183 0; have hfz137_1 := fz BK183 1; have hcz138_0 := cz BK176 0 (.int .i64 a1_0); have hcz138_1 := cz BK176 1 (.int .i64 a1_1); have hcz138_2 := cz BK176 2 (.int .i64 a1_2); have hcz138_3 := cz BK176 3 (.int .i64 a1_3); have hfz138_0 := fz BK176 0; have hfz138_1 := fz BK176 1; have hfz138_2 := fz BK176 2; have hfz138_3 := fz BK176 3) | ((with_reducible refine gate_dst (N := 43) rfl ?_); refine Kd.R_lit k34 _ 34 ?hg (N := 43) ?hd (xs := ([(⟨a1_0, a1_1, a1_2, a1_3⟩ : S34)] : List (S34))) (inner := [.int .i64 a1_0, .int .i64 a1_1, .int .i64 a1_2, .int .i64 a1_3]) (ok := fun _ => True) (okp := fun _ => True) ?hr ?hp (fun _ hk => hk) trivial (Below.refl _ _) (Nat.le_refl _) (by simp) ?_; (case hd => rfl); (case hg => rfl); (case hr => exact sE); (case hp => exact (Reps.c4 (show Kd.M k34 _ _ _ (⟨a1_0, a1_1, a1_2, a1_3⟩ : S34) [.int .i64 a1_0, .int .i64 a1_1, .int .i64 a1_2, .int .i64 a1_3] from (k34_mkM _ _ _ (⟨a1_0, a1_1, a1_2, a1_3⟩ : S34) )) (Reps.none _ _))); intro v189 w139 ho140 hb hg_ hnew_; clear hg_ hnew_; (first | rw [← Ny188.out] at ho140 | (simp only [Int.reduceToNat] at ho140; rw [← Ny188.out] at ho140)); have HO190 := Aside0.mk (Kd.R_lower (Kd.R_newB (Kd.R_new' ho140 (Kd.R_lt (rU HO182.out))) (g := gb176) (o := .cells #[.int .i64 a1_0, .int .i64 a1_1, .int .i64 a1_2, .int .i64 a1_3] 34 (0, 0)) (bV BK176)) (below_size (lV4 GE175 GE176 GE177 GE183))); replace HO182 := Aside0.mk (Kd.R_elder' (rU HO182.out) (Kd.R_base ho140) hb); replace BK175 := bB (bV BK175) hb; replace BK176 := bB (bV BK176) hb; replace BK177 := bB (bV BK177) hb; replace BK183 := bB (bV BK183) hb; replace HB := bH (lV4 GE175 GE176 GE177 GE183) hb; clear hb ho140; obtain ⟨Ao141, co141, eo141⟩ := Kd.R_slice HO190.out; subst eo141) | ((with_reducible refine gate_callee (f := 29) rfl ?_); refine goesL_ (some 44) rfl rfl Try.func29 (by kernel_rfl) rfl #[.slice Ao125 t180.length co125, .int .i64 t184, .slice Ao141 y188.length co141] rfl aE ?_; (with_reducible refine (impl_Timer_29.calls (fun k_ => some k_ = (.slice Ao125 t180.length co125 : Value).ownBlock) (.slice Ao125 t180.length co125) t180 t184 _ _ y188 t191 w _ ?side1 ?side2 ?side3 ?side4 A86.out).mono ?_); (case side1 => repeat (first | (with_reducible first | exact HB.out | apply below_alloc | apply pw_below_drewN | apply below_drew1 | refine below_set ?_ GE175.out | refine below_set ?_ GE176.out | refine below_set ?_ GE177.out | refine below_set ?_ GE183.out) | exact HB.out)); (case side2 => exact Kd.R_tight rfl HO182.out); (case side3 => exact Kd.C_kept_own (HO190.out) (fun k_ hk_ hs_ => (hk_.1.2) hs_)); (case side4 => exact (Kd.R_reads' HO190.out).2.1); rintro e w142 ⟨v192, rfl, ho0, hb, hkp⟩; refine ⟨_, rfl, ?_⟩; replace BK175 := Aside0.mk (blk_kept (bV BK175) hkp (fun hs_ => (fun e_ => (Kd.R_ne HO182.out BK175.out (by decide)) e_) hs_)); replace BK177 := Aside0.mk (blk_kept (bV BK177) hkp (fun hs_ => (fun e_ => (Kd.R_ne HO182.out BK177.out (by decide)) e_) hs_)); replace BK183 := Aside0.mk (blk_kept (bV BK183) hkp (fun hs_ => (fun e_ => (Kd.R_ne HO182.out BK183.out (by decide)) e_) hs_)); have HO193 := Aside0.mk (Kd.R_mono (ok' := fun k_ => some k_ ≠ (.slice Ao141 y188.length co141 : Value).ownBlock ∧ k_ ≠ gb176) ho0 (fun k_ hk_ => ⟨Or.elim hk_ (fun hs_ => fun e_ => (((HO190.out).1 k_ e_.symm).1.2) hs_) (fun hn_ => (Kd.fresh' (Kd.R_lt (rU HO190.out)) k_ hn_)), Or.elim hk_ (fun hs_ => fun e_ => (Kd.R_away HO182.out (fun _ hk => hk.1)) (by rw [← e_]; exact hs_)) (fun hn_ => (Kd.freshB (g := gb176) (o := .cells #[.int .i64 a1_0, .int .i64 a1_1, .int .i64 a1_2, .int .i64 a1_3] 34 (0, 0)) (bV BK176) k_ hn_))⟩)); replace BK176 := Aside0.mk (blk_kept (bV BK176) hkp (fun hs_ => (fun e_ => (Kd.R_away HO182.out (fun _ hk => hk.1)) e_) hs_)); replace HO190 := Aside0.mk (Kd.R_mono (ok' := fun k_ => k_ ≠ gb176 ∧ some k_ ≠ (v192 : Value).ownBlock) (Kd.R_keptB (HO190.out) hkp (fun k_ hk_ hs_ => (hk_.1.2) hs_)) (fun k_ hk_ => ⟨hk_.1.2, fun e_ => Or.elim (ho0.1 k_ e_.symm) (fun hs_ => hk_.2.1 hs_) (fun hn_ => Nat.not_le.2 hk_.2.2 hn_)⟩)); replace HB := Aside0.mk hb; clear HO182; (try clear hb); (try clear hkp); (try clear hg_); (try clear hp_); (try clear ho0); obtain ⟨Ao143, co143, eo143⟩ := Kd.R_slice HO193.out; subst eo143; have hcz144_0 := cz BK183 0 (.int .i64 a0_0); have hcz144_1 := cz BK183 1 (.slice Ao125 t180.length co125); have hfz144_0 := fz BK183 0; have hfz144_1 := fz BK183 1) | ((with_reducible refine gate_store (t := 28) (p := 45) rfl ?_); refine store_event (t := 28) (p := 45) (v := ?vo_w145) (w1 := (w142.setCell ⟨gb183, 1, none⟩ (.slice Ao143 t191.length co143))) ?hg ?ho ?hn ?hr ?_; (case ho => rfl); (case hg => rfl); (case hn => rfl); (case hr => first | (go_simp; done) | (go_simp; rfl) | (have hq0_ := (blk_cell BK183.out 1).trans (show _ = some _ from rfl); have hf0_ := blk_frozen BK183.out 1; first | (go_simp; done) | (go_simp; rfl))); intro w145 hw; replace HO190 : Aside0 (Kd.R k34 34 w145 w.heap.size (fun k_ => some k_ ≠ (.slice Ao143 t191.length co143 : Value).ownBlock ∧ k_ ≠ gb176) (.slice Ao141 y188.length co141) y188) := ⟨(by rw [hw]; exact (by (with_reducible repeat (first | apply Kd.R_alloc | apply Kd.R_drewN | apply Kd.R_drew)); exact Kd.R_mono (Kd.R_far (p := ⟨gb183, 1, none⟩) (Kd.R_types HO190.out BK183.out (by decide)) (fun _ hk => hk.2) (.slice Ao143 t191.length co143)) (fun _ hk => ⟨hk.1.2, hk.1.1⟩)))⟩; replace HO193 : Aside0 (Kd.R k34 34 w145 w.heap.size (fun k_ => some k_ ≠ (.slice Ao141 y188.length co141 : Value).ownBlock ∧ k_ ≠ gb176) (.slice Ao143 t191.length co143) t191) := ⟨(by rw [hw]; exact (by (with_reducible repeat (first | apply Kd.R_alloc | apply Kd.R_drewN | apply Kd.R_drew)); exact Kd.R_mono (Kd.R_far (p := ⟨gb183, 1, none⟩) (Kd.R_types HO193.out BK183.out (by decide)) (fun _ hk => hk.2) (.slice Ao143 t191.length co143)) (fun _ hk => ⟨hk.1.1, hk.1.2⟩)))⟩; replace BK175 : Aside0 (w145.heap[gb175]? = some (.cells #[.int .i64 a0_0, .slice A0_1 l0_1.length c0_1] 30 (0, 0))) := ⟨(by rw [hw]; exact (bG NB175_183 BK175))⟩; replace BK176 : Aside0 (w145.heap[gb176]? = some (.cells #[.int .i64 a1_0, .int .i64 a1_1, .int .i64 a1_2, .int .i64 a1_3] 34 (0, 0))) := ⟨(by rw [hw]; exact (bG NB176_183 BK176))⟩; replace BK177 : Aside0 (w145.heap[gb177]? = some (.cells #[.int .i64 0, .slice none 0 0] 30 (0, 0))) := ⟨(by rw [hw]; exact (bG NB177_183 BK177))⟩; replace BK183 : Aside0 (w145.heap[gb183]? = some (.cells #[.int .i64 a0_0, .slice Ao143 t191.length co143] 30 (0, 0))) := ⟨(by rw [hw]; exact (by refine bU ?_; refine blk_put (cs := #[.int .i64 a0_0, .slice Ao125 t180.length co125]) ?_ 1 _ rfl; refine bU ?_; exact BK183.out))⟩; replace HB : Aside0 (Below w.heap.size w w145) := ⟨(by rw [hw]; exact (lV4 GE175 GE176 GE177 GE183))⟩; clear hw; have hcz146_0 := cz BK183 0 (.int .i64 a0_0); have hcz146_1 := cz BK183 1 (.slice Ao143 t191.length co143); have hfz146_0 := fz BK183 0; have hfz146_1 := fz BK183 1) | ((with_reducible refine gate_callee (f := 25) rfl ?_); refine goesL_ (some 47) rfl rfl Try.func25 (by kernel_rfl) rfl #[.agg #[.int .i64 a0_0, .slice Ao143 t191.length co143]] rfl aE ?_; (with_reducible refine (impl_GoodClock.calls kj2 a0_0 _ _ t191 false _ ?side1 ?side2 A87.out).mono ?_); (case side1 => exact cU (Kd.R_reads' HO193.out).2.2); (case side2 => exact (Kd.R_reads' HO193.out).2.1); rintro e w147 ⟨rfl, hb⟩; refine ⟨_, rfl, ?_⟩; replace HO190 := Aside0.mk (Kd.R_below (rU HO190.out) hb); replace HO193 := Aside0.mk (Kd.R_below (rU HO193.out) hb); replace BK175 := bB (bV BK175) hb; replace BK176 := bB (bV BK176) hb; replace BK177 := bB (bV BK177) hb; replace BK183 := bB (bV BK183) hb; replace HB := bH (lV4 GE175 GE176 GE177 GE183) hb; (try clear hb); have hcz148_0 := cz BK177 0 (.int .i64 0); have hcz148_1 := cz BK177 1 (.slice none 0 0); have hfz148_0 := fz BK177 0; have hfz148_1 := fz BK177 1) | ((with_reducible refine gate_store (t := 30) (p := 4) rfl ?_); refine store_event (t := 30) (p := 4) (v := ?vo_w149) (w1 := ((w147.setCell ⟨gb177, 0, none⟩ (.int .i64 0)).setCell ⟨gb177, 1, none⟩ (.slice none 0 0))) ?hg ?ho ?hn ?hr ?_; (case ho => rfl); (case hg => rfl); (case hn => rfl); (case hr => first | (go_simp; done) | (go_simp; rfl) | (have hq0_ := (blk_cell BK177.out 0).trans (show _ = some _ from rfl); have hf0_ := blk_frozen BK177.out 0; have hq1_ := (blk_cell BK177.out 1).trans (show _ = some _ from rfl); have hf1_ := blk_frozen BK177.out 1; first | (go_simp; done) | (go_simp; rfl))); intro w149 hw; replace HO190 : Aside0 (Kd.R k34 34 w149 w.heap.size (fun k_ => some k_ ≠ (.slice Ao143 t191.length co143 : Value).ownBlock ∧ k_ ≠ gb176) (.slice Ao141 y188.length co141) y188) := ⟨(by rw [hw]; exact (by (with_reducible repeat (first | apply Kd.R_alloc | apply Kd.R_drewN | apply Kd.R_drew)); exact Kd.R_mono (Kd.R_far (p := ⟨gb177, 1, none⟩) (Kd.R_far (p := ⟨gb177, 0, none⟩) (Kd.R_types HO190.out BK177.out (by decide)) (fun _ hk => hk.2) (.int .i64 0)) (fun _ hk => hk.2) (.slice none 0 0)) (fun _ hk => ⟨hk.1.1, hk.1.2⟩)))⟩; replace HO193 : Aside0 (Kd.R k34 34 w149 w.heap.size (fun k_ => some k_ ≠ (.slice Ao141 y188.length co141 : Value).ownBlock ∧ k_ ≠ gb176) (.slice Ao143 t191.length co143) t191) := ⟨(by rw [hw]; exact (by (with_reducible repeat (first | apply Kd.R_alloc | apply Kd.R_drewN | apply Kd.R_drew)); exact Kd.R_mono (Kd.R_far (p := ⟨gb177, 1, none⟩) (Kd.R_far (p := ⟨gb177, 0, none⟩) (Kd.R_types HO193.out BK177.out (by decide)) (fun _ hk => hk.2) (.int .i64 0)) (fun _ hk => hk.2) (.slice none 0 0)) (fun _ hk => ⟨hk.1.1, hk.1.2⟩)))⟩; replace BK175 : Aside0 (w149.heap[gb175]? = some (.cells #[.int .i64 a0_0, .slice A0_1 l0_1.length c0_1] 30 (0, 0))) := ⟨(by rw [hw]; exact (bG NB175_177 BK175))⟩; replace BK176 : Aside0 (w149.heap[gb176]? = some (.cells #[.int .i64 a1_0, .int .i64 a1_1, .int .i64 a1_2, .int .i64 a1_3] 34 (0, 0))) := ⟨(by rw [hw]; exact (bG NB176_177 BK176))⟩; replace BK177 : Aside0 (w149.heap[gb177]? = some (.cells #[.int .i64 0, .slice none 0 0] 30 (0, 0))) := ⟨(by rw [hw]; exact (by refine bU ?_; refine blk_put (cs := #[.int .i64 0, .slice none 0 0]) ?_ 1 _ rfl; refine bU ?_; refine blk_put (cs := #[.int .i64 0, .slice none 0 0]) ?_ 0 _ rfl; refine bU ?_; exact BK177.out))⟩; replace BK183 : Aside0 (w149.heap[gb183]? = some (.cells #[.int .i64 a0_0, .slice Ao143 t191.length co143] 30 (0, 0))) := ⟨(by rw [hw]; exact (bG NB183_177 BK183))⟩; replace HB : Aside0 (Below w.heap.size w w149) := ⟨(by rw [hw]; exact (lV4 GE175 GE176 GE177 GE183))⟩; clear hw))
      refine bodyPost_ret (results_ct rfl _ _ gb177 30 #[.int .i64 0, .slice none 0 0] (0, 0) _ rfl (bV BK177) Try.underlying30 rfl (by kernel_rfl)) rfl ?_
      exact ⟨_, eE, by first | exact Kd.R_nil _ _ _ _ _ | exact Kd.N_nil _ _ _ _ _ | exact Kd.V_nil _ _ _ _ _ | exact Kd.Q_nil _ _ _ _ _ | exact Kd.S_nil _ _ _ _ _, lV4 GE175 GE176 GE177 GE183⟩
end Go.Proofs.Ytjmcahjcgfflgaa.PFnExactAddTimer
namespace Go.Proofs.Ytjmcahjcgfflgaa.PFnExactAddTimer
open Go.RowKit Go.Proofs.YtjmcahjcgfflgaaW.PrintWords Go.Proofs.YtjmcahjcgfflgaaW.PrintLast Go.Proofs.YtjmcahjcgfflgaaW.PrintMore
attribute [local go_sem] max2_int min2_int max_two min_two max_three min_three max_four min_four   -- for this text's walks alone
set_option linter.unusedVariables false
set_option linter.unusedSimpArgs false
def laws_eqTimer.f (a0_0 : Int) (a0_1 : Int) (a0_2 : Int) (a0_3 : Int) (a1_0 : Int) (a1_1 : Int) (a1_2 : Int) (a1_3 : Int) : Option (Bool) := if a0_0 = a1_0 then (if a0_1 = a1_1 then (if a0_2 = a1_2 then (if a0_3 = a1_3 then (some true) else (some false)) else (some false)) else (some false)) else (some false)
set_option maxHeartbeats 8000000 in
set_option maxRecDepth 100000 in
theorem laws_eqTimer.calls (a0_0 : Int) (a0_1 : Int) (a0_2 : Int) (a0_3 : Int) (a1_0 : Int) (a1_1 : Int) (a1_2 : Int) (a1_3 : Int) (r : Bool) (w : World) (h : laws_eqTimer.f a0_0 a0_1 a0_2 a0_3 a1_0 a1_1 a1_2 a1_3 = some r) :
  Calls Try.prog 58 #[.agg #[.int .i64 a0_0, .int .i64 a0_1, .int .i64 a0_2, .int .i64 a0_3], .agg #[.int .i64 a1_0, .int .i64 a1_1, .int .i64 a1_2, .int .i64 a1_3]] w fun e w' => e = .returned (.bool r) ∧ Below w.heap.size w w' := by
 have hu34 := Try.underlying34
 have HB := Aside0.mk (Below.refl w.heap.size w)
 have H : (if a0_0 = a1_0 then (if a0_1 = a1_1 then (if a0_2 = a1_2 then (if a0_3 = a1_3 then (some true) else (some false)) else (some false)) else (some false)) else (some false)) = some r := h
 clear h
 by_cases c3 : a0_0 = a1_0
 ·rw [if_pos c3] at H
  have c3b0 : (a0_0 == a1_0) = true := beq_iff_eq.mpr c3
  have c3b1 : (a0_0 != a1_0) = false := bne_eq_false_iff_eq.mpr c3
  clear c3
  by_cases c4 : a0_1 = a1_1
  ·rw [if_pos c4] at H
   have c4b0 : (a0_1 == a1_1) = true := beq_iff_eq.mpr c4
   have c4b1 : (a0_1 != a1_1) = false := bne_eq_false_iff_eq.mpr c4
   clear c4
   by_cases c5 : a0_2 = a1_2
   ·rw [if_pos c5] at H
    have c5b0 : (a0_2 == a1_2) = true := beq_iff_eq.mpr c5
    have c5b1 : (a0_2 != a1_2) = false := bne_eq_false_iff_eq.mpr c5
    clear c5
    by_cases c6 : a0_3 = a1_3
    ·rw [if_pos c6] at H
     have c6b0 : (a0_3 == a1_3) = true := beq_iff_eq.mpr c6
     have c6b1 : (a0_3 != a1_3) = false := bne_eq_false_iff_eq.mpr c6
     clear c6
     obtain rfl := Option.some.inj H
     go_enter Try.func58, Try.ntmps58
     go_wp2_with (first | ((with_reducible refine gate_dst (N := 2) rfl ?_); refine box_event rfl (N := 2) rfl (cs := #[.int .i64 a0_0, .int .i64 a0_1, .int .i64 a0_2, .int .i64 a0_3]) (t := 34) sE ?_; intro gb195 hg w7 hbox hb; have BK195 := Aside0.mk hbox; have GW195 := gS w hg (lU); have GE195 := gS w hg (lU); replace HB := bH (lU) hb; clear hb hbox hg) | ((with_reducible refine gate_dst (N := 3) rfl ?_); refine box_event rfl (N := 3) rfl (cs := #[.int .i64 a1_0, .int .i64 a1_1, .int .i64 a1_2, .int .i64 a1_3]) (t := 34) sE ?_; intro gb196 hg w8 hbox hb; have BK196 := Aside0.mk hbox; have GW196 := gS w hg (lV1 GE195); have GE196 := gS w hg (lV1 GE195); replace HB := bH (lV1 GE195) hb; have NB195_196 := nL hg (bV BK195); have NB196_195 := nG hg (bV BK195); replace BK195 := bB (bV BK195) hb; clear hb hbox hg; have hnb9 := NB195_196.out; have hnc9 := NB196_195.out; have hcz10_0 := cz BK195 0 (.int .i64 a0_0); have hcz10_1 := cz BK195 1 (.int .i64 a0_1); have hcz10_2 := cz BK195 2 (.int .i64 a0_2); have hcz10_3 := cz BK195 3 (.int .i64 a0_3); have hfz10_0 := fz BK195 0; have hfz10_1 := fz BK195 1; have hfz10_2 := fz BK195 2; have hfz10_3 := fz BK195 3; have hcz11_0 := cz BK196 0 (.int .i64 a1_0); have hcz11_1 := cz BK196 1 (.int .i64 a1_1); have hcz11_2 := cz BK196 2 (.int .i64 a1_2); have hcz11_3 := cz BK196 3 (.int .i64 a1_3); have hfz11_0 := fz BK196 0; have hfz11_1 := fz BK196 1; have hfz11_2 := fz BK196 2; have hfz11_3 := fz BK196 3))
     go_ret
     exact ⟨eE, lV2 GE195 GE196⟩
    ·rw [if_neg c6] at H
     have c6b0 : (a0_3 == a1_3) = false := beq_eq_false_iff_ne.mpr c6
     have c6b1 : (a0_3 != a1_3) = true := bne_iff_ne.mpr c6
     obtain rfl := Option.some.inj H
     go_enter Try.func58, Try.ntmps58
     go_wp2_with (first | ((with_reducible refine gate_dst (N := 2) rfl ?_); refine box_event rfl (N := 2) rfl (cs := #[.int .i64 a0_0, .int .i64 a0_1, .int .i64 a0_2, .int .i64 a0_3]) (t := 34) sE ?_; intro gb195 hg w12 hbox hb; have BK195 := Aside0.mk hbox; have GW195 := gS w hg (lU); have GE195 := gS w hg (lU); replace HB := bH (lU) hb; clear hb hbox hg) | ((with_reducible refine gate_dst (N := 3) rfl ?_); refine box_event rfl (N := 3) rfl (cs := #[.int .i64 a1_0, .int .i64 a1_1, .int .i64 a1_2, .int .i64 a1_3]) (t := 34) sE ?_; intro gb196 hg w13 hbox hb; have BK196 := Aside0.mk hbox; have GW196 := gS w hg (lV1 GE195); have GE196 := gS w hg (lV1 GE195); replace HB := bH (lV1 GE195) hb; have NB195_196 := nL hg (bV BK195); have NB196_195 := nG hg (bV BK195); replace BK195 := bB (bV BK195) hb; clear hb hbox hg; have hnb14 := NB195_196.out; have hnc14 := NB196_195.out; have hcz15_0 := cz BK195 0 (.int .i64 a0_0); have hcz15_1 := cz BK195 1 (.int .i64 a0_1); have hcz15_2 := cz BK195 2 (.int .i64 a0_2); have hcz15_3 := cz BK195 3 (.int .i64 a0_3); have hfz15_0 := fz BK195 0; have hfz15_1 := fz BK195 1; have hfz15_2 := fz BK195 2; have hfz15_3 := fz BK195 3; have hcz16_0 := cz BK196 0 (.int .i64 a1_0); have hcz16_1 := cz BK196 1 (.int .i64 a1_1); have hcz16_2 := cz BK196 2 (.int .i64 a1_2); have hcz16_3 := cz BK196 3 (.int .i64 a1_3); have hfz16_0 := fz BK196 0; have hfz16_1 := fz BK196 1; have hfz16_2 := fz BK196 2; have hfz16_3 := fz BK196 3))
     go_ret
     exact ⟨eE, lV2 GE195 GE196⟩
   ·rw [if_neg c5] at H
    have c5b0 : (a0_2 == a1_2) = false := beq_eq_false_iff_ne.mpr c5
    have c5b1 : (a0_2 != a1_2) = true := bne_iff_ne.mpr c5
    obtain rfl := Option.some.inj H
    go_enter Try.func58, Try.ntmps58
    go_wp2_with (first | ((with_reducible refine gate_dst (N := 2) rfl ?_); refine box_event rfl (N := 2) rfl (cs := #[.int .i64 a0_0, .int .i64 a0_1, .int .i64 a0_2, .int .i64 a0_3]) (t := 34) sE ?_; intro gb195 hg w17 hbox hb; have BK195 := Aside0.mk hbox; have GW195 := gS w hg (lU); have GE195 := gS w hg (lU); replace HB := bH (lU) hb; clear hb hbox hg) | ((with_reducible refine gate_dst (N := 3) rfl ?_); refine box_event rfl (N := 3) rfl (cs := #[.int .i64 a1_0, .int .i64 a1_1, .int .i64 a1_2, .int .i64 a1_3]) (t := 34) sE ?_; intro gb196 hg w18 hbox hb; have BK196 := Aside0.mk hbox; have GW196 := gS w hg (lV1 GE195); have GE196 := gS w hg (lV1 GE195); replace HB := bH (lV1 GE195) hb; have NB195_196 := nL hg (bV BK195); have NB196_195 := nG hg (bV BK195); replace BK195 := bB (bV BK195) hb; clear hb hbox hg; have hnb19 := NB195_196.out; have hnc19 := NB196_195.out; have hcz20_0 := cz BK195 0 (.int .i64 a0_0); have hcz20_1 := cz BK195 1 (.int .i64 a0_1); have hcz20_2 := cz BK195 2 (.int .i64 a0_2); have hcz20_3 := cz BK195 3 (.int .i64 a0_3); have hfz20_0 := fz BK195 0; have hfz20_1 := fz BK195 1; have hfz20_2 := fz BK195 2; have hfz20_3 := fz BK195 3; have hcz21_0 := cz BK196 0 (.int .i64 a1_0); have hcz21_1 := cz BK196 1 (.int .i64 a1_1); have hcz21_2 := cz BK196 2 (.int .i64 a1_2); have hcz21_3 := cz BK196 3 (.int .i64 a1_3); have hfz21_0 := fz BK196 0; have hfz21_1 := fz BK196 1; have hfz21_2 := fz BK196 2; have hfz21_3 := fz BK196 3))
    go_ret
    exact ⟨eE, lV2 GE195 GE196⟩
  ·rw [if_neg c4] at H
   have c4b0 : (a0_1 == a1_1) = false := beq_eq_false_iff_ne.mpr c4
   have c4b1 : (a0_1 != a1_1) = true := bne_iff_ne.mpr c4
   obtain rfl := Option.some.inj H
   go_enter Try.func58, Try.ntmps58
   go_wp2_with (first | ((with_reducible refine gate_dst (N := 2) rfl ?_); refine box_event rfl (N := 2) rfl (cs := #[.int .i64 a0_0, .int .i64 a0_1, .int .i64 a0_2, .int .i64 a0_3]) (t := 34) sE ?_; intro gb195 hg w22 hbox hb; have BK195 := Aside0.mk hbox; have GW195 := gS w hg (lU); have GE195 := gS w hg (lU); replace HB := bH (lU) hb; clear hb hbox hg) | ((with_reducible refine gate_dst (N := 3) rfl ?_); refine box_event rfl (N := 3) rfl (cs := #[.int .i64 a1_0, .int .i64 a1_1, .int .i64 a1_2, .int .i64 a1_3]) (t := 34) sE ?_; intro gb196 hg w23 hbox hb; have BK196 := Aside0.mk hbox; have GW196 := gS w hg (lV1 GE195); have GE196 := gS w hg (lV1 GE195); replace HB := bH (lV1 GE195) hb; have NB195_196 := nL hg (bV BK195); have NB196_195 := nG hg (bV BK195); replace BK195 := bB (bV BK195) hb; clear hb hbox hg; have hnb24 := NB195_196.out; have hnc24 := NB196_195.out; have hcz25_0 := cz BK195 0 (.int .i64 a0_0); have hcz25_1 := cz BK195 1 (.int .i64 a0_1); have hcz25_2 := cz BK195 2 (.int .i64 a0_2); have hcz25_3 := cz BK195 3 (.int .i64 a0_3); have hfz25_0 := fz BK195 0; have hfz25_1 := fz BK195 1; have hfz25_2 := fz BK195 2; have hfz25_3 := fz BK195 3; have hcz26_0 := cz BK196 0 (.int .i64 a1_0); have hcz26_1 := cz BK196 1 (.int .i64 a1_1); have hcz26_2 := cz BK196 2 (.int .i64 a1_2); have hcz26_3 := cz BK196 3 (.int .i64 a1_3); have hfz26_0 := fz BK196 0; have hfz26_1 := fz BK196 1; have hfz26_2 := fz BK196 2; have hfz26_3 := fz BK196 3))
   go_ret
   exact ⟨eE, lV2 GE195 GE196⟩
 ·rw [if_neg c3] at H
  have c3b0 : (a0_0 == a1_0) = false := beq_eq_false_iff_ne.mpr c3
  have c3b1 : (a0_0 != a1_0) = true := bne_iff_ne.mpr c3
  obtain rfl := Option.some.inj H
  go_enter Try.func58, Try.ntmps58
  go_wp2_with (first | ((with_reducible refine gate_dst (N := 2) rfl ?_); refine box_event rfl (N := 2) rfl (cs := #[.int .i64 a0_0, .int .i64 a0_1, .int .i64 a0_2, .int .i64 a0_3]) (t := 34) sE ?_; intro gb195 hg w27 hbox hb; have BK195 := Aside0.mk hbox; have GW195 := gS w hg (lU); have GE195 := gS w hg (lU); replace HB := bH (lU) hb; clear hb hbox hg) | ((with_reducible refine gate_dst (N := 3) rfl ?_); refine box_event rfl (N := 3) rfl (cs := #[.int .i64 a1_0, .int .i64 a1_1, .int .i64 a1_2, .int .i64 a1_3]) (t := 34) sE ?_; intro gb196 hg w28 hbox hb; have BK196 := Aside0.mk hbox; have GW196 := gS w hg (lV1 GE195); have GE196 := gS w hg (lV1 GE195); replace HB := bH (lV1 GE195) hb; have NB195_196 := nL hg (bV BK195); have NB196_195 := nG hg (bV BK195); replace BK195 := bB (bV BK195) hb; clear hb hbox hg; have hnb29 := NB195_196.out; have hnc29 := NB196_195.out; have hcz30_0 := cz BK195 0 (.int .i64 a0_0); have hcz30_1 := cz BK195 1 (.int .i64 a0_1); have hcz30_2 := cz BK195 2 (.int .i64 a0_2); have hcz30_3 := cz BK195 3 (.int .i64 a0_3); have hfz30_0 := fz BK195 0; have hfz30_1 := fz BK195 1; have hfz30_2 := fz BK195 2; have hfz30_3 := fz BK195 3; have hcz31_0 := cz BK196 0 (.int .i64 a1_0); have hcz31_1 := cz BK196 1 (.int .i64 a1_1); have hcz31_2 := cz BK196 2 (.int .i64 a1_2); have hcz31_3 := cz BK196 3 (.int .i64 a1_3); have hfz31_0 := fz BK196 0; have hfz31_1 := fz BK196 1; have hfz31_2 := fz BK196 2; have hfz31_3 := fz BK196 3))
  go_ret
  exact ⟨eE, lV2 GE195 GE196⟩
def laws_eqTimerS.l0 : Nat → List (S34) → List (S34) → Int → Option (Bool)
 | 0, _, _, _ => none
 | k + 1, x0, x1, x5 => if x5 < (x0.length : Int) then (if 0 ≤ x5 then (if x5 < (x1.length : Int) then ((laws_eqTimer.f ((rd_T34 x0 x5).f0) ((rd_T34 x0 x5).f1) ((rd_T34 x0 x5).f2) ((rd_T34 x0 x5).f3) ((rd_T34 x1 x5).f0) ((rd_T34 x1 x5).f1) ((rd_T34 x1 x5).f2) ((rd_T34 x1 x5).f3)).bind fun t199 => (if t199 = true then (laws_eqTimerS.l0 k x0 x1 (wrap64 (x5 + 1))) else (some false))) else (none)) else (none)) else (some true)
def laws_eqTimerS.f (k : Nat) (l0 : List (S34)) (l1 : List (S34)) : Option (Bool) := if (l0.length : Int) = (l1.length : Int) then (laws_eqTimerS.l0 k l0 l1 0) else (some false)
theorem laws_eqTimerS.mono_l : ∀ k, (∀ y0 y1 y2, LeO (laws_eqTimerS.l0 k y0 y1 y2) (laws_eqTimerS.l0 (k + 1) y0 y1 y2))
 | 0 => fun _ _ _ r h => by simp [laws_eqTimerS.l0] at h
 | k + 1 => by
  have ih0 := laws_eqTimerS.mono_l k
  ·intro y0 y1 y2
   unfold laws_eqTimerS.l0
   repeat' first
   | (with_reducible exact ih0 _ _ _)
   | (with_reducible exact LeO.refl _)
   | (with_reducible exact LeO.none _)
   | (with_reducible refine LeO.ite ?_ ?_)
   | (with_reducible refine LeO.bind ?_ (fun _ => ?_))
   | exact ih0 _ _ _
   | exact LeO.none _
   | refine LeO.ite ?_ ?_
   | refine LeO.bind ?_ (fun _ => ?_)
theorem laws_eqTimerS.mono : ∀ a0 a1 k, LeO (laws_eqTimerS.f k a0 a1) (laws_eqTimerS.f (k + 1) a0 a1) := by
 intro a0 a1 k
 have ih0 := laws_eqTimerS.mono_l k
 unfold laws_eqTimerS.f
 repeat' first
   | (with_reducible exact ih0 _ _ _)
   | (with_reducible exact LeO.refl _)
   | (with_reducible exact LeO.none _)
   | (with_reducible refine LeO.ite ?_ ?_)
   | (with_reducible refine LeO.bind ?_ (fun _ => ?_))
   | exact ih0 _ _ _
   | exact LeO.none _
   | refine LeO.ite ?_ ?_
   | refine LeO.bind ?_ (fun _ => ?_)
def laws_eqTimerS.T6 : Bool × List (List Nat × List Nat) := (true, [([], []), ([], []), ([0, 1], [0, 1]), ([2], [2]), ([], []), ([], []), ([4, 5], [4, 5]), ([6], [6]), ([3, 7], [3, 7]), ([8], [8])])
def laws_eqTimerS.B6 : List Nat := [0, 0, 3, 7, 0, 0, 48, 112, 255, 511]
theorem laws_eqTimerS.tab6 : rtab .any (opsOf Try.f30 6) = laws_eqTimerS.T6 := by kernel_rfl
theorem laws_eqTimerS.bits6 : waitsOk laws_eqTimerS.T6.2 laws_eqTimerS.B6 = true := by kernel_rfl
set_option maxHeartbeats 8000000 in
set_option maxRecDepth 100000 in
theorem laws_eqTimerS.calls (k : Nat) (A0 : Option Addr) (c0 : Nat) (l0 : List (S34)) (A1 : Option Addr) (c1 : Nat) (l1 : List (S34)) (r : Bool) (w : World) (hr0 : Kd.C k34 w A0 l0.length l0) (hc0 : l0.length ≤ c0) (hr1 : Kd.C k34 w A1 l1.length l1) (hc1 : l1.length ≤ c1) (h : laws_eqTimerS.f k l0 l1 = some r) :
  Calls Try.prog 30 #[.slice A0 l0.length c0, .slice A1 l1.length c1] w fun e w' => e = .returned (.bool r) ∧ Below w.heap.size w w' := by
 have hu34 := Try.underlying34
 have HR0 := Aside0.mk hr0
 have HC0 := Aside0.mk hc0
 clear hr0 hc0
 have HR1 := Aside0.mk hr1
 have HC1 := Aside0.mk hc1
 clear hr1 hc1
 have HB := Aside0.mk (Below.refl w.heap.size w)
 have H : (if (l0.length : Int) = (l1.length : Int) then (laws_eqTimerS.l0 k l0 l1 0) else (some false)) = some r := h
 clear h
 by_cases c3 : (l0.length : Int) = (l1.length : Int)
 ·rw [if_pos c3] at H
  have c3b0 : ((l0.length : Int) == (l1.length : Int)) = true := beq_iff_eq.mpr c3
  have c3b1 : ((l0.length : Int) != (l1.length : Int)) = false := bne_eq_false_iff_eq.mpr c3
  have c3b2 : (l0.length == l1.length) = true := by first | simpa using c3 | (simp at c3 ⊢; omega)
  clear c3
  have H' := Aside0.mk H
  clear H
  go_enter Try.func30, Try.ntmps30
  go_wp2
  go_loopg [5] k (fun kq v5 w' => ∃ (x5_1 : Int), v5 = .int .i64 x5_1 ∧ Aside0 (laws_eqTimerS.l0 kq l0 l1 x5_1 = some r) ∧ Aside0 (kq ≤ k) ∧ Aside0 (Below w.heap.size w w'))
  case atStart => exact ⟨(0), tE, H', ⟨Nat.le_refl _⟩, ⟨by repeat (first | (with_reducible first | exact HB.out | apply below_alloc | apply pw_below_drewN | apply below_drew1) | exact HB.out)⟩⟩
  case round =>
   clear H'
   try clear c1
   try clear p2
   try clear c3
   try clear c3b0
   try clear c3b1
   try clear c3b2
   obtain ⟨x5_1, rfl, HA, HK1, HB⟩ := hrel
   cases gk with
   | zero => exact absurd HA.out (by simp [laws_eqTimerS.l0])
   | succ k1 =>
    have H := HA.out
    clear HA
    simp only [laws_eqTimerS.l0] at H
    by_cases c4 : x5_1 < (l0.length : Int)
    ·rw [if_pos c4] at H
     have c4b0 : decide (x5_1 < (l0.length : Int)) = true := decide_eq_true c4
     clear c4
     by_cases c5 : 0 ≤ x5_1
     ·rw [if_pos c5] at H
      have c5b0 : decide (0 ≤ x5_1) = true := decide_eq_true c5
      clear c5
      by_cases c6 : x5_1 < (l1.length : Int)
      ·rw [if_pos c6] at H
       have c6b0 : decide (x5_1 < (l1.length : Int)) = true := decide_eq_true c6
       clear c6
       replace H := Option.bind_eq_some_iff.mp H
       obtain ⟨t199, A70, H⟩ := H
       replace H : (if t199 = true then (laws_eqTimerS.l0 k1 l0 l1 (wrap64 (x5_1 + 1))) else (some false)) = some r := H
       have A7 := Aside0.mk A70
       clear A70
       by_cases c8 : t199 = true
       ·subst c8
        have H1 : (laws_eqTimerS.l0 k1 l0 l1 (wrap64 (x5_1 + 1))) = some r := by rw [if_pos rfl] at H; exact H
        clear H
        have H := H1
        clear H1
        have H' := Aside0.mk H
        clear H
        try go_wp2
        replace HB := Aside0.mk (below_drew1 HB.out)
        have p197 : 0 ≤ (x5_1 : Int) := of_decide_eq_true hE
        have q197 : x5_1 < (l0.length : Int) := of_decide_eq_true hE
        obtain ⟨ad197, e197, hx197_0, hx197_1, hx197_2, hx197_3⟩ := at_T34 HR0.out x5_1 p197 q197
        have hw197_3 := hx197_3
        have hw197_2 := hx197_2
        have hw197_1 := hx197_1
        have hw197_0 := hx197_0
        cases e197
        replace hx197_0 := (HB.out.cell (World.block_lt_of_cell? w _ hx197_0)).trans hx197_0
        replace hx197_1 := (HB.out.cell (World.block_lt_of_cell? w _ hx197_1)).trans hx197_1
        replace hx197_2 := (HB.out.cell (World.block_lt_of_cell? w _ hx197_2)).trans hx197_2
        replace hx197_3 := (HB.out.cell (World.block_lt_of_cell? w _ hx197_3)).trans hx197_3
        replace p197 := eq_true p197
        replace q197 := eq_true q197
        have p198 : 0 ≤ (x5_1 : Int) := of_decide_eq_true hE
        have q198 : x5_1 < (l1.length : Int) := of_decide_eq_true hE
        obtain ⟨ad198, e198, hx198_0, hx198_1, hx198_2, hx198_3⟩ := at_T34 HR1.out x5_1 p198 q198
        have hw198_3 := hx198_3
        have hw198_2 := hx198_2
        have hw198_1 := hx198_1
        have hw198_0 := hx198_0
        cases e198
        replace hx198_0 := (HB.out.cell (World.block_lt_of_cell? w _ hx198_0)).trans hx198_0
        replace hx198_1 := (HB.out.cell (World.block_lt_of_cell? w _ hx198_1)).trans hx198_1
        replace hx198_2 := (HB.out.cell (World.block_lt_of_cell? w _ hx198_2)).trans hx198_2
        replace hx198_3 := (HB.out.cell (World.block_lt_of_cell? w _ hx198_3)).trans hx198_3
        replace p198 := eq_true p198
        replace q198 := eq_true q198
        refine start_ (n := 10) (S := fun w' => w'.cell? (ad197.add ((x5_1).toNat * 4)) = some (.int .i64 ((rd_T34 l0 x5_1).f0)) ∧ w'.cell? ⟨(ad197.add ((x5_1).toNat * 4)).block, (ad197.add ((x5_1).toNat * 4)).off + 1, none⟩ = some (.int .i64 ((rd_T34 l0 x5_1).f1)) ∧ w'.cell? ⟨(ad197.add ((x5_1).toNat * 4)).block, (ad197.add ((x5_1).toNat * 4)).off + 2, none⟩ = some (.int .i64 ((rd_T34 l0 x5_1).f2)) ∧ w'.cell? ⟨(ad197.add ((x5_1).toNat * 4)).block, (ad197.add ((x5_1).toNat * 4)).off + 3, none⟩ = some (.int .i64 ((rd_T34 l0 x5_1).f3)) ∧ w'.cell? (ad198.add ((x5_1).toNat * 4)) = some (.int .i64 ((rd_T34 l1 x5_1).f0)) ∧ w'.cell? ⟨(ad198.add ((x5_1).toNat * 4)).block, (ad198.add ((x5_1).toNat * 4)).off + 1, none⟩ = some (.int .i64 ((rd_T34 l1 x5_1).f1)) ∧ w'.cell? ⟨(ad198.add ((x5_1).toNat * 4)).block, (ad198.add ((x5_1).toNat * 4)).off + 2, none⟩ = some (.int .i64 ((rd_T34 l1 x5_1).f2)) ∧ w'.cell? ⟨(ad198.add ((x5_1).toNat * 4)).block, (ad198.add ((x5_1).toNat * 4)).off + 3, none⟩ = some (.int .i64 ((rd_T34 l1 x5_1).f3))) (ds := []) #[false, false, false, false, false, false, false, false, false, false] (by kernel_rfl) rfl rfl ⟨((HB.out.cell (World.block_lt_of_cell? w _ hw197_0)).trans hw197_0), ((HB.out.cell (World.block_lt_of_cell? w _ hw197_1)).trans hw197_1), ((HB.out.cell (World.block_lt_of_cell? w _ hw197_2)).trans hw197_2), ((HB.out.cell (World.block_lt_of_cell? w _ hw197_3)).trans hw197_3), ((HB.out.cell (World.block_lt_of_cell? w _ hw198_0)).trans hw198_0), ((HB.out.cell (World.block_lt_of_cell? w _ hw198_1)).trans hw198_1), ((HB.out.cell (World.block_lt_of_cell? w _ hw198_2)).trans hw198_2), ((HB.out.cell (World.block_lt_of_cell? w _ hw198_3)).trans hw198_3)⟩ (fun hHeld => ?_); refine with_tabW laws_eqTimerS.tab6 laws_eqTimerS.bits6 (fun HT_ HW_ => ?_)
        generalize wr.drew = w9 at HB hx197_0 hx197_1 hx197_2 hx197_3 hx198_0 hx198_1 hx198_2 hx198_3 hHeld ⊢
        refine pureA 0 17 (bz 10 1) rfl rfl (any_of HT_.out (by kernel_rfl)) ?_
        refine pureA 1 18 (bz 10 3) rfl rfl (any_of HT_.out (by kernel_rfl)) ?_
        refine pureA 2 19 (bz 10 7) rfl rfl (any_of HT_.out (by kernel_rfl)) ?_
        refine pureA 4 21 (bz 10 23) rfl rfl (any_of HT_.out (by kernel_rfl)) ?_
        refine pureA 5 22 (bz 10 55) rfl rfl (any_of HT_.out (by kernel_rfl)) ?_
        refine pureA 6 23 (bz 10 119) rfl rfl (any_of HT_.out (by kernel_rfl)) ?_
        refine takeA 3 20 (bz 10 127) rfl rfl (take_ofW HT_.out HW_.out (by kernel_rfl)) hHeld (by rintro w' ⟨s0, s1, s2, s3, s4, s5, s6, s7⟩; go_simp; with_reducible rfl) ?_
        refine takeA 7 24 (bz 10 255) rfl rfl (take_ofW HT_.out HW_.out (by kernel_rfl)) hHeld (by rintro w' ⟨s0, s1, s2, s3, s4, s5, s6, s7⟩; go_simp; with_reducible rfl) ?_
        refine one_ (i := 8) (N := some 25) (bz 10 511) rfl rfl (one_of HT_.out (by kernel_rfl)) (by decide) (fun K hK => ?_)
        refine goes_ Try.func58 (by kernel_rfl) rfl #[.agg #[.int .i64 ((rd_T34 l0 x5_1).f0), .int .i64 ((rd_T34 l0 x5_1).f1), .int .i64 ((rd_T34 l0 x5_1).f2), .int .i64 ((rd_T34 l0 x5_1).f3)], .agg #[.int .i64 ((rd_T34 l1 x5_1).f0), .int .i64 ((rd_T34 l1 x5_1).f1), .int .i64 ((rd_T34 l1 x5_1).f2), .int .i64 ((rd_T34 l1 x5_1).f3)]] (by rfl) rfl rfl aE ?_
        with_reducible refine (laws_eqTimer.calls ((rd_T34 l0 x5_1).f0) ((rd_T34 l0 x5_1).f1) ((rd_T34 l0 x5_1).f2) ((rd_T34 l0 x5_1).f3) ((rd_T34 l1 x5_1).f0) ((rd_T34 l1 x5_1).f1) ((rd_T34 l1 x5_1).f2) ((rd_T34 l1 x5_1).f3) true _ A7.out).mono ?_
        rintro e w10 ⟨rfl, hb⟩
        refine ⟨_, rfl, ?_⟩
        replace HB := bH (lU) hb
        (try clear hb)
        (try clear hb2)
        (try clear hk)
        (try clear hi)
        refine hK.out _ _ ⟨((HB.out.cell (World.block_lt_of_cell? w _ hw197_0)).trans hw197_0), ((HB.out.cell (World.block_lt_of_cell? w _ hw197_1)).trans hw197_1), ((HB.out.cell (World.block_lt_of_cell? w _ hw197_2)).trans hw197_2), ((HB.out.cell (World.block_lt_of_cell? w _ hw197_3)).trans hw197_3), ((HB.out.cell (World.block_lt_of_cell? w _ hw198_0)).trans hw198_0), ((HB.out.cell (World.block_lt_of_cell? w _ hw198_1)).trans hw198_1), ((HB.out.cell (World.block_lt_of_cell? w _ hw198_2)).trans hw198_2), ((HB.out.cell (World.block_lt_of_cell? w _ hw198_3)).trans hw198_3)⟩ (fun hHeld => ?_)
        clear hK K
        refine norm_ (a' := ?_) ?_ ?_
        rotate_left
        ·show Act.put _ (some 25) _ = _
         simp only [Act.put, List.setIfInBounds_toArray, List.set_cons_zero, List.set_cons_succ, i64_w, i32_w]
         rfl
        refine pureA 9 26 (bz 10 1023) rfl rfl (any_of HT_.out (by kernel_rfl)) ?_
        refine done_ (done_of HT_.out (by kernel_rfl)) ?_
        try go_wp2
        go_roundg k1
        case measure => have := HK1.out; omega
        case rel => exact ⟨(wrap64 (x5_1 + 1)), tE, H', ⟨by have := HK1.out; omega⟩, ⟨by repeat (first | (with_reducible first | exact HB.out | apply below_alloc | apply pw_below_drewN | apply below_drew1) | exact HB.out)⟩⟩
       ·replace c8 := Bool.eq_false_iff.mpr c8
        subst c8
        have H1 : (some false) = some r := by rw [if_neg (show ¬ (false = true) by decide)] at H; exact H
        clear H
        have H := H1
        clear H1
        obtain rfl := Option.some.inj H
        try go_wp2
        replace HB := Aside0.mk (below_drew1 HB.out)
        have p197 : 0 ≤ (x5_1 : Int) := of_decide_eq_true hE
        have q197 : x5_1 < (l0.length : Int) := of_decide_eq_true hE
        obtain ⟨ad197, e197, hx197_0, hx197_1, hx197_2, hx197_3⟩ := at_T34 HR0.out x5_1 p197 q197
        have hw197_3 := hx197_3
        have hw197_2 := hx197_2
        have hw197_1 := hx197_1
        have hw197_0 := hx197_0
        cases e197
        replace hx197_0 := (HB.out.cell (World.block_lt_of_cell? w _ hx197_0)).trans hx197_0
        replace hx197_1 := (HB.out.cell (World.block_lt_of_cell? w _ hx197_1)).trans hx197_1
        replace hx197_2 := (HB.out.cell (World.block_lt_of_cell? w _ hx197_2)).trans hx197_2
        replace hx197_3 := (HB.out.cell (World.block_lt_of_cell? w _ hx197_3)).trans hx197_3
        replace p197 := eq_true p197
        replace q197 := eq_true q197
        have p198 : 0 ≤ (x5_1 : Int) := of_decide_eq_true hE
        have q198 : x5_1 < (l1.length : Int) := of_decide_eq_true hE
        obtain ⟨ad198, e198, hx198_0, hx198_1, hx198_2, hx198_3⟩ := at_T34 HR1.out x5_1 p198 q198
        have hw198_3 := hx198_3
        have hw198_2 := hx198_2
        have hw198_1 := hx198_1
        have hw198_0 := hx198_0
        cases e198
        replace hx198_0 := (HB.out.cell (World.block_lt_of_cell? w _ hx198_0)).trans hx198_0
        replace hx198_1 := (HB.out.cell (World.block_lt_of_cell? w _ hx198_1)).trans hx198_1
        replace hx198_2 := (HB.out.cell (World.block_lt_of_cell? w _ hx198_2)).trans hx198_2
        replace hx198_3 := (HB.out.cell (World.block_lt_of_cell? w _ hx198_3)).trans hx198_3
        replace p198 := eq_true p198
        replace q198 := eq_true q198
        refine start_ (n := 10) (S := fun w' => w'.cell? (ad197.add ((x5_1).toNat * 4)) = some (.int .i64 ((rd_T34 l0 x5_1).f0)) ∧ w'.cell? ⟨(ad197.add ((x5_1).toNat * 4)).block, (ad197.add ((x5_1).toNat * 4)).off + 1, none⟩ = some (.int .i64 ((rd_T34 l0 x5_1).f1)) ∧ w'.cell? ⟨(ad197.add ((x5_1).toNat * 4)).block, (ad197.add ((x5_1).toNat * 4)).off + 2, none⟩ = some (.int .i64 ((rd_T34 l0 x5_1).f2)) ∧ w'.cell? ⟨(ad197.add ((x5_1).toNat * 4)).block, (ad197.add ((x5_1).toNat * 4)).off + 3, none⟩ = some (.int .i64 ((rd_T34 l0 x5_1).f3)) ∧ w'.cell? (ad198.add ((x5_1).toNat * 4)) = some (.int .i64 ((rd_T34 l1 x5_1).f0)) ∧ w'.cell? ⟨(ad198.add ((x5_1).toNat * 4)).block, (ad198.add ((x5_1).toNat * 4)).off + 1, none⟩ = some (.int .i64 ((rd_T34 l1 x5_1).f1)) ∧ w'.cell? ⟨(ad198.add ((x5_1).toNat * 4)).block, (ad198.add ((x5_1).toNat * 4)).off + 2, none⟩ = some (.int .i64 ((rd_T34 l1 x5_1).f2)) ∧ w'.cell? ⟨(ad198.add ((x5_1).toNat * 4)).block, (ad198.add ((x5_1).toNat * 4)).off + 3, none⟩ = some (.int .i64 ((rd_T34 l1 x5_1).f3))) (ds := []) #[false, false, false, false, false, false, false, false, false, false] (by kernel_rfl) rfl rfl ⟨((HB.out.cell (World.block_lt_of_cell? w _ hw197_0)).trans hw197_0), ((HB.out.cell (World.block_lt_of_cell? w _ hw197_1)).trans hw197_1), ((HB.out.cell (World.block_lt_of_cell? w _ hw197_2)).trans hw197_2), ((HB.out.cell (World.block_lt_of_cell? w _ hw197_3)).trans hw197_3), ((HB.out.cell (World.block_lt_of_cell? w _ hw198_0)).trans hw198_0), ((HB.out.cell (World.block_lt_of_cell? w _ hw198_1)).trans hw198_1), ((HB.out.cell (World.block_lt_of_cell? w _ hw198_2)).trans hw198_2), ((HB.out.cell (World.block_lt_of_cell? w _ hw198_3)).trans hw198_3)⟩ (fun hHeld => ?_); refine with_tabW laws_eqTimerS.tab6 laws_eqTimerS.bits6 (fun HT_ HW_ => ?_)
        generalize wr.drew = w11 at HB hx197_0 hx197_1 hx197_2 hx197_3 hx198_0 hx198_1 hx198_2 hx198_3 hHeld ⊢
        refine pureA 0 17 (bz 10 1) rfl rfl (any_of HT_.out (by kernel_rfl)) ?_
        refine pureA 1 18 (bz 10 3) rfl rfl (any_of HT_.out (by kernel_rfl)) ?_
        refine pureA 2 19 (bz 10 7) rfl rfl (any_of HT_.out (by kernel_rfl)) ?_
        refine pureA 4 21 (bz 10 23) rfl rfl (any_of HT_.out (by kernel_rfl)) ?_
        refine pureA 5 22 (bz 10 55) rfl rfl (any_of HT_.out (by kernel_rfl)) ?_
        refine pureA 6 23 (bz 10 119) rfl rfl (any_of HT_.out (by kernel_rfl)) ?_
        refine takeA 3 20 (bz 10 127) rfl rfl (take_ofW HT_.out HW_.out (by kernel_rfl)) hHeld (by rintro w' ⟨s0, s1, s2, s3, s4, s5, s6, s7⟩; go_simp; with_reducible rfl) ?_
        refine takeA 7 24 (bz 10 255) rfl rfl (take_ofW HT_.out HW_.out (by kernel_rfl)) hHeld (by rintro w' ⟨s0, s1, s2, s3, s4, s5, s6, s7⟩; go_simp; with_reducible rfl) ?_
        refine one_ (i := 8) (N := some 25) (bz 10 511) rfl rfl (one_of HT_.out (by kernel_rfl)) (by decide) (fun K hK => ?_)
        refine goes_ Try.func58 (by kernel_rfl) rfl #[.agg #[.int .i64 ((rd_T34 l0 x5_1).f0), .int .i64 ((rd_T34 l0 x5_1).f1), .int .i64 ((rd_T34 l0 x5_1).f2), .int .i64 ((rd_T34 l0 x5_1).f3)], .agg #[.int .i64 ((rd_T34 l1 x5_1).f0), .int .i64 ((rd_T34 l1 x5_1).f1), .int .i64 ((rd_T34 l1 x5_1).f2), .int .i64 ((rd_T34 l1 x5_1).f3)]] (by rfl) rfl rfl aE ?_
        with_reducible refine (laws_eqTimer.calls ((rd_T34 l0 x5_1).f0) ((rd_T34 l0 x5_1).f1) ((rd_T34 l0 x5_1).f2) ((rd_T34 l0 x5_1).f3) ((rd_T34 l1 x5_1).f0) ((rd_T34 l1 x5_1).f1) ((rd_T34 l1 x5_1).f2) ((rd_T34 l1 x5_1).f3) false _ A7.out).mono ?_
        rintro e w12 ⟨rfl, hb⟩
        refine ⟨_, rfl, ?_⟩
        replace HB := bH (lU) hb
        (try clear hb)
        (try clear hb2)
        (try clear hk)
        (try clear hi)
        refine hK.out _ _ ⟨((HB.out.cell (World.block_lt_of_cell? w _ hw197_0)).trans hw197_0), ((HB.out.cell (World.block_lt_of_cell? w _ hw197_1)).trans hw197_1), ((HB.out.cell (World.block_lt_of_cell? w _ hw197_2)).trans hw197_2), ((HB.out.cell (World.block_lt_of_cell? w _ hw197_3)).trans hw197_3), ((HB.out.cell (World.block_lt_of_cell? w _ hw198_0)).trans hw198_0), ((HB.out.cell (World.block_lt_of_cell? w _ hw198_1)).trans hw198_1), ((HB.out.cell (World.block_lt_of_cell? w _ hw198_2)).trans hw198_2), ((HB.out.cell (World.block_lt_of_cell? w _ hw198_3)).trans hw198_3)⟩ (fun hHeld => ?_)
        clear hK K
        refine norm_ (a' := ?_) ?_ ?_
        rotate_left
        ·show Act.put _ (some 25) _ = _
         simp only [Act.put, List.setIfInBounds_toArray, List.set_cons_zero, List.set_cons_succ, i64_w, i32_w]
         rfl
        refine pureA 9 26 (bz 10 1023) rfl rfl (any_of HT_.out (by kernel_rfl)) ?_
        refine done_ (done_of HT_.out (by kernel_rfl)) ?_
        try go_wp2
        go_ret
        exact ⟨eE, lU⟩
      ·rw [if_neg c6] at H
       exact absurd H (by simp)
     ·rw [if_neg c5] at H
      exact absurd H (by simp)
    ·rw [if_neg c4] at H
     have c4b0 : decide (x5_1 < (l0.length : Int)) = false := decide_eq_false c4
     clear c4
     obtain rfl := Option.some.inj H
     go_wp2
     go_ret
     exact ⟨eE, lU⟩
 ·rw [if_neg c3] at H
  have c3b0 : ((l0.length : Int) == (l1.length : Int)) = false := beq_eq_false_iff_ne.mpr c3
  have c3b1 : ((l0.length : Int) != (l1.length : Int)) = true := bne_iff_ne.mpr c3
  have c3b2 : (l0.length == l1.length) = false := by first | simpa using c3 | (simp at c3 ⊢; omega)
  obtain rfl := Option.some.inj H
  go_enter Try.func30, Try.ntmps30
  go_wp2
  go_ret
  exact ⟨eE, lU⟩
def laws_eqClock.f (k : Nat) (a0_0 : Int) (l0_1 : List (S34)) (a1_0 : Int) (l1_1 : List (S34)) : Option (Bool) := if a0_0 = a1_0 then ((laws_eqTimerS.f k l0_1 l1_1).bind fun t202 => (if t202 = true then (some true) else (some false))) else (some false)
theorem laws_eqClock.mono : ∀ a0 a1 a2 a3 k, LeO (laws_eqClock.f k a0 a1 a2 a3) (laws_eqClock.f (k + 1) a0 a1 a2 a3) := by
 intro a0 a1 a2 a3 k
 unfold laws_eqClock.f
 repeat' first
   | (with_reducible exact laws_eqTimerS.mono _ _ _)
   | (with_reducible exact LeO.refl _)
   | (with_reducible exact LeO.none _)
   | (with_reducible refine LeO.ite ?_ ?_)
   | (with_reducible refine LeO.bind ?_ (fun _ => ?_))
   | exact laws_eqTimerS.mono _ _ _
   | exact LeO.none _
   | refine LeO.ite ?_ ?_
   | refine LeO.bind ?_ (fun _ => ?_)
set_option maxHeartbeats 8000000 in
set_option maxRecDepth 100000 in
theorem laws_eqClock.calls (k : Nat) (a0_0 : Int) (A0_1 : Option Addr) (c0_1 : Nat) (l0_1 : List (S34)) (a1_0 : Int) (A1_1 : Option Addr) (c1_1 : Nat) (l1_1 : List (S34)) (r : Bool) (w : World) (hr0_1 : Kd.C k34 w A0_1 l0_1.length l0_1) (hc0_1 : l0_1.length ≤ c0_1) (hr1_1 : Kd.C k34 w A1_1 l1_1.length l1_1) (hc1_1 : l1_1.length ≤ c1_1) (h : laws_eqClock.f k a0_0 l0_1 a1_0 l1_1 = some r) :
  Calls Try.prog 11 #[.agg #[.int .i64 a0_0, .slice A0_1 l0_1.length c0_1], .agg #[.int .i64 a1_0, .slice A1_1 l1_1.length c1_1]] w fun e w' => e = .returned (.bool r) ∧ Below w.heap.size w w' := by
 have hu30 := Try.underlying30
 have HR0_1 := Aside0.mk hr0_1
 have HC0_1 := Aside0.mk hc0_1
 clear hr0_1 hc0_1
 have HR1_1 := Aside0.mk hr1_1
 have HC1_1 := Aside0.mk hc1_1
 clear hr1_1 hc1_1
 have HB := Aside0.mk (Below.refl w.heap.size w)
 have H : (if a0_0 = a1_0 then ((laws_eqTimerS.f k l0_1 l1_1).bind fun t202 => (if t202 = true then (some true) else (some false))) else (some false)) = some r := h
 clear h
 by_cases c3 : a0_0 = a1_0
 ·rw [if_pos c3] at H
  have c3b0 : (a0_0 == a1_0) = true := beq_iff_eq.mpr c3
  have c3b1 : (a0_0 != a1_0) = false := bne_eq_false_iff_eq.mpr c3
  clear c3
  replace H := Option.bind_eq_some_iff.mp H
  obtain ⟨t202, A40, H⟩ := H
  replace H : (if t202 = true then (some true) else (some false)) = some r := H
  have A4 := Aside0.mk A40
  clear A40
  by_cases c5 : t202 = true
  ·subst c5
   have H1 : (some true) = some r := by rw [if_pos rfl] at H; exact H
   clear H
   have H := H1
   clear H1
   obtain rfl := Option.some.inj H
   go_enter Try.func11, Try.ntmps11
   go_wp2_with (first | ((with_reducible refine gate_dst (N := 2) rfl ?_); refine box_event rfl (N := 2) rfl (cs := #[.int .i64 a0_0, .slice A0_1 l0_1.length c0_1]) (t := 30) sE ?_; intro gb200 hg w6 hbox hb; have BK200 := Aside0.mk hbox; have GW200 := gS w hg (lU); have GE200 := gS w hg (lU); replace HB := bH (lU) hb; clear hb hbox hg) | ((with_reducible refine gate_dst (N := 3) rfl ?_); refine box_event rfl (N := 3) rfl (cs := #[.int .i64 a1_0, .slice A1_1 l1_1.length c1_1]) (t := 30) sE ?_; intro gb201 hg w7 hbox hb; have BK201 := Aside0.mk hbox; have GW201 := gS w hg (lV1 GE200); have GE201 := gS w hg (lV1 GE200); replace HB := bH (lV1 GE200) hb; have NB200_201 := nL hg (bV BK200); have NB201_200 := nG hg (bV BK200); replace BK200 := bB (bV BK200) hb; clear hb hbox hg; have hnb8 := NB200_201.out; have hnc8 := NB201_200.out; have hcz9_0 := cz BK200 0 (.int .i64 a0_0); have hcz9_1 := cz BK200 1 (.slice A0_1 l0_1.length c0_1); have hfz9_0 := fz BK200 0; have hfz9_1 := fz BK200 1; have hcz10_0 := cz BK201 0 (.int .i64 a1_0); have hcz10_1 := cz BK201 1 (.slice A1_1 l1_1.length c1_1); have hfz10_0 := fz BK201 0; have hfz10_1 := fz BK201 1) | ((with_reducible refine gate_callee (f := 30) rfl ?_); refine goesL_ (some 14) rfl rfl Try.func30 (by kernel_rfl) rfl #[.slice A0_1 l0_1.length c0_1, .slice A1_1 l1_1.length c1_1] rfl aE ?_; (with_reducible refine (laws_eqTimerS.calls k _ _ l0_1 _ _ l1_1 true _ ?side1 ?side2 ?side3 ?side4 A4.out).mono ?_); (case side1 => exact cU (Kd.C_below HR0_1.out HB.out)); (case side2 => exact HC0_1.out); (case side3 => exact cU (Kd.C_below HR1_1.out HB.out)); (case side4 => exact HC1_1.out); rintro e w11 ⟨rfl, hb⟩; refine ⟨_, rfl, ?_⟩; replace BK200 := bB (bV BK200) hb; replace BK201 := bB (bV BK201) hb; replace HB := bH (lV2 GE200 GE201) hb; (try clear hb)))
   go_ret
   exact ⟨eE, lV2 GE200 GE201⟩
  ·replace c5 := Bool.eq_false_iff.mpr c5
   subst c5
   have H1 : (some false) = some r := by rw [if_neg (show ¬ (false = true) by decide)] at H; exact H
   clear H
   have H := H1
   clear H1
   obtain rfl := Option.some.inj H
   go_enter Try.func11, Try.ntmps11
   go_wp2_with (first | ((with_reducible refine gate_dst (N := 2) rfl ?_); refine box_event rfl (N := 2) rfl (cs := #[.int .i64 a0_0, .slice A0_1 l0_1.length c0_1]) (t := 30) sE ?_; intro gb200 hg w12 hbox hb; have BK200 := Aside0.mk hbox; have GW200 := gS w hg (lU); have GE200 := gS w hg (lU); replace HB := bH (lU) hb; clear hb hbox hg) | ((with_reducible refine gate_dst (N := 3) rfl ?_); refine box_event rfl (N := 3) rfl (cs := #[.int .i64 a1_0, .slice A1_1 l1_1.length c1_1]) (t := 30) sE ?_; intro gb201 hg w13 hbox hb; have BK201 := Aside0.mk hbox; have GW201 := gS w hg (lV1 GE200); have GE201 := gS w hg (lV1 GE200); replace HB := bH (lV1 GE200) hb; have NB200_201 := nL hg (bV BK200); have NB201_200 := nG hg (bV BK200); replace BK200 := bB (bV BK200) hb; clear hb hbox hg; have hnb14 := NB200_201.out; have hnc14 := NB201_200.out; have hcz15_0 := cz BK200 0 (.int .i64 a0_0); have hcz15_1 := cz BK200 1 (.slice A0_1 l0_1.length c0_1); have hfz15_0 := fz BK200 0; have hfz15_1 := fz BK200 1; have hcz16_0 := cz BK201 0 (.int .i64 a1_0); have hcz16_1 := cz BK201 1 (.slice A1_1 l1_1.length c1_1); have hfz16_0 := fz BK201 0; have hfz16_1 := fz BK201 1) | ((with_reducible refine gate_callee (f := 30) rfl ?_); refine goesL_ (some 14) rfl rfl Try.func30 (by kernel_rfl) rfl #[.slice A0_1 l0_1.length c0_1, .slice A1_1 l1_1.length c1_1] rfl aE ?_; (with_reducible refine (laws_eqTimerS.calls k _ _ l0_1 _ _ l1_1 false _ ?side1 ?side2 ?side3 ?side4 A4.out).mono ?_); (case side1 => exact cU (Kd.C_below HR0_1.out HB.out)); (case side2 => exact HC0_1.out); (case side3 => exact cU (Kd.C_below HR1_1.out HB.out)); (case side4 => exact HC1_1.out); rintro e w17 ⟨rfl, hb⟩; refine ⟨_, rfl, ?_⟩; replace BK200 := bB (bV BK200) hb; replace BK201 := bB (bV BK201) hb; replace HB := bH (lV2 GE200 GE201) hb; (try clear hb)))
   go_ret
   exact ⟨eE, lV2 GE200 GE201⟩
 ·rw [if_neg c3] at H
  have c3b0 : (a0_0 == a1_0) = false := beq_eq_false_iff_ne.mpr c3
  have c3b1 : (a0_0 != a1_0) = true := bne_iff_ne.mpr c3
  obtain rfl := Option.some.inj H
  go_enter Try.func11, Try.ntmps11
  go_wp2_with (first | ((with_reducible refine gate_dst (N := 2) rfl ?_); refine box_event rfl (N := 2) rfl (cs := #[.int .i64 a0_0, .slice A0_1 l0_1.length c0_1]) (t := 30) sE ?_; intro gb200 hg w18 hbox hb; have BK200 := Aside0.mk hbox; have GW200 := gS w hg (lU); have GE200 := gS w hg (lU); replace HB := bH (lU) hb; clear hb hbox hg) | ((with_reducible refine gate_dst (N := 3) rfl ?_); refine box_event rfl (N := 3) rfl (cs := #[.int .i64 a1_0, .slice A1_1 l1_1.length c1_1]) (t := 30) sE ?_; intro gb201 hg w19 hbox hb; have BK201 := Aside0.mk hbox; have GW201 := gS w hg (lV1 GE200); have GE201 := gS w hg (lV1 GE200); replace HB := bH (lV1 GE200) hb; have NB200_201 := nL hg (bV BK200); have NB201_200 := nG hg (bV BK200); replace BK200 := bB (bV BK200) hb; clear hb hbox hg; have hnb20 := NB200_201.out; have hnc20 := NB201_200.out; have hcz21_0 := cz BK200 0 (.int .i64 a0_0); have hcz21_1 := cz BK200 1 (.slice A0_1 l0_1.length c0_1); have hfz21_0 := fz BK200 0; have hfz21_1 := fz BK200 1; have hcz22_0 := cz BK201 0 (.int .i64 a1_0); have hcz22_1 := cz BK201 1 (.slice A1_1 l1_1.length c1_1); have hfz22_0 := fz BK201 0; have hfz22_1 := fz BK201 1))
  go_ret
  exact ⟨eE, lV2 GE200 GE201⟩
def laws_markTimerS.l0 : Nat → List (S34) → Int → Int → Option (Int × (List (S34)))
 | 0, _, _, _ => none
 | k + 1, x0, x1, x5 => if x5 < (x0.length : Int) then (if 0 ≤ x5 then ((some (x0.set (x5 : Int).toNat (⟨x1, (rd_T34 x0 x5).f1, (rd_T34 x0 x5).f2, (rd_T34 x0 x5).f3⟩ : S34) : List (S34))).bind fun y203 => ((some (y203.set (x5 : Int).toNat (⟨(rd_T34 y203 x5).f0, wrap64 (x1 + 1), (rd_T34 y203 x5).f2, (rd_T34 y203 x5).f3⟩ : S34) : List (S34))).bind fun y204 => ((some (y204.set (x5 : Int).toNat (⟨(rd_T34 y204 x5).f0, (rd_T34 y204 x5).f1, wrap64 ((wrap64 (x1 + 1)) + 1), (rd_T34 y204 x5).f3⟩ : S34) : List (S34))).bind fun y205 => (laws_markTimerS.l0 k (y205.set (x5 : Int).toNat (⟨(rd_T34 y205 x5).f0, (rd_T34 y205 x5).f1, (rd_T34 y205 x5).f2, wrap64 ((wrap64 ((wrap64 (x1 + 1)) + 1)) + 1)⟩ : S34)) (wrap64 ((wrap64 ((wrap64 ((wrap64 (x1 + 1)) + 1)) + 1)) + 1)) (wrap64 (x5 + 1)))))) else (none)) else (some (x1, x0))
def laws_markTimerS.f (k : Nat) (l0 : List (S34)) (a1 : Int) : Option (Int × (List (S34))) := laws_markTimerS.l0 k l0 a1 0
theorem laws_markTimerS.mono_l : ∀ k, (∀ y0 y1 y2, LeO (laws_markTimerS.l0 k y0 y1 y2) (laws_markTimerS.l0 (k + 1) y0 y1 y2))
 | 0 => fun _ _ _ r h => by simp [laws_markTimerS.l0] at h
 | k + 1 => by
  have ih0 := laws_markTimerS.mono_l k
  ·intro y0 y1 y2
   unfold laws_markTimerS.l0
   repeat' first
   | (with_reducible exact ih0 _ _ _)
   | (with_reducible exact LeO.refl _)
   | (with_reducible exact LeO.none _)
   | (with_reducible refine LeO.ite ?_ ?_)
   | (with_reducible refine LeO.bind ?_ (fun _ => ?_))
   | exact ih0 _ _ _
   | exact LeO.none _
   | refine LeO.ite ?_ ?_
   | refine LeO.bind ?_ (fun _ => ?_)
theorem laws_markTimerS.mono : ∀ a0 a1 k, LeO (laws_markTimerS.f k a0 a1) (laws_markTimerS.f (k + 1) a0 a1) := by
 intro a0 a1 k
 have ih0 := laws_markTimerS.mono_l k
 unfold laws_markTimerS.f
 repeat' first
   | (with_reducible exact ih0 _ _ _)
   | (with_reducible exact LeO.refl _)
   | (with_reducible exact LeO.none _)
   | (with_reducible refine LeO.ite ?_ ?_)
   | (with_reducible refine LeO.bind ?_ (fun _ => ?_))
   | exact ih0 _ _ _
   | exact LeO.none _
   | refine LeO.ite ?_ ?_
   | refine LeO.bind ?_ (fun _ => ?_)
set_option maxHeartbeats 8000000 in
set_option maxRecDepth 100000 in
theorem laws_markTimerS.calls (k : Nat) (P0_ : Nat → Prop) (u9000_ : Value) (l0 : List (S34)) (a1 : Int) (r1 : Int) (r2 : List (S34)) (w0 w : World) (hB : Below w0.heap.size w0 w) (ho0 : Kd.R k34 34 w w0.heap.size P0_ u9000_ l0) (h : laws_markTimerS.f k l0 a1 = some (r1, r2)) :
  Calls Try.prog 31 #[u9000_, .int .i64 a1] w fun e w' => e = .returned (.int .i64 r1) ∧ Kd.R k34 34 w' w0.heap.size (fun k_ => (P0_ k_ ∨ w.heap.size ≤ k_)) u9000_ r2 ∧ Below w0.heap.size w0 w' ∧ Kept w w' (fun k_ => P0_ k_) := by
 have HO0 := Aside0.mk (show Kd.R k34 34 w w0.heap.size (fun k_ => (P0_ k_ ∨ w.heap.size ≤ k_)) u9000_ l0 from Kd.R_mono ho0 (fun k_ hk => (.inl hk)))
 have HK := Aside0.mk (Kept.refl w (fun k_ => P0_ k_))
 have HW0 := Aside0.mk hB.size
 have HB := Aside0.mk hB
 clear hB
 have H : (laws_markTimerS.l0 k l0 a1 0) = some (r1, r2) := h
 clear h
 have H' := Aside0.mk H
 clear H
 go_enter Try.func31, Try.ntmps31
 go_wp2
 go_loopg [1, 5] k (fun kq v1 v5 w' => ∃ (x0_1 : List (S34)) (x1_1 : Int) (x5_1 : Int), v1 = .int .i64 x1_1 ∧ v5 = .int .i64 x5_1 ∧ Aside0 (laws_markTimerS.l0 kq x0_1 x1_1 x5_1 = some (r1, r2)) ∧ Aside0 (kq ≤ k) ∧ Aside0 (Kd.R k34 34 w' w0.heap.size (fun k_ => (P0_ k_ ∨ w.heap.size ≤ k_)) u9000_ x0_1) ∧ Aside0 (Kept w w' (fun k_ => P0_ k_)) ∧ Aside0 (Below w0.heap.size w0 w'))
 case atStart => exact ⟨(l0), (a1), (0), tE, tE, H', ⟨Nat.le_refl _⟩, ⟨by (with_reducible repeat (first | apply Kd.R_alloc | apply Kd.R_drewN | apply Kd.R_drew)); exact HO0.out⟩, ⟨by repeat (first | (with_reducible first | exact HK.out | apply Kept.alloc | apply Kept.drewN | apply Kept.drew) | exact HK.out)⟩, ⟨by repeat (first | (with_reducible first | exact HB.out | apply below_alloc | apply pw_below_drewN | apply below_drew1) | exact HB.out)⟩⟩
 case round =>
  clear H'
  try clear p2
  obtain ⟨x0_1, x1_1, x5_1, rfl, rfl, HA, HK1, HO_0, HK, HB⟩ := hrel
  cases gk with
  | zero => exact absurd HA.out (by simp [laws_markTimerS.l0])
  | succ k1 =>
   have H := HA.out
   clear HA
   simp only [laws_markTimerS.l0] at H
   by_cases c3 : x5_1 < (x0_1.length : Int)
   ·rw [if_pos c3] at H
    have c3b0 : decide (x5_1 < (x0_1.length : Int)) = true := decide_eq_true c3
    clear c3
    by_cases c4 : 0 ≤ x5_1
    ·rw [if_pos c4] at H
     have c4b0 : decide (0 ≤ x5_1) = true := decide_eq_true c4
     clear c4
     obtain ⟨y203, hy203⟩ : ∃ y_ : List (S34), y_ = (x0_1.set (x5_1 : Int).toNat (⟨x1_1, (rd_T34 x0_1 x5_1).f1, (rd_T34 x0_1 x5_1).f2, (rd_T34 x0_1 x5_1).f3⟩ : S34)) := ⟨_, rfl⟩
     replace H : ((some (y203.set (x5_1 : Int).toNat (⟨(rd_T34 y203 x5_1).f0, wrap64 (x1_1 + 1), (rd_T34 y203 x5_1).f2, (rd_T34 y203 x5_1).f3⟩ : S34) : List (S34))).bind fun y204 => ((some (y204.set (x5_1 : Int).toNat (⟨(rd_T34 y204 x5_1).f0, (rd_T34 y204 x5_1).f1, wrap64 ((wrap64 (x1_1 + 1)) + 1), (rd_T34 y204 x5_1).f3⟩ : S34) : List (S34))).bind fun y205 => (laws_markTimerS.l0 k1 (y205.set (x5_1 : Int).toNat (⟨(rd_T34 y205 x5_1).f0, (rd_T34 y205 x5_1).f1, (rd_T34 y205 x5_1).f2, wrap64 ((wrap64 ((wrap64 (x1_1 + 1)) + 1)) + 1)⟩ : S34)) (wrap64 ((wrap64 ((wrap64 ((wrap64 (x1_1 + 1)) + 1)) + 1)) + 1)) (wrap64 (x5_1 + 1))))) = some (r1, r2) := by first | (rw [hy203]; with_reducible exact H) | (have H2_ := (Option.bind_some _ _).symm.trans H; rw [hy203]; with_reducible exact H2_) | (have H2_ := (Option.bind_some _ _).symm.trans H; with_reducible exact H2_) | with_reducible exact H | (rw [hy203]; exact H) | exact H
     have Ny203 := Aside0.mk hy203
     clear hy203
     obtain ⟨y204, hy204⟩ : ∃ y_ : List (S34), y_ = (y203.set (x5_1 : Int).toNat (⟨(rd_T34 y203 x5_1).f0, wrap64 (x1_1 + 1), (rd_T34 y203 x5_1).f2, (rd_T34 y203 x5_1).f3⟩ : S34)) := ⟨_, rfl⟩
     replace H : ((some (y204.set (x5_1 : Int).toNat (⟨(rd_T34 y204 x5_1).f0, (rd_T34 y204 x5_1).f1, wrap64 ((wrap64 (x1_1 + 1)) + 1), (rd_T34 y204 x5_1).f3⟩ : S34) : List (S34))).bind fun y205 => (laws_markTimerS.l0 k1 (y205.set (x5_1 : Int).toNat (⟨(rd_T34 y205 x5_1).f0, (rd_T34 y205 x5_1).f1, (rd_T34 y205 x5_1).f2, wrap64 ((wrap64 ((wrap64 (x1_1 + 1)) + 1)) + 1)⟩ : S34)) (wrap64 ((wrap64 ((wrap64 ((wrap64 (x1_1 + 1)) + 1)) + 1)) + 1)) (wrap64 (x5_1 + 1)))) = some (r1, r2) := by first | (rw [hy204]; with_reducible exact H) | (have H2_ := (Option.bind_some _ _).symm.trans H; rw [hy204]; with_reducible exact H2_) | (have H2_ := (Option.bind_some _ _).symm.trans H; with_reducible exact H2_) | with_reducible exact H | (rw [hy204]; exact H) | exact H
     have Ny204 := Aside0.mk hy204
     clear hy204
     obtain ⟨y205, hy205⟩ : ∃ y_ : List (S34), y_ = (y204.set (x5_1 : Int).toNat (⟨(rd_T34 y204 x5_1).f0, (rd_T34 y204 x5_1).f1, wrap64 ((wrap64 (x1_1 + 1)) + 1), (rd_T34 y204 x5_1).f3⟩ : S34)) := ⟨_, rfl⟩
     replace H : (laws_markTimerS.l0 k1 (y205.set (x5_1 : Int).toNat (⟨(rd_T34 y205 x5_1).f0, (rd_T34 y205 x5_1).f1, (rd_T34 y205 x5_1).f2, wrap64 ((wrap64 ((wrap64 (x1_1 + 1)) + 1)) + 1)⟩ : S34)) (wrap64 ((wrap64 ((wrap64 ((wrap64 (x1_1 + 1)) + 1)) + 1)) + 1)) (wrap64 (x5_1 + 1))) = some (r1, r2) := by first | (rw [hy205]; with_reducible exact H) | (have H2_ := (Option.bind_some _ _).symm.trans H; rw [hy205]; with_reducible exact H2_) | (have H2_ := (Option.bind_some _ _).symm.trans H; with_reducible exact H2_) | with_reducible exact H | (rw [hy205]; exact H) | exact H
     have Ny205 := Aside0.mk hy205
     clear hy205
     obtain ⟨y206, hy206⟩ : ∃ y_ : List (S34), y_ = (y205.set (x5_1 : Int).toNat (⟨(rd_T34 y205 x5_1).f0, (rd_T34 y205 x5_1).f1, (rd_T34 y205 x5_1).f2, wrap64 ((wrap64 ((wrap64 (x1_1 + 1)) + 1)) + 1)⟩ : S34)) := ⟨_, rfl⟩
     replace H : (laws_markTimerS.l0 k1 y206 (wrap64 ((wrap64 ((wrap64 ((wrap64 (x1_1 + 1)) + 1)) + 1)) + 1)) (wrap64 (x5_1 + 1))) = some (r1, r2) := by first | (rw [hy206]; with_reducible exact H) | (have H2_ := (Option.bind_some _ _).symm.trans H; rw [hy206]; with_reducible exact H2_) | (have H2_ := (Option.bind_some _ _).symm.trans H; with_reducible exact H2_) | with_reducible exact H | (rw [hy206]; exact H) | exact H
     have Ny206 := Aside0.mk hy206
     clear hy206
     have H' := Aside0.mk H
     clear H
     obtain ⟨Ao9, co9, eo9⟩ := Kd.R_slice HO_0.out
     subst eo9
     have p5 : 0 ≤ (x5_1 : Int) := of_decide_eq_true hE
     have q5 : (x5_1 : Int) < ((x0_1.length : Int) : Int) := of_decide_eq_true hE
     obtain ⟨go5, co5, eo5, gb5, gl5, cl5, HG5⟩ := Kd.R_form HO_0.out (by omega)
     (first | cases eo5 | (injection eo5 with ea_ en_ ec_; (first | subst ea_ | (injection ea_ with ea_; subst ea_)); subst ec_; clear en_))
     have GB5 := Aside0.mk gb5
     have GG5 := Aside0.mk HG5
     clear gb5 gl5 HG5
     have HMgo5 := Aside0.mk (show (P0_ go5 ∨ w.heap.size ≤ go5) from (HO_0.out.1 _ rfl))
     obtain ⟨ce5, hcl5, hM5, hcc5, hfr5⟩ := Kd.R_elem HO_0.out z34 (x5_1 : Int) p5 q5
     obtain rfl := k34_openM hM5
     have hx5_0 : wr.cell? ⟨go5, (x5_1 : Int).toNat * 4, none⟩ = some (.int .i64 ((rd_T34 x0_1 x5_1).f0)) := hcc5 0 _ rfl
     have hx5_1 : wr.cell? ⟨go5, (x5_1 : Int).toNat * 4 + 1, none⟩ = some (.int .i64 ((rd_T34 x0_1 x5_1).f1)) := hcc5 1 _ rfl
     have hx5_2 : wr.cell? ⟨go5, (x5_1 : Int).toNat * 4 + 2, none⟩ = some (.int .i64 ((rd_T34 x0_1 x5_1).f2)) := hcc5 2 _ rfl
     have hx5_3 : wr.cell? ⟨go5, (x5_1 : Int).toNat * 4 + 3, none⟩ = some (.int .i64 ((rd_T34 x0_1 x5_1).f3)) := hcc5 3 _ rfl
     have hf5_0 : wr.frozen? ⟨go5, (x5_1 : Int).toNat * 4, none⟩ = false := hfr5 0
     have hf5_1 : wr.frozen? ⟨go5, (x5_1 : Int).toNat * 4 + 1, none⟩ = false := hfr5 1
     have hf5_2 : wr.frozen? ⟨go5, (x5_1 : Int).toNat * 4 + 2, none⟩ = false := hfr5 2
     have hf5_3 : wr.frozen? ⟨go5, (x5_1 : Int).toNat * 4 + 3, none⟩ = false := hfr5 3
     (try clear hcl5)
     (try clear hcc5)
     (try clear hfr5)
     (try clear hM5)
     replace p5 := eq_true p5
     replace q5 := eq_true q5
     have HX10 := Aside0.mk (show Kd.R k34 34 wr w0.heap.size (fun k_ => (P0_ k_ ∨ w.heap.size ≤ k_)) (.slice (some ⟨go5, 0, none⟩) x0_1.length co9) x0_1 from (rU HO_0.out))
     obtain ⟨ce10, hcl10, hM10, hcc10, hfr10⟩ := Kd.R_elem HX10.out z34 (x5_1 : Int) (of_decide_eq_true hE) (by have h_ : (x5_1 : Int) < ((x0_1.length : Int) : Int) := of_decide_eq_true hE; first | exact h_ | (have e_ := (Kd.R_reads' HO_0.out).1; omega) | simpa using h_)
     obtain rfl := k34_openM hM10
     have HP10 := Kd.R_seg HX10.out (x5_1 : Int) (of_decide_eq_true hE) (by have h_ : (x5_1 : Int) < ((x0_1.length : Int) : Int) := of_decide_eq_true hE; first | exact h_ | (have e_ := (Kd.R_reads' HO_0.out).1; omega) | simpa using h_) (seg := [.int .i64 x1_1]) (j := 0) hcl10 hcc10 (show 1 ≤ 4 from by decide) (x' := (⟨x1_1, (rd_T34 x0_1 x5_1).f1, (rd_T34 x0_1 x5_1).f2, (rd_T34 x0_1 x5_1).f3⟩ : S34)) (k34_mkM _ _ _ (⟨x1_1, (rd_T34 x0_1 x5_1).f1, (rd_T34 x0_1 x5_1).f2, (rd_T34 x0_1 x5_1).f3⟩ : S34) ) (fun _ hk => hk)
     have hx10_0 := hcc10 0 _ rfl
     (try simp only [show (k34).sz = 4 from rfl, Nat.mul_one, Nat.add_zero] at hx10_0)
     have hf10_0 := hfr10 0
     (try simp only [show (k34).sz = 4 from rfl, Nat.mul_one, Nat.add_zero] at hf10_0)
     (try clear hcl10)
     (try clear hcc10)
     (try clear hfr10)
     (try clear hM10)
     go_wp2_with (first | ((with_reducible refine gate_store (t := 3) (p := 16) rfl ?_); refine store_event (t := 3) (p := 16) (v := ?vo_w11) (w1 := (wr.setCell ⟨go5, (x5_1 : Int).toNat * 4, none⟩ (.int .i64 x1_1))) ?hg ?ho ?hn ?hr ?_; (case ho => rfl); (case hg => rfl); (case hn => rfl); (case hr => exact sE); intro w11 hw; have hg : wr.grownBy w11 (some go5) := (by rw [hw]; exact HP10.2); have hp_ : Kd.R k34 34 w11 w0.heap.size (fun k_ => (P0_ k_ ∨ w.heap.size ≤ k_)) (.slice (some ⟨go5, 0, none⟩) x0_1.length co9) y203 := (by rw [hw, Ny203.out]; exact HP10.1); clear HP10; replace HB := Aside0.mk ((by rw [hw]; exact below_set (HB.out) GB5.out : Below w0.heap.size w0 w11)); replace HK := Aside0.mk (Kept.of_grown (S := (fun k_ => P0_ k_)) hg (by repeat (first | (with_reducible first | exact HK.out | apply Kept.alloc | apply Kept.drewN | apply Kept.drew) | exact HK.out)) (fun k_ e_ => (HO_0.out.1 k_ e_))); replace HO_0 := Aside0.mk hp_; clear hg hw hp_; have p6 : 0 ≤ (x5_1 : Int) := of_decide_eq_true hE; have q6 : (x5_1 : Int) < ((x0_1.length : Int) : Int) := of_decide_eq_true hE; obtain ⟨ce6, hcl6, hM6, hcc6, hfr6⟩ := Kd.R_elem HO_0.out z34 (x5_1 : Int) p6 q6; obtain rfl := k34_openM hM6; have hx6_0 : w11.cell? ⟨go5, (x5_1 : Int).toNat * 4, none⟩ = some (.int .i64 ((rd_T34 y203 x5_1).f0)) := hcc6 0 _ rfl; have hx6_1 : w11.cell? ⟨go5, (x5_1 : Int).toNat * 4 + 1, none⟩ = some (.int .i64 ((rd_T34 y203 x5_1).f1)) := hcc6 1 _ rfl; have hx6_2 : w11.cell? ⟨go5, (x5_1 : Int).toNat * 4 + 2, none⟩ = some (.int .i64 ((rd_T34 y203 x5_1).f2)) := hcc6 2 _ rfl; have hx6_3 : w11.cell? ⟨go5, (x5_1 : Int).toNat * 4 + 3, none⟩ = some (.int .i64 ((rd_T34 y203 x5_1).f3)) := hcc6 3 _ rfl; have hf6_0 : w11.frozen? ⟨go5, (x5_1 : Int).toNat * 4, none⟩ = false := hfr6 0; have hf6_1 : w11.frozen? ⟨go5, (x5_1 : Int).toNat * 4 + 1, none⟩ = false := hfr6 1; have hf6_2 : w11.frozen? ⟨go5, (x5_1 : Int).toNat * 4 + 2, none⟩ = false := hfr6 2; have hf6_3 : w11.frozen? ⟨go5, (x5_1 : Int).toNat * 4 + 3, none⟩ = false := hfr6 3; (try clear hcl6); (try clear hcc6); (try clear hfr6); (try clear hM6); replace p6 := eq_true p6; replace q6 := eq_true q6; have HX12 := Aside0.mk (show Kd.R k34 34 w11 w0.heap.size (fun k_ => (P0_ k_ ∨ w.heap.size ≤ k_)) (.slice (some ⟨go5, 0, none⟩) x0_1.length co9) y203 from (rU HO_0.out)); obtain ⟨ce12, hcl12, hM12, hcc12, hfr12⟩ := Kd.R_elem HX12.out z34 (x5_1 : Int) (of_decide_eq_true hE) (by have h_ : (x5_1 : Int) < ((x0_1.length : Int) : Int) := of_decide_eq_true hE; first | exact h_ | (have e_ := (Kd.R_reads' HO_0.out).1; omega) | simpa using h_); obtain rfl := k34_openM hM12; have HP12 := Kd.R_seg HX12.out (x5_1 : Int) (of_decide_eq_true hE) (by have h_ : (x5_1 : Int) < ((x0_1.length : Int) : Int) := of_decide_eq_true hE; first | exact h_ | (have e_ := (Kd.R_reads' HO_0.out).1; omega) | simpa using h_) (seg := [.int .i64 (wrap64 (x1_1 + 1))]) (j := 1) hcl12 hcc12 (show 2 ≤ 4 from by decide) (x' := (⟨(rd_T34 y203 x5_1).f0, wrap64 (x1_1 + 1), (rd_T34 y203 x5_1).f2, (rd_T34 y203 x5_1).f3⟩ : S34)) (k34_mkM _ _ _ (⟨(rd_T34 y203 x5_1).f0, wrap64 (x1_1 + 1), (rd_T34 y203 x5_1).f2, (rd_T34 y203 x5_1).f3⟩ : S34) ) (fun _ hk => hk); have hx12_1 := hcc12 1 _ rfl; (try simp only [show (k34).sz = 4 from rfl, Nat.mul_one, Nat.add_zero] at hx12_1); have hf12_1 := hfr12 1; (try simp only [show (k34).sz = 4 from rfl, Nat.mul_one, Nat.add_zero] at hf12_1); (try clear hcl12); (try clear hcc12); (try clear hfr12); (try clear hM12)) | ((with_reducible refine gate_store (t := 3) (p := 23) rfl ?_); refine store_event (t := 3) (p := 23) (v := ?vo_w13) (w1 := (w11.setCell ⟨go5, (x5_1 : Int).toNat * 4 + 1, none⟩ (.int .i64 (wrap64 (x1_1 + 1))))) ?hg ?ho ?hn ?hr ?_; (case ho => rfl); (case hg => rfl); (case hn => rfl); (case hr => exact sE); intro w13 hw; have hg : w11.grownBy w13 (some go5) := (by rw [hw]; exact HP12.2); have hp_ : Kd.R k34 34 w13 w0.heap.size (fun k_ => (P0_ k_ ∨ w.heap.size ≤ k_)) (.slice (some ⟨go5, 0, none⟩) x0_1.length co9) y204 := (by rw [hw, Ny204.out]; exact HP12.1); clear HP12; replace HB := Aside0.mk ((by rw [hw]; exact below_set (HB.out) GB5.out : Below w0.heap.size w0 w13)); replace HK := Aside0.mk (Kept.of_grown (S := (fun k_ => P0_ k_)) hg (by repeat (first | (with_reducible first | exact HK.out | apply Kept.alloc | apply Kept.drewN | apply Kept.drew) | exact HK.out)) (fun k_ e_ => (HO_0.out.1 k_ e_))); replace HO_0 := Aside0.mk hp_; clear hg hw hp_; have p7 : 0 ≤ (x5_1 : Int) := of_decide_eq_true hE; have q7 : (x5_1 : Int) < ((x0_1.length : Int) : Int) := of_decide_eq_true hE; obtain ⟨ce7, hcl7, hM7, hcc7, hfr7⟩ := Kd.R_elem HO_0.out z34 (x5_1 : Int) p7 q7; obtain rfl := k34_openM hM7; have hx7_0 : w13.cell? ⟨go5, (x5_1 : Int).toNat * 4, none⟩ = some (.int .i64 ((rd_T34 y204 x5_1).f0)) := hcc7 0 _ rfl; have hx7_1 : w13.cell? ⟨go5, (x5_1 : Int).toNat * 4 + 1, none⟩ = some (.int .i64 ((rd_T34 y204 x5_1).f1)) := hcc7 1 _ rfl; have hx7_2 : w13.cell? ⟨go5, (x5_1 : Int).toNat * 4 + 2, none⟩ = some (.int .i64 ((rd_T34 y204 x5_1).f2)) := hcc7 2 _ rfl; have hx7_3 : w13.cell? ⟨go5, (x5_1 : Int).toNat * 4 + 3, none⟩ = some (.int .i64 ((rd_T34 y204 x5_1).f3)) := hcc7 3 _ rfl; have hf7_0 : w13.frozen? ⟨go5, (x5_1 : Int).toNat * 4, none⟩ = false := hfr7 0; have hf7_1 : w13.frozen? ⟨go5, (x5_1 : Int).toNat * 4 + 1, none⟩ = false := hfr7 1; have hf7_2 : w13.frozen? ⟨go5, (x5_1 : Int).toNat * 4 + 2, none⟩ = false := hfr7 2; have hf7_3 : w13.frozen? ⟨go5, (x5_1 : Int).toNat * 4 + 3, none⟩ = false := hfr7 3; (try clear hcl7); (try clear hcc7); (try clear hfr7); (try clear hM7); replace p7 := eq_true p7; replace q7 := eq_true q7; have HX14 := Aside0.mk (show Kd.R k34 34 w13 w0.heap.size (fun k_ => (P0_ k_ ∨ w.heap.size ≤ k_)) (.slice (some ⟨go5, 0, none⟩) x0_1.length co9) y204 from (rU HO_0.out)); obtain ⟨ce14, hcl14, hM14, hcc14, hfr14⟩ := Kd.R_elem HX14.out z34 (x5_1 : Int) (of_decide_eq_true hE) (by have h_ : (x5_1 : Int) < ((x0_1.length : Int) : Int) := of_decide_eq_true hE; first | exact h_ | (have e_ := (Kd.R_reads' HO_0.out).1; omega) | simpa using h_); obtain rfl := k34_openM hM14; have HP14 := Kd.R_seg HX14.out (x5_1 : Int) (of_decide_eq_true hE) (by have h_ : (x5_1 : Int) < ((x0_1.length : Int) : Int) := of_decide_eq_true hE; first | exact h_ | (have e_ := (Kd.R_reads' HO_0.out).1; omega) | simpa using h_) (seg := [.int .i64 (wrap64 ((wrap64 (x1_1 + 1)) + 1))]) (j := 2) hcl14 hcc14 (show 3 ≤ 4 from by decide) (x' := (⟨(rd_T34 y204 x5_1).f0, (rd_T34 y204 x5_1).f1, wrap64 ((wrap64 (x1_1 + 1)) + 1), (rd_T34 y204 x5_1).f3⟩ : S34)) (k34_mkM _ _ _ (⟨(rd_T34 y204 x5_1).f0, (rd_T34 y204 x5_1).f1, wrap64 ((wrap64 (x1_1 + 1)) + 1), (rd_T34 y204 x5_1).f3⟩ : S34) ) (fun _ hk => hk); have hx14_2 := hcc14 2 _ rfl; (try simp only [show (k34).sz = 4 from rfl, Nat.mul_one, Nat.add_zero] at hx14_2); have hf14_2 := hfr14 2; (try simp only [show (k34).sz = 4 from rfl, Nat.mul_one, Nat.add_zero] at hf14_2); (try clear hcl14); (try clear hcc14); (try clear hfr14); (try clear hM14)) | ((with_reducible refine gate_store (t := 3) (p := 30) rfl ?_); refine store_event (t := 3) (p := 30) (v := ?vo_w15) (w1 := (w13.setCell ⟨go5, (x5_1 : Int).toNat * 4 + 2, none⟩ (.int .i64 (wrap64 ((wrap64 (x1_1 + 1)) + 1))))) ?hg ?ho ?hn ?hr ?_; (case ho => rfl); (case hg => rfl); (case hn => rfl); (case hr => exact sE); intro w15 hw; have hg : w13.grownBy w15 (some go5) := (by rw [hw]; exact HP14.2); have hp_ : Kd.R k34 34 w15 w0.heap.size (fun k_ => (P0_ k_ ∨ w.heap.size ≤ k_)) (.slice (some ⟨go5, 0, none⟩) x0_1.length co9) y205 := (by rw [hw, Ny205.out]; exact HP14.1); clear HP14; replace HB := Aside0.mk ((by rw [hw]; exact below_set (HB.out) GB5.out : Below w0.heap.size w0 w15)); replace HK := Aside0.mk (Kept.of_grown (S := (fun k_ => P0_ k_)) hg (by repeat (first | (with_reducible first | exact HK.out | apply Kept.alloc | apply Kept.drewN | apply Kept.drew) | exact HK.out)) (fun k_ e_ => (HO_0.out.1 k_ e_))); replace HO_0 := Aside0.mk hp_; clear hg hw hp_; have p8 : 0 ≤ (x5_1 : Int) := of_decide_eq_true hE; have q8 : (x5_1 : Int) < ((x0_1.length : Int) : Int) := of_decide_eq_true hE; obtain ⟨ce8, hcl8, hM8, hcc8, hfr8⟩ := Kd.R_elem HO_0.out z34 (x5_1 : Int) p8 q8; obtain rfl := k34_openM hM8; have hx8_0 : w15.cell? ⟨go5, (x5_1 : Int).toNat * 4, none⟩ = some (.int .i64 ((rd_T34 y205 x5_1).f0)) := hcc8 0 _ rfl; have hx8_1 : w15.cell? ⟨go5, (x5_1 : Int).toNat * 4 + 1, none⟩ = some (.int .i64 ((rd_T34 y205 x5_1).f1)) := hcc8 1 _ rfl; have hx8_2 : w15.cell? ⟨go5, (x5_1 : Int).toNat * 4 + 2, none⟩ = some (.int .i64 ((rd_T34 y205 x5_1).f2)) := hcc8 2 _ rfl; have hx8_3 : w15.cell? ⟨go5, (x5_1 : Int).toNat * 4 + 3, none⟩ = some (.int .i64 ((rd_T34 y205 x5_1).f3)) := hcc8 3 _ rfl; have hf8_0 : w15.frozen? ⟨go5, (x5_1 : Int).toNat * 4, none⟩ = false := hfr8 0; have hf8_1 : w15.frozen? ⟨go5, (x5_1 : Int).toNat * 4 + 1, none⟩ = false := hfr8 1; have hf8_2 : w15.frozen? ⟨go5, (x5_1 : Int).toNat * 4 + 2, none⟩ = false := hfr8 2; have hf8_3 : w15.frozen? ⟨go5, (x5_1 : Int).toNat * 4 + 3, none⟩ = false := hfr8 3; (try clear hcl8); (try clear hcc8); (try clear hfr8); (try clear hM8); replace p8 := eq_true p8; replace q8 := eq_true q8; have HX16 := Aside0.mk (show Kd.R k34 34 w15 w0.heap.size (fun k_ => (P0_ k_ ∨ w.heap.size ≤ k_)) (.slice (some ⟨go5, 0, none⟩) x0_1.length co9) y205 from (rU HO_0.out)); obtain ⟨ce16, hcl16, hM16, hcc16, hfr16⟩ := Kd.R_elem HX16.out z34 (x5_1 : Int) (of_decide_eq_true hE) (by have h_ : (x5_1 : Int) < ((x0_1.length : Int) : Int) := of_decide_eq_true hE; first | exact h_ | (have e_ := (Kd.R_reads' HO_0.out).1; omega) | simpa using h_); obtain rfl := k34_openM hM16; have HP16 := Kd.R_seg HX16.out (x5_1 : Int) (of_decide_eq_true hE) (by have h_ : (x5_1 : Int) < ((x0_1.length : Int) : Int) := of_decide_eq_true hE; first | exact h_ | (have e_ := (Kd.R_reads' HO_0.out).1; omega) | simpa using h_) (seg := [.int .i64 (wrap64 ((wrap64 ((wrap64 (x1_1 + 1)) + 1)) + 1))]) (j := 3) hcl16 hcc16 (show 4 ≤ 4 from by decide) (x' := (⟨(rd_T34 y205 x5_1).f0, (rd_T34 y205 x5_1).f1, (rd_T34 y205 x5_1).f2, wrap64 ((wrap64 ((wrap64 (x1_1 + 1)) + 1)) + 1)⟩ : S34)) (k34_mkM _ _ _ (⟨(rd_T34 y205 x5_1).f0, (rd_T34 y205 x5_1).f1, (rd_T34 y205 x5_1).f2, wrap64 ((wrap64 ((wrap64 (x1_1 + 1)) + 1)) + 1)⟩ : S34) ) (fun _ hk => hk); have hx16_3 := hcc16 3 _ rfl; (try simp only [show (k34).sz = 4 from rfl, Nat.mul_one, Nat.add_zero] at hx16_3); have hf16_3 := hfr16 3; (try simp only [show (k34).sz = 4 from rfl, Nat.mul_one, Nat.add_zero] at hf16_3); (try clear hcl16); (try clear hcc16); (try clear hfr16); (try clear hM16)) | ((with_reducible refine gate_store (t := 3) (p := 37) rfl ?_); refine store_event (t := 3) (p := 37) (v := ?vo_w17) (w1 := (w15.setCell ⟨go5, (x5_1 : Int).toNat * 4 + 3, none⟩ (.int .i64 (wrap64 ((wrap64 ((wrap64 (x1_1 + 1)) + 1)) + 1))))) ?hg ?ho ?hn ?hr ?_; (case ho => rfl); (case hg => rfl); (case hn => rfl); (case hr => exact sE); intro w17 hw; have hg : w15.grownBy w17 (some go5) := (by rw [hw]; exact HP16.2); have hp_ : Kd.R k34 34 w17 w0.heap.size (fun k_ => (P0_ k_ ∨ w.heap.size ≤ k_)) (.slice (some ⟨go5, 0, none⟩) x0_1.length co9) y206 := (by rw [hw, Ny206.out]; exact HP16.1); clear HP16; replace HB := Aside0.mk ((by rw [hw]; exact below_set (HB.out) GB5.out : Below w0.heap.size w0 w17)); replace HK := Aside0.mk (Kept.of_grown (S := (fun k_ => P0_ k_)) hg (by repeat (first | (with_reducible first | exact HK.out | apply Kept.alloc | apply Kept.drewN | apply Kept.drew) | exact HK.out)) (fun k_ e_ => (HO_0.out.1 k_ e_))); replace HO_0 := Aside0.mk hp_; clear hg hw hp_))
     go_roundg k1
     case measure => have := HK1.out; omega
     case rel => exact ⟨(y206), (wrap64 ((wrap64 ((wrap64 ((wrap64 (x1_1 + 1)) + 1)) + 1)) + 1)), (wrap64 (x5_1 + 1)), tE, tE, H', ⟨by have := HK1.out; omega⟩, ⟨by (with_reducible repeat (first | apply Kd.R_alloc | apply Kd.R_drewN | apply Kd.R_drew)); exact HO_0.out⟩, ⟨by repeat (first | (with_reducible first | exact HK.out | apply Kept.alloc | apply Kept.drewN | apply Kept.drew) | exact HK.out)⟩, ⟨by repeat (first | (with_reducible first | exact HB.out | apply below_alloc | apply pw_below_drewN | apply below_drew1) | exact HB.out)⟩⟩
    ·rw [if_neg c4] at H
     exact absurd H (by simp)
   ·rw [if_neg c3] at H
    have c3b0 : decide (x5_1 < (x0_1.length : Int)) = false := decide_eq_false c3
    clear c3
    simp only [Option.some.injEq, Prod.mk.injEq] at H
    obtain ⟨rfl, rfl⟩ := H
    obtain ⟨Ao18, co18, eo18⟩ := Kd.R_slice HO_0.out
    subst eo18
    go_wp2
    go_ret
    exact ⟨eE, by (with_reducible repeat (first | apply Kd.R_alloc | apply Kd.R_drewN | apply Kd.R_drew)); exact HO_0.out, lU, by repeat (first | (with_reducible first | exact HK.out | apply Kept.alloc | apply Kept.drewN | apply Kept.drew) | exact HK.out)⟩
def laws_markClock.f (k : Nat) (a0_0 : Int) (l0_1 : List (S34)) (a1 : Int) : Option (Int × (List (S34))) := (laws_markTimerS.f k l0_1 a1).bind fun bt208 => (some (bt208.1, bt208.2))
theorem laws_markClock.mono : ∀ a0 a1 a2 k, LeO (laws_markClock.f k a0 a1 a2) (laws_markClock.f (k + 1) a0 a1 a2) := by
 intro a0 a1 a2 k
 unfold laws_markClock.f
 repeat' first
   | (with_reducible exact laws_markTimerS.mono _ _ _)
   | (with_reducible exact LeO.refl _)
   | (with_reducible exact LeO.none _)
   | (with_reducible refine LeO.ite ?_ ?_)
   | (with_reducible refine LeO.bind ?_ (fun _ => ?_))
   | exact laws_markTimerS.mono _ _ _
   | exact LeO.none _
   | refine LeO.ite ?_ ?_
   | refine LeO.bind ?_ (fun _ => ?_)
set_option maxHeartbeats 8000000 in
set_option maxRecDepth 100000 in
theorem laws_markClock.calls (k : Nat) (a0_0 : Int) (P0_1_ : Nat → Prop) (u9000_ : Value) (l0_1 : List (S34)) (a1 : Int) (r1 : Int) (r2 : List (S34)) (w0 w : World) (hB : Below w0.heap.size w0 w) (ho0_1 : Kd.R k34 34 w w0.heap.size P0_1_ u9000_ l0_1) (h : laws_markClock.f k a0_0 l0_1 a1 = some (r1, r2)) :
  Calls Try.prog 12 #[.agg #[.int .i64 a0_0, u9000_], .int .i64 a1] w fun e w' => e = .returned (.int .i64 r1) ∧ Kd.R k34 34 w' w0.heap.size (fun k_ => (P0_1_ k_ ∨ w.heap.size ≤ k_)) u9000_ r2 ∧ Below w0.heap.size w0 w' ∧ Kept w w' (fun k_ => P0_1_ k_) := by
 have hu30 := Try.underlying30
 have HO0_1 := Aside0.mk (show Kd.R k34 34 w w0.heap.size (fun k_ => (P0_1_ k_ ∨ w.heap.size ≤ k_)) u9000_ l0_1 from Kd.R_mono ho0_1 (fun k_ hk => (.inl hk)))
 have HK := Aside0.mk (Kept.refl w (fun k_ => P0_1_ k_))
 have HW0 := Aside0.mk hB.size
 have HB := Aside0.mk hB
 clear hB
 have H : ((laws_markTimerS.f k l0_1 a1).bind fun bt208 => (some (bt208.1, bt208.2))) = some (r1, r2) := h
 clear h
 replace H := Option.bind_eq_some_iff.mp H
 obtain ⟨⟨t208, t209⟩, A30, H⟩ := H
 replace H : (some (t208, t209)) = some (r1, r2) := H
 have A3 := Aside0.mk A30
 clear A30
 simp only [Option.some.injEq, Prod.mk.injEq] at H
 obtain ⟨rfl, rfl⟩ := H
 obtain ⟨Ao4, co4, eo4⟩ := Kd.R_slice HO0_1.out
 subst eo4
 go_enter Try.func12, Try.ntmps12
 go_wp2_with (first | ((with_reducible refine gate_dst (N := 2) rfl ?_); refine box_event rfl (N := 2) rfl (cs := #[.int .i64 a0_0, .slice Ao4 l0_1.length co4]) (t := 30) sE ?_; intro gb207 hg w5 hbox hb; replace HO0_1 := Aside0.mk (Kd.R_below (rU HO0_1.out) hb); have BK207 := Aside0.mk hbox; have GW207 := Aside0.mk ((by rw [hg]; exact (by first | exact HK.out.1 | exact (show Kept w _ (fun k_ => P0_1_ k_) from by repeat (first | (with_reducible first | exact HK.out | apply Kept.alloc | apply Kept.drewN | apply Kept.drew) | exact HK.out)).1) : w.heap.size ≤ gb207)); replace HK := Aside0.mk (Kept.below (S := (fun k_ => P0_1_ k_)) (by repeat (first | (with_reducible first | exact HK.out | apply Kept.alloc | apply Kept.drewN | apply Kept.drew) | exact HK.out)) hb); have GE207 := Aside0.mk ((by rw [hg]; exact (below_size (lU)) : w0.heap.size ≤ gb207)); replace HB := bH (lU) hb; clear hb hbox hg; have hcz6_0 := cz BK207 0 (.int .i64 a0_0); have hcz6_1 := cz BK207 1 (.slice Ao4 l0_1.length co4); have hfz6_0 := fz BK207 0; have hfz6_1 := fz BK207 1) | ((with_reducible refine gate_callee (f := 31) rfl ?_); refine goesL_ (some 8) rfl rfl Try.func31 (by kernel_rfl) rfl #[.slice Ao4 l0_1.length co4, .int .i64 a1] rfl aE ?_; (with_reducible refine (laws_markTimerS.calls k (fun k_ => some k_ = (.slice Ao4 l0_1.length co4 : Value).ownBlock) (.slice Ao4 l0_1.length co4) l0_1 a1 t208 t209 w0 _ ?side1 ?side2 A3.out).mono ?_); (case side1 => repeat (first | (with_reducible first | exact HB.out | apply below_alloc | apply pw_below_drewN | apply below_drew1 | refine below_set ?_ GE207.out) | exact HB.out)); (case side2 => exact Kd.R_tight rfl HO0_1.out); rintro e w7 ⟨rfl, hy0, hb, hkp⟩; refine ⟨_, rfl, ?_⟩; replace BK207 := Aside0.mk (blk_kept (bV BK207) hkp (fun hs_ => (fun e_ => (Kd.R_ne HO0_1.out BK207.out (by decide)) e_) hs_)); replace HK := Aside0.mk (Kept.then_ (S := (fun k_ => P0_1_ k_)) (by repeat (first | (with_reducible first | exact HK.out | apply Kept.alloc | apply Kept.drewN | apply Kept.drew | refine Kept.setCell ?_ (.inr GW207.out) _) | exact HK.out)) hkp (fun k_ hs_ => (fun e_ => (HO0_1.out.1 k_ e_.symm)) hs_)); replace HO0_1 := Aside0.mk (Kd.R_reok rfl hy0 (fun k_ e_ => HO0_1.out.1 k_ e_)); replace HB := Aside0.mk hb; (try clear hb); (try clear hkp); (try clear hg_); (try clear hp_); (try clear hy0)))
 go_ret
 exact ⟨eE, by (with_reducible repeat (first | apply Kd.R_alloc | apply Kd.R_drewN | apply Kd.R_drew)); exact HO0_1.out, lV1 GE207, by repeat (first | (with_reducible first | exact HK.out | apply Kept.alloc | apply Kept.drewN | apply Kept.drew | refine Kept.setCell ?_ (.inr GW207.out) _) | exact HK.out)⟩
end Go.Proofs.Ytjmcahjcgfflgaa.PFnExactAddTimer
namespace Go.Proofs.Ytjmcahjcgfflgaa.PFnExactAddTimer
open Go.RowKit Go.Proofs.YtjmcahjcgfflgaaW.PrintWords Go.Proofs.YtjmcahjcgfflgaaW.PrintLast Go.Proofs.YtjmcahjcgfflgaaW.PrintMore
attribute [local go_sem] max2_int min2_int max_two min_two max_three min_three max_four min_four   -- for this text's walks alone
set_option linter.unusedVariables false
set_option linter.unusedSimpArgs false
def laws_heldTimerS.l0 : Nat → List (S34) → Int → Int → Option (Int)
 | 0, _, _, _ => none
 | k + 1, x0, x1, x5 => if x5 < (x0.length : Int) then (if 0 ≤ x5 then (if ((rd_T34 x0 x5).f0) = x1 then (if ((rd_T34 x0 x5).f1) = (wrap64 (x1 + 1)) then (if ((rd_T34 x0 x5).f2) = (wrap64 ((wrap64 (x1 + 1)) + 1)) then (if ((rd_T34 x0 x5).f3) = (wrap64 ((wrap64 ((wrap64 (x1 + 1)) + 1)) + 1)) then (laws_heldTimerS.l0 k x0 (wrap64 ((wrap64 ((wrap64 ((wrap64 (x1 + 1)) + 1)) + 1)) + 1)) (wrap64 (x5 + 1))) else (some (-1))) else (some (-1))) else (some (-1))) else (some (-1))) else (none)) else (some x1)
def laws_heldTimerS.f (k : Nat) (l0 : List (S34)) (a1 : Int) : Option (Int) := laws_heldTimerS.l0 k l0 a1 0
theorem laws_heldTimerS.mono_l : ∀ k, (∀ y0 y1 y2, LeO (laws_heldTimerS.l0 k y0 y1 y2) (laws_heldTimerS.l0 (k + 1) y0 y1 y2))
 | 0 => fun _ _ _ r h => by simp [laws_heldTimerS.l0] at h
 | k + 1 => by
  have ih0 := laws_heldTimerS.mono_l k
  ·intro y0 y1 y2
   unfold laws_heldTimerS.l0
   repeat' first
   | (with_reducible exact ih0 _ _ _)
   | (with_reducible exact LeO.refl _)
   | (with_reducible exact LeO.none _)
   | (with_reducible refine LeO.ite ?_ ?_)
   | (with_reducible refine LeO.bind ?_ (fun _ => ?_))
   | exact ih0 _ _ _
   | exact LeO.none _
   | refine LeO.ite ?_ ?_
   | refine LeO.bind ?_ (fun _ => ?_)
theorem laws_heldTimerS.mono : ∀ a0 a1 k, LeO (laws_heldTimerS.f k a0 a1) (laws_heldTimerS.f (k + 1) a0 a1) := by
 intro a0 a1 k
 have ih0 := laws_heldTimerS.mono_l k
 unfold laws_heldTimerS.f
 repeat' first
   | (with_reducible exact ih0 _ _ _)
   | (with_reducible exact LeO.refl _)
   | (with_reducible exact LeO.none _)
   | (with_reducible refine LeO.ite ?_ ?_)
   | (with_reducible refine LeO.bind ?_ (fun _ => ?_))
   | exact ih0 _ _ _
   | exact LeO.none _
   | refine LeO.ite ?_ ?_
   | refine LeO.bind ?_ (fun _ => ?_)
set_option maxHeartbeats 8000000 in
set_option maxRecDepth 100000 in
theorem laws_heldTimerS.calls (k : Nat) (A0 : Option Addr) (c0 : Nat) (l0 : List (S34)) (a1 : Int) (r : Int) (w : World) (hr0 : Kd.C k34 w A0 l0.length l0) (hc0 : l0.length ≤ c0) (h : laws_heldTimerS.f k l0 a1 = some r) :
  Calls Try.prog 32 #[.slice A0 l0.length c0, .int .i64 a1] w fun e w' => e = .returned (.int .i64 r) ∧ Drawn0 w w' := by
 have HR0 := Aside0.mk hr0
 have HC0 := Aside0.mk hc0
 clear hr0 hc0
 have H : (laws_heldTimerS.l0 k l0 a1 0) = some r := h
 clear h
 have H' := Aside0.mk H
 clear H
 go_enter Try.func32, Try.ntmps32
 go_wp2
 go_loopg [1, 5] k (fun kq v1 v5 w' => ∃ (x1_1 : Int) (x5_1 : Int), v1 = .int .i64 x1_1 ∧ v5 = .int .i64 x5_1 ∧ Aside0 (laws_heldTimerS.l0 kq l0 x1_1 x5_1 = some r) ∧ Aside0 (kq ≤ k) ∧ Drawn0 w w')
 case atStart => exact ⟨(a1), (0), tE, tE, H', ⟨Nat.le_refl _⟩, by repeat (first | exact Drawn0.refl _ | apply Drawn0.step)⟩
 case round =>
  clear H'
  try clear p2
  obtain ⟨x1_1, x5_1, rfl, rfl, HA, HK1, ⟨m1, rfl⟩⟩ := hrel
  cases gk with
  | zero => exact absurd HA.out (by simp [laws_heldTimerS.l0])
  | succ k1 =>
   have H := HA.out
   clear HA
   simp only [laws_heldTimerS.l0] at H
   by_cases c3 : x5_1 < (l0.length : Int)
   ·rw [if_pos c3] at H
    have c3b0 : decide (x5_1 < (l0.length : Int)) = true := decide_eq_true c3
    clear c3
    by_cases c4 : 0 ≤ x5_1
    ·rw [if_pos c4] at H
     have c4b0 : decide (0 ≤ x5_1) = true := decide_eq_true c4
     clear c4
     by_cases c5 : ((rd_T34 l0 x5_1).f0) = x1_1
     ·rw [if_pos c5] at H
      have c5b0 : (((rd_T34 l0 x5_1).f0) == x1_1) = true := beq_iff_eq.mpr c5
      have c5b1 : (((rd_T34 l0 x5_1).f0) != x1_1) = false := bne_eq_false_iff_eq.mpr c5
      clear c5
      by_cases c6 : ((rd_T34 l0 x5_1).f1) = (wrap64 (x1_1 + 1))
      ·rw [if_pos c6] at H
       have c6b0 : (((rd_T34 l0 x5_1).f1) == (wrap64 (x1_1 + 1))) = true := beq_iff_eq.mpr c6
       have c6b1 : (((rd_T34 l0 x5_1).f1) != (wrap64 (x1_1 + 1))) = false := bne_eq_false_iff_eq.mpr c6
       clear c6
       by_cases c7 : ((rd_T34 l0 x5_1).f2) = (wrap64 ((wrap64 (x1_1 + 1)) + 1))
       ·rw [if_pos c7] at H
        have c7b0 : (((rd_T34 l0 x5_1).f2) == (wrap64 ((wrap64 (x1_1 + 1)) + 1))) = true := beq_iff_eq.mpr c7
        have c7b1 : (((rd_T34 l0 x5_1).f2) != (wrap64 ((wrap64 (x1_1 + 1)) + 1))) = false := bne_eq_false_iff_eq.mpr c7
        clear c7
        by_cases c8 : ((rd_T34 l0 x5_1).f3) = (wrap64 ((wrap64 ((wrap64 (x1_1 + 1)) + 1)) + 1))
        ·rw [if_pos c8] at H
         have c8b0 : (((rd_T34 l0 x5_1).f3) == (wrap64 ((wrap64 ((wrap64 (x1_1 + 1)) + 1)) + 1))) = true := beq_iff_eq.mpr c8
         have c8b1 : (((rd_T34 l0 x5_1).f3) != (wrap64 ((wrap64 ((wrap64 (x1_1 + 1)) + 1)) + 1))) = false := bne_eq_false_iff_eq.mpr c8
         clear c8
         have H' := Aside0.mk H
         clear H
         have p210 : 0 ≤ (x5_1 : Int) := of_decide_eq_true hE
         have q210 : x5_1 < (l0.length : Int) := of_decide_eq_true hE
         obtain ⟨ad210, e210, hx210_0, hx210_1, hx210_2, hx210_3⟩ := at_T34 HR0.out x5_1 p210 q210
         cases e210
         replace p210 := eq_true p210
         replace q210 := eq_true q210
         have p211 : 0 ≤ (x5_1 : Int) := of_decide_eq_true hE
         have q211 : x5_1 < (l0.length : Int) := of_decide_eq_true hE
         obtain ⟨ad211, e211, hx211_0, hx211_1, hx211_2, hx211_3⟩ := at_T34 HR0.out x5_1 p211 q211
         obtain rfl : ad210 = ad211 := (by injection e211)
         replace p211 := eq_true p211
         replace q211 := eq_true q211
         have p212 : 0 ≤ (x5_1 : Int) := of_decide_eq_true hE
         have q212 : x5_1 < (l0.length : Int) := of_decide_eq_true hE
         obtain ⟨ad212, e212, hx212_0, hx212_1, hx212_2, hx212_3⟩ := at_T34 HR0.out x5_1 p212 q212
         obtain rfl : ad210 = ad212 := (by injection e212)
         replace p212 := eq_true p212
         replace q212 := eq_true q212
         have p213 : 0 ≤ (x5_1 : Int) := of_decide_eq_true hE
         have q213 : x5_1 < (l0.length : Int) := of_decide_eq_true hE
         obtain ⟨ad213, e213, hx213_0, hx213_1, hx213_2, hx213_3⟩ := at_T34 HR0.out x5_1 p213 q213
         obtain rfl : ad210 = ad213 := (by injection e213)
         replace p213 := eq_true p213
         replace q213 := eq_true q213
         go_wp2
         go_roundg k1
         case measure => have := HK1.out; omega
         case rel => exact ⟨(wrap64 ((wrap64 ((wrap64 ((wrap64 (x1_1 + 1)) + 1)) + 1)) + 1)), (wrap64 (x5_1 + 1)), tE, tE, H', ⟨by have := HK1.out; omega⟩, by repeat (first | exact Drawn0.refl _ | apply Drawn0.step)⟩
        ·rw [if_neg c8] at H
         have c8b0 : (((rd_T34 l0 x5_1).f3) == (wrap64 ((wrap64 ((wrap64 (x1_1 + 1)) + 1)) + 1))) = false := beq_eq_false_iff_ne.mpr c8
         have c8b1 : (((rd_T34 l0 x5_1).f3) != (wrap64 ((wrap64 ((wrap64 (x1_1 + 1)) + 1)) + 1))) = true := bne_iff_ne.mpr c8
         obtain rfl := Option.some.inj H
         have p210 : 0 ≤ (x5_1 : Int) := of_decide_eq_true hE
         have q210 : x5_1 < (l0.length : Int) := of_decide_eq_true hE
         obtain ⟨ad210, e210, hx210_0, hx210_1, hx210_2, hx210_3⟩ := at_T34 HR0.out x5_1 p210 q210
         cases e210
         replace p210 := eq_true p210
         replace q210 := eq_true q210
         have p211 : 0 ≤ (x5_1 : Int) := of_decide_eq_true hE
         have q211 : x5_1 < (l0.length : Int) := of_decide_eq_true hE
         obtain ⟨ad211, e211, hx211_0, hx211_1, hx211_2, hx211_3⟩ := at_T34 HR0.out x5_1 p211 q211
         obtain rfl : ad210 = ad211 := (by injection e211)
         replace p211 := eq_true p211
         replace q211 := eq_true q211
         have p212 : 0 ≤ (x5_1 : Int) := of_decide_eq_true hE
         have q212 : x5_1 < (l0.length : Int) := of_decide_eq_true hE
         obtain ⟨ad212, e212, hx212_0, hx212_1, hx212_2, hx212_3⟩ := at_T34 HR0.out x5_1 p212 q212
         obtain rfl : ad210 = ad212 := (by injection e212)
         replace p212 := eq_true p212
         replace q212 := eq_true q212
         have p213 : 0 ≤ (x5_1 : Int) := of_decide_eq_true hE
         have q213 : x5_1 < (l0.length : Int) := of_decide_eq_true hE
         obtain ⟨ad213, e213, hx213_0, hx213_1, hx213_2, hx213_3⟩ := at_T34 HR0.out x5_1 p213 q213
         obtain rfl : ad210 = ad213 := (by injection e213)
         replace p213 := eq_true p213
         replace q213 := eq_true q213
         go_wp2
         go_ret
         exact ⟨by first | rfl | (simp; done) | (simp [*]; done) | exact not_isEmpty _ | exact (not_isEmpty _).symm | exact is_empty _ | exact (is_empty _).symm, by repeat (first | exact Drawn0.refl _ | apply Drawn0.step)⟩
       ·rw [if_neg c7] at H
        have c7b0 : (((rd_T34 l0 x5_1).f2) == (wrap64 ((wrap64 (x1_1 + 1)) + 1))) = false := beq_eq_false_iff_ne.mpr c7
        have c7b1 : (((rd_T34 l0 x5_1).f2) != (wrap64 ((wrap64 (x1_1 + 1)) + 1))) = true := bne_iff_ne.mpr c7
        obtain rfl := Option.some.inj H
        have p210 : 0 ≤ (x5_1 : Int) := of_decide_eq_true hE
        have q210 : x5_1 < (l0.length : Int) := of_decide_eq_true hE
        obtain ⟨ad210, e210, hx210_0, hx210_1, hx210_2, hx210_3⟩ := at_T34 HR0.out x5_1 p210 q210
        cases e210
        replace p210 := eq_true p210
        replace q210 := eq_true q210
        have p211 : 0 ≤ (x5_1 : Int) := of_decide_eq_true hE
        have q211 : x5_1 < (l0.length : Int) := of_decide_eq_true hE
        obtain ⟨ad211, e211, hx211_0, hx211_1, hx211_2, hx211_3⟩ := at_T34 HR0.out x5_1 p211 q211
        obtain rfl : ad210 = ad211 := (by injection e211)
        replace p211 := eq_true p211
        replace q211 := eq_true q211
        have p212 : 0 ≤ (x5_1 : Int) := of_decide_eq_true hE
        have q212 : x5_1 < (l0.length : Int) := of_decide_eq_true hE
        obtain ⟨ad212, e212, hx212_0, hx212_1, hx212_2, hx212_3⟩ := at_T34 HR0.out x5_1 p212 q212
        obtain rfl : ad210 = ad212 := (by injection e212)
        replace p212 := eq_true p212
        replace q212 := eq_true q212
        go_wp2
        go_ret
        exact ⟨by first | rfl | (simp; done) | (simp [*]; done) | exact not_isEmpty _ | exact (not_isEmpty _).symm | exact is_empty _ | exact (is_empty _).symm, by repeat (first | exact Drawn0.refl _ | apply Drawn0.step)⟩
      ·rw [if_neg c6] at H
       have c6b0 : (((rd_T34 l0 x5_1).f1) == (wrap64 (x1_1 + 1))) = false := beq_eq_false_iff_ne.mpr c6
       have c6b1 : (((rd_T34 l0 x5_1).f1) != (wrap64 (x1_1 + 1))) = true := bne_iff_ne.mpr c6
       obtain rfl := Option.some.inj H
       have p210 : 0 ≤ (x5_1 : Int) := of_decide_eq_true hE
       have q210 : x5_1 < (l0.length : Int) := of_decide_eq_true hE
       obtain ⟨ad210, e210, hx210_0, hx210_1, hx210_2, hx210_3⟩ := at_T34 HR0.out x5_1 p210 q210
       cases e210
       replace p210 := eq_true p210
       replace q210 := eq_true q210
       have p211 : 0 ≤ (x5_1 : Int) := of_decide_eq_true hE
       have q211 : x5_1 < (l0.length : Int) := of_decide_eq_true hE
       obtain ⟨ad211, e211, hx211_0, hx211_1, hx211_2, hx211_3⟩ := at_T34 HR0.out x5_1 p211 q211
       obtain rfl : ad210 = ad211 := (by injection e211)
       replace p211 := eq_true p211
       replace q211 := eq_true q211
       go_wp2
       go_ret
       exact ⟨by first | rfl | (simp; done) | (simp [*]; done) | exact not_isEmpty _ | exact (not_isEmpty _).symm | exact is_empty _ | exact (is_empty _).symm, by repeat (first | exact Drawn0.refl _ | apply Drawn0.step)⟩
     ·rw [if_neg c5] at H
      have c5b0 : (((rd_T34 l0 x5_1).f0) == x1_1) = false := beq_eq_false_iff_ne.mpr c5
      have c5b1 : (((rd_T34 l0 x5_1).f0) != x1_1) = true := bne_iff_ne.mpr c5
      obtain rfl := Option.some.inj H
      have p210 : 0 ≤ (x5_1 : Int) := of_decide_eq_true hE
      have q210 : x5_1 < (l0.length : Int) := of_decide_eq_true hE
      obtain ⟨ad210, e210, hx210_0, hx210_1, hx210_2, hx210_3⟩ := at_T34 HR0.out x5_1 p210 q210
      cases e210
      replace p210 := eq_true p210
      replace q210 := eq_true q210
      go_wp2
      go_ret
      exact ⟨by first | rfl | (simp; done) | (simp [*]; done) | exact not_isEmpty _ | exact (not_isEmpty _).symm | exact is_empty _ | exact (is_empty _).symm, by repeat (first | exact Drawn0.refl _ | apply Drawn0.step)⟩
    ·rw [if_neg c4] at H
     exact absurd H (by simp)
   ·rw [if_neg c3] at H
    have c3b0 : decide (x5_1 < (l0.length : Int)) = false := decide_eq_false c3
    clear c3
    obtain rfl := Option.some.inj H
    go_wp2
    go_ret
    exact ⟨by first | rfl | (simp; done) | (simp [*]; done) | exact not_isEmpty _ | exact (not_isEmpty _).symm | exact is_empty _ | exact (is_empty _).symm, by repeat (first | exact Drawn0.refl _ | apply Drawn0.step)⟩
def laws_heldClock.f (k : Nat) (a0_0 : Int) (l0_1 : List (S34)) (a1 : Int) : Option (Int) := (laws_heldTimerS.f k l0_1 a1).bind fun t215 => (if t215 < 0 then (some (-1)) else (some t215))
theorem laws_heldClock.mono : ∀ a0 a1 a2 k, LeO (laws_heldClock.f k a0 a1 a2) (laws_heldClock.f (k + 1) a0 a1 a2) := by
 intro a0 a1 a2 k
 unfold laws_heldClock.f
 repeat' first
   | (with_reducible exact laws_heldTimerS.mono _ _ _)
   | (with_reducible exact LeO.refl _)
   | (with_reducible exact LeO.none _)
   | (with_reducible refine LeO.ite ?_ ?_)
   | (with_reducible refine LeO.bind ?_ (fun _ => ?_))
   | exact laws_heldTimerS.mono _ _ _
   | exact LeO.none _
   | refine LeO.ite ?_ ?_
   | refine LeO.bind ?_ (fun _ => ?_)
set_option maxHeartbeats 8000000 in
set_option maxRecDepth 100000 in
theorem laws_heldClock.calls (k : Nat) (a0_0 : Int) (A0_1 : Option Addr) (c0_1 : Nat) (l0_1 : List (S34)) (a1 : Int) (r : Int) (w : World) (hr0_1 : Kd.C k34 w A0_1 l0_1.length l0_1) (hc0_1 : l0_1.length ≤ c0_1) (h : laws_heldClock.f k a0_0 l0_1 a1 = some r) :
  Calls Try.prog 13 #[.agg #[.int .i64 a0_0, .slice A0_1 l0_1.length c0_1], .int .i64 a1] w fun e w' => e = .returned (.int .i64 r) ∧ Below w.heap.size w w' := by
 have hu30 := Try.underlying30
 have HR0_1 := Aside0.mk hr0_1
 have HC0_1 := Aside0.mk hc0_1
 clear hr0_1 hc0_1
 have HB := Aside0.mk (Below.refl w.heap.size w)
 have H : ((laws_heldTimerS.f k l0_1 a1).bind fun t215 => (if t215 < 0 then (some (-1)) else (some t215))) = some r := h
 clear h
 replace H := Option.bind_eq_some_iff.mp H
 obtain ⟨t215, A30, H⟩ := H
 replace H : (if t215 < 0 then (some (-1)) else (some t215)) = some r := H
 have A3 := Aside0.mk A30
 clear A30
 by_cases c4 : t215 < 0
 ·rw [if_pos c4] at H
  have c4b0 : decide (t215 < 0) = true := decide_eq_true c4
  clear c4
  obtain rfl := Option.some.inj H
  go_enter Try.func13, Try.ntmps13
  go_wp2_with (first | ((with_reducible refine gate_dst (N := 2) rfl ?_); refine box_event rfl (N := 2) rfl (cs := #[.int .i64 a0_0, .slice A0_1 l0_1.length c0_1]) (t := 30) sE ?_; intro gb214 hg w5 hbox hb; have BK214 := Aside0.mk hbox; have GW214 := gS w hg (lU); have GE214 := gS w hg (lU); replace HB := bH (lU) hb; clear hb hbox hg; have hcz6_0 := cz BK214 0 (.int .i64 a0_0); have hcz6_1 := cz BK214 1 (.slice A0_1 l0_1.length c0_1); have hfz6_0 := fz BK214 0; have hfz6_1 := fz BK214 1) | ((with_reducible refine gate_callee (f := 32) rfl ?_); refine goesL_ (some 8) rfl rfl Try.func32 (by kernel_rfl) rfl #[.slice A0_1 l0_1.length c0_1, .int .i64 a1] rfl aE ?_; (with_reducible refine (laws_heldTimerS.calls k _ _ l0_1 a1 t215 _ ?side1 ?side2 A3.out).mono ?_); (case side1 => exact cU (Kd.C_below HR0_1.out HB.out)); (case side2 => exact HC0_1.out); rintro e w' ⟨rfl, ⟨nd, rfl⟩⟩; refine ⟨_, rfl, ?_⟩))
  go_ret
  exact ⟨eE, lV1 GE214⟩
 ·rw [if_neg c4] at H
  have c4b0 : decide (t215 < 0) = false := decide_eq_false c4
  clear c4
  obtain rfl := Option.some.inj H
  go_enter Try.func13, Try.ntmps13
  go_wp2_with (first | ((with_reducible refine gate_dst (N := 2) rfl ?_); refine box_event rfl (N := 2) rfl (cs := #[.int .i64 a0_0, .slice A0_1 l0_1.length c0_1]) (t := 30) sE ?_; intro gb214 hg w7 hbox hb; have BK214 := Aside0.mk hbox; have GW214 := gS w hg (lU); have GE214 := gS w hg (lU); replace HB := bH (lU) hb; clear hb hbox hg; have hcz8_0 := cz BK214 0 (.int .i64 a0_0); have hcz8_1 := cz BK214 1 (.slice A0_1 l0_1.length c0_1); have hfz8_0 := fz BK214 0; have hfz8_1 := fz BK214 1) | ((with_reducible refine gate_callee (f := 32) rfl ?_); refine goesL_ (some 8) rfl rfl Try.func32 (by kernel_rfl) rfl #[.slice A0_1 l0_1.length c0_1, .int .i64 a1] rfl aE ?_; (with_reducible refine (laws_heldTimerS.calls k _ _ l0_1 a1 t215 _ ?side1 ?side2 A3.out).mono ?_); (case side1 => exact cU (Kd.C_below HR0_1.out HB.out)); (case side2 => exact HC0_1.out); rintro e w' ⟨rfl, ⟨nd, rfl⟩⟩; refine ⟨_, rfl, ?_⟩))
  go_ret
  exact ⟨eE, lV1 GE214⟩
end Go.Proofs.Ytjmcahjcgfflgaa.PFnExactAddTimer
