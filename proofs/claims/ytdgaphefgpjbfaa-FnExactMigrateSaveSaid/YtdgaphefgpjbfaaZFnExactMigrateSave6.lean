/- Texts of a row. -/
import Derived.Test.YtdgaphefgpjbfaaZFnExactMigrateSave3
import Derived.Test.YtdgaphefgpjbfaaZFnExactMigrateSave5
namespace Go.Proofs.Ytdgaphefgpjbfaa.PFnExactMigrateSave
open Go.RowKit Go.Proofs.YtdgaphefgpjbfaaW.PrintWords Go.Proofs.YtdgaphefgpjbfaaW.PrintLast Go.Proofs.YtdgaphefgpjbfaaW.PrintMore
attribute [local go_sem] max2_int min2_int max_two min_two max_three min_three max_four min_four   -- for this text's walks alone
set_option linter.unusedVariables false
set_option linter.unusedSimpArgs false
mutual
def impl_Change_changed.j0 : Nat → Int → Bool → Int → Int → ByteArray → ByteArray → Int → Option (Int × Bool)
 | 0, _, _, _, _, _, _, _ => none
 | k + 1, x1, x6, x269000, x269001, x269002, x269003, x269004 => if x6 = true then ((impl_inRange.f (wrap64 (x1 + x269004)) (-1000000000000000) 1000000000000000).bind fun t270 => (some (wrap64 (x1 + x269004), t270))) else (if x269001 = 3 then (impl_Change_changed.j1 k x1 (x269004 == 0) x269000 x269001 x269002 x269003 x269004) else (impl_Change_changed.j1 k x1 false x269000 x269001 x269002 x269003 x269004))
def impl_Change_changed.j1 : Nat → Int → Bool → Int → Int → ByteArray → ByteArray → Int → Option (Int × Bool)
 | 0, _, _, _, _, _, _, _ => none
 | k + 1, x1, x18, x269000, x269001, x269002, x269003, x269004 => if x18 = true then ((impl_inRange.f 0 (-1000000000000000) 1000000000000000).bind fun t271 => (some (0, t271))) else (if x269001 = 3 then ((impl_inRange.f x1 (-1000000000000000) 1000000000000000).bind fun t272 => (if t272 = true then ((impl_size.f x1).bind fun t273 => ((impl_size.f x269004).bind fun t274 => (if t274 = 0 then (none) else (if t273 ≤ (wrap64 (Int.tdiv (1000000000000000 : Int) t274)) then ((impl_inRange.f (wrap64 (x1 * x269004)) (-1000000000000000) 1000000000000000).bind fun t275 => (some (wrap64 (x1 * x269004), t275))) else (some (0, false)))))) else (some (0, false)))) else (some (0, false)))
end
def impl_Change_changed.f (k : Nat) (a0_0 : Int) (a0_1 : Int) (a0_2 : ByteArray) (a0_3 : ByteArray) (a0_4 : Int) (a1 : Int) : Option (Int × Bool) := if a0_1 = 2 then ((impl_inRange.f a1 (-2000000000000000) 2000000000000000).bind fun t269 => (impl_Change_changed.j0 k a1 t269 a0_0 a0_1 a0_2 a0_3 a0_4)) else (impl_Change_changed.j0 k a1 false a0_0 a0_1 a0_2 a0_3 a0_4)
theorem impl_Change_changed.mono_l : ∀ k, (∀ y0 y1 y2 y3 y4 y5 y6, LeO (impl_Change_changed.j0 k y0 y1 y2 y3 y4 y5 y6) (impl_Change_changed.j0 (k + 1) y0 y1 y2 y3 y4 y5 y6)) ∧ (∀ y0 y1 y2 y3 y4 y5 y6, LeO (impl_Change_changed.j1 k y0 y1 y2 y3 y4 y5 y6) (impl_Change_changed.j1 (k + 1) y0 y1 y2 y3 y4 y5 y6))
 | 0 => ⟨fun _ _ _ _ _ _ _ r h => by simp [impl_Change_changed.j0] at h, fun _ _ _ _ _ _ _ r h => by simp [impl_Change_changed.j1] at h⟩
 | k + 1 => by
  obtain ⟨ih0, ih1⟩ := impl_Change_changed.mono_l k
  refine ⟨?_, ?_⟩
  ·intro y0 y1 y2 y3 y4 y5 y6
   unfold impl_Change_changed.j0
   repeat' first
   | (with_reducible exact ih0 _ _ _ _ _ _ _)
   | (with_reducible exact ih1 _ _ _ _ _ _ _)
   | (with_reducible first | exact LeO.refl _ | exact LeO.none _ | refine LeO.ite ?_ ?_ | refine LeO.bind ?_ (fun _ => ?_))
   | exact ih0 _ _ _ _ _ _ _
   | exact ih1 _ _ _ _ _ _ _ | exact LeO.none _ | refine LeO.ite ?_ ?_ | refine LeO.bind ?_ (fun _ => ?_)
  ·intro y0 y1 y2 y3 y4 y5 y6
   unfold impl_Change_changed.j1
   repeat' first
   | (with_reducible exact ih0 _ _ _ _ _ _ _)
   | (with_reducible exact ih1 _ _ _ _ _ _ _)
   | (with_reducible first | exact LeO.refl _ | exact LeO.none _ | refine LeO.ite ?_ ?_ | refine LeO.bind ?_ (fun _ => ?_))
   | exact ih0 _ _ _ _ _ _ _
   | exact ih1 _ _ _ _ _ _ _ | exact LeO.none _ | refine LeO.ite ?_ ?_ | refine LeO.bind ?_ (fun _ => ?_)
theorem impl_Change_changed.mono : ∀ a0 a1 a2 a3 a4 a5 k, LeO (impl_Change_changed.f k a0 a1 a2 a3 a4 a5) (impl_Change_changed.f (k + 1) a0 a1 a2 a3 a4 a5) := by
 intro a0 a1 a2 a3 a4 a5 k
 obtain ⟨ih0, ih1⟩ := impl_Change_changed.mono_l k
 unfold impl_Change_changed.f
 repeat' first
   | (with_reducible exact ih0 _ _ _ _ _ _ _)
   | (with_reducible exact ih1 _ _ _ _ _ _ _)
   | (with_reducible first | exact LeO.refl _ | exact LeO.none _ | refine LeO.ite ?_ ?_ | refine LeO.bind ?_ (fun _ => ?_))
   | exact ih0 _ _ _ _ _ _ _
   | exact ih1 _ _ _ _ _ _ _ | exact LeO.none _ | refine LeO.ite ?_ ?_ | refine LeO.bind ?_ (fun _ => ?_)
def impl_Change_changed.T6 : Bool × List (List Nat × List Nat) := (true, [([], []), ([0], [0]), ([1], [1]), ([2], [2]), ([3], [3]), ([4, 3, 3], [3, 4]), ([3, 5], [3, 5]), ([6, 5], [6]), ([7], [7]), ([8, 7, 7], [7, 8]), ([7], [7]), ([10, 7], [7, 10]), ([11, 9, 7], [7, 11]), ([12, 7], [7, 12]), ([9, 13, 7], [7, 9, 13]), ([7, 14], [7, 14]), ([15, 12], [15])])
def impl_Change_changed.B6 : List Nat := [0, 1, 3, 7, 15, 31, 63, 127, 255, 511, 255, 1279, 4095, 8191, 16383, 32767, 65535]
theorem impl_Change_changed.tab6 : rtab .any (opsOf Try.f60 6) = impl_Change_changed.T6 := by kernel_rfl
theorem impl_Change_changed.bits6 : waitsOk impl_Change_changed.T6.2 impl_Change_changed.B6 = true := by kernel_rfl
set_option maxHeartbeats 8000000 in
set_option maxRecDepth 100000 in
theorem impl_Change_changed.calls (k : Nat) (a0_0 : Int) (a0_1 : Int) (a0_2 : ByteArray) (a0_3 : ByteArray) (a0_4 : Int) (a1 : Int) (r1 : Int) (r2 : Bool) (w : World) (h : impl_Change_changed.f k a0_0 a0_1 a0_2 a0_3 a0_4 a1 = some (r1, r2)) :
  Calls Try.prog 60 #[.agg #[.int .i64 a0_0, .int .i64 a0_1, .string a0_2, .string a0_3, .int .i64 a0_4], .int .i64 a1] w fun e w' => e = .returned (.tuple #[.int .i64 r1, .bool r2]) ∧ Below w.heap.size w w' := by
 have hu56 := Try.underlying56
 have HB := Aside0.mk (Below.refl w.heap.size w)
 have H : (if a0_1 = 2 then ((impl_inRange.f a1 (-2000000000000000) 2000000000000000).bind fun t269 => (impl_Change_changed.j0 k a1 t269 a0_0 a0_1 a0_2 a0_3 a0_4)) else (impl_Change_changed.j0 k a1 false a0_0 a0_1 a0_2 a0_3 a0_4)) = some (r1, r2) := h
 clear h
 have HC3 := Aside0.mk H
 clear H
 go_enter Try.func60, Try.ntmps60
 go_upto_region 2 with (first | ((with_reducible refine gate_dst (N := 2) rfl ?_); refine box_event rfl (N := 2) rfl (cs := #[.int .i64 a0_0, .int .i64 a0_1, .string a0_2, .string a0_3, .int .i64 a0_4]) (t := 56) sE ?_; intro gb268 hg w4 hbox hb; have BK268 := Aside0.mk hbox; have GW268 := gS w hg (lU); have GE268 := gS w hg (lU); replace HB := bH (lU) hb; clear hb hbox hg))
 (try simp only [Act.put, List.setIfInBounds_toArray, List.set_cons_zero, List.set_cons_succ])
 go_cut [6] (fun v6 wc => ∃ (kq : Nat) (x6_2 : Bool), v6 = .bool x6_2 ∧ Aside0 (impl_Change_changed.j0 kq a1 x6_2 a0_0 a0_1 a0_2 a0_3 a0_4 = some (r1, r2)) ∧ Aside0 (kq ≤ k) ∧ Aside0 (wc.heap[gb268]? = some (.cells #[.int .i64 a0_0, .int .i64 a0_1, .string a0_2, .string a0_3, .int .i64 a0_4] 56 (0, 0))) ∧ Aside0 (Below w.heap.size w wc))
 case first =>
  have H := HC3.out
  clear HC3
  by_cases c5 : a0_1 = 2
  ·rw [if_pos c5] at H
   have c5b0 : (a0_1 == 2) = true := beq_iff_eq.mpr c5
   have c5b1 : (a0_1 != 2) = false := bne_eq_false_iff_eq.mpr c5
   clear c5
   (first | rw [c5b0] | (simp only [i64_w, i32_w]; rw [c5b0]) | (rw [c5b2]; simp only [Bool.not_false, Bool.not_true]) | skip)
   replace H := Option.bind_eq_some_iff.mp H
   obtain ⟨t269, A60, H⟩ := H
   replace H : (impl_Change_changed.j0 k a1 t269 a0_0 a0_1 a0_2 a0_3 a0_4) = some (r1, r2) := H
   have A6 := Aside0.mk A60
   clear A60
   have H' := Aside0.mk H
   clear H
   have hcz7_0 := cz BK268 0 (.int .i64 a0_0)
   have hcz7_1 := cz BK268 1 (.int .i64 a0_1)
   have hcz7_2 := cz BK268 2 (.string a0_2)
   have hcz7_3 := cz BK268 3 (.string a0_3)
   have hcz7_4 := cz BK268 4 (.int .i64 a0_4)
   have hfz7_0 := fz BK268 0
   have hfz7_1 := fz BK268 1
   have hfz7_2 := fz BK268 2
   have hfz7_3 := fz BK268 3
   have hfz7_4 := fz BK268 4
   go_wp2_with (first | (go_at_call 35; (with_reducible refine (impl_inRange.calls a1 (-2000000000000000) 2000000000000000 t269 _ A6.out).mono ?_); rintro e w' ⟨rfl, ⟨nd, rfl⟩⟩))
   go_meet
   case rel => exact ⟨_, (t269), tE, H', ⟨by first | omega | exact Nat.le_refl _⟩, ⟨by refine bU ?_; exact BK268.out⟩, ⟨by repeat (first | (with_reducible first | exact HB.out | apply below_alloc | apply pw_below_drewN | apply below_drew1 | refine below_set ?_ GE268.out) | exact HB.out)⟩⟩
  ·rw [if_neg c5] at H
   have c5b0 : (a0_1 == 2) = false := beq_eq_false_iff_ne.mpr c5
   have c5b1 : (a0_1 != 2) = true := bne_iff_ne.mpr c5
   (first | rw [c5b0] | (simp only [i64_w, i32_w]; rw [c5b0]) | (rw [c5b2]; simp only [Bool.not_false, Bool.not_true]) | skip)
   have H' := Aside0.mk H
   clear H
   have hcz8_0 := cz BK268 0 (.int .i64 a0_0)
   have hcz8_1 := cz BK268 1 (.int .i64 a0_1)
   have hcz8_2 := cz BK268 2 (.string a0_2)
   have hcz8_3 := cz BK268 3 (.string a0_3)
   have hcz8_4 := cz BK268 4 (.int .i64 a0_4)
   have hfz8_0 := fz BK268 0
   have hfz8_1 := fz BK268 1
   have hfz8_2 := fz BK268 2
   have hfz8_3 := fz BK268 3
   have hfz8_4 := fz BK268 4
   go_wp2
   go_meet
   case rel => exact ⟨_, (false), tE, H', ⟨by first | omega | exact Nat.le_refl _⟩, ⟨by refine bU ?_; exact BK268.out⟩, ⟨by repeat (first | (with_reducible first | exact HB.out | apply below_alloc | apply pw_below_drewN | apply below_drew1 | refine below_set ?_ GE268.out) | exact HB.out)⟩⟩
 case rest =>
  clear HC3
  try clear p2
  try clear c5
  try clear c5b0
  try clear c5b1
  try clear c5b2
  try clear c6
  try clear hcz7_0
  try clear hcz7_1
  try clear hcz7_2
  try clear hcz7_3
  try clear hcz7_4
  try clear hcz8_0
  try clear hcz8_1
  try clear hcz8_2
  try clear hcz8_3
  try clear hcz8_4
  try clear hfz7_0
  try clear hfz7_1
  try clear hfz7_2
  try clear hfz7_3
  try clear hfz7_4
  try clear hfz8_0
  try clear hfz8_1
  try clear hfz8_2
  try clear hfz8_3
  try clear hfz8_4
  obtain ⟨kq, x6_2, rfl, HA, HJ2, BK268, HB⟩ := hcut
  cases kq with
  | zero => exact absurd HA.out (by simp [impl_Change_changed.j0])
  | succ kj2 =>
   have H := HA.out
   clear HA
   simp only [impl_Change_changed.j0] at H
   by_cases c9 : x6_2 = true
   ·subst c9
    have H1 : ((impl_inRange.f (wrap64 (a1 + a0_4)) (-1000000000000000) 1000000000000000).bind fun t270 => (some (wrap64 (a1 + a0_4), t270))) = some (r1, r2) := by rw [if_pos rfl] at H; exact H
    clear H
    have H := H1
    clear H1
    replace H := Option.bind_eq_some_iff.mp H
    obtain ⟨t270, A100, H⟩ := H
    replace H : (some (wrap64 (a1 + a0_4), t270)) = some (r1, r2) := H
    have A10 := Aside0.mk A100
    clear A100
    simp only [Option.some.injEq, Prod.mk.injEq] at H
    obtain ⟨rfl, rfl⟩ := H
    have hcz11_0 := cz BK268 0 (.int .i64 a0_0)
    have hcz11_1 := cz BK268 1 (.int .i64 a0_1)
    have hcz11_2 := cz BK268 2 (.string a0_2)
    have hcz11_3 := cz BK268 3 (.string a0_3)
    have hcz11_4 := cz BK268 4 (.int .i64 a0_4)
    have hfz11_0 := fz BK268 0
    have hfz11_1 := fz BK268 1
    have hfz11_2 := fz BK268 2
    have hfz11_3 := fz BK268 3
    have hfz11_4 := fz BK268 4
    go_wp2_with (first | ((with_reducible refine gate_callee (f := 35) rfl ?_); refine goesL_ (some 50) rfl rfl Try.func35 (by kernel_rfl) rfl #[.int .i64 (wrap64 (a1 + a0_4)), .int .i64 (-1000000000000000), .int .i64 1000000000000000] rfl aE ?_; (with_reducible refine (impl_inRange.calls (wrap64 (a1 + a0_4)) (-1000000000000000) 1000000000000000 t270 _ A10.out).mono ?_); rintro e w' ⟨rfl, ⟨nd, rfl⟩⟩; refine ⟨_, rfl, ?_⟩))
    go_ret2
    exact ⟨eE, lV1 GE268⟩
   ·replace c9 := Bool.eq_false_iff.mpr c9
    subst c9
    have H1 : (if a0_1 = 3 then (impl_Change_changed.j1 kj2 a1 (a0_4 == 0) a0_0 a0_1 a0_2 a0_3 a0_4) else (impl_Change_changed.j1 kj2 a1 false a0_0 a0_1 a0_2 a0_3 a0_4)) = some (r1, r2) := by rw [if_neg (show ¬ (false = true) by decide)] at H; exact H
    clear H
    have H := H1
    clear H1
    have HC12 := Aside0.mk H
    clear H
    go_upto_region 4 with (fail)
    go_cut [18] (fun v18 wc => ∃ (kq : Nat) (x18_11 : Bool), v18 = .bool x18_11 ∧ Aside0 (impl_Change_changed.j1 kq a1 x18_11 a0_0 a0_1 a0_2 a0_3 a0_4 = some (r1, r2)) ∧ Aside0 (kq ≤ kj2) ∧ Aside0 (wc.heap[gb268]? = some (.cells #[.int .i64 a0_0, .int .i64 a0_1, .string a0_2, .string a0_3, .int .i64 a0_4] 56 (0, 0))) ∧ Aside0 (Below w.heap.size w wc))
    case first =>
     have H := HC12.out
     clear HC12
     by_cases c13 : a0_1 = 3
     ·rw [if_pos c13] at H
      have c13b0 : (a0_1 == 3) = true := beq_iff_eq.mpr c13
      have c13b1 : (a0_1 != 3) = false := bne_eq_false_iff_eq.mpr c13
      clear c13
      (first | rw [c13b0] | (simp only [i64_w, i32_w]; rw [c13b0]) | (rw [c13b2]; simp only [Bool.not_false, Bool.not_true]) | skip)
      have H' := Aside0.mk H
      clear H
      have hcz14_0 := cz BK268 0 (.int .i64 a0_0)
      have hcz14_1 := cz BK268 1 (.int .i64 a0_1)
      have hcz14_2 := cz BK268 2 (.string a0_2)
      have hcz14_3 := cz BK268 3 (.string a0_3)
      have hcz14_4 := cz BK268 4 (.int .i64 a0_4)
      have hfz14_0 := fz BK268 0
      have hfz14_1 := fz BK268 1
      have hfz14_2 := fz BK268 2
      have hfz14_3 := fz BK268 3
      have hfz14_4 := fz BK268 4
      go_wp2
      go_meet
      case rel => exact ⟨_, ((a0_4 == 0)), tE, H', ⟨by have := HJ2.out; first | omega | exact Nat.le_refl _⟩, ⟨by refine bU ?_; exact BK268.out⟩, ⟨by repeat (first | (with_reducible first | exact HB.out | apply below_alloc | apply pw_below_drewN | apply below_drew1 | refine below_set ?_ GE268.out) | exact HB.out)⟩⟩
     ·rw [if_neg c13] at H
      have c13b0 : (a0_1 == 3) = false := beq_eq_false_iff_ne.mpr c13
      have c13b1 : (a0_1 != 3) = true := bne_iff_ne.mpr c13
      (first | rw [c13b0] | (simp only [i64_w, i32_w]; rw [c13b0]) | (rw [c13b2]; simp only [Bool.not_false, Bool.not_true]) | skip)
      have H' := Aside0.mk H
      clear H
      have hcz15_0 := cz BK268 0 (.int .i64 a0_0)
      have hcz15_1 := cz BK268 1 (.int .i64 a0_1)
      have hcz15_2 := cz BK268 2 (.string a0_2)
      have hcz15_3 := cz BK268 3 (.string a0_3)
      have hcz15_4 := cz BK268 4 (.int .i64 a0_4)
      have hfz15_0 := fz BK268 0
      have hfz15_1 := fz BK268 1
      have hfz15_2 := fz BK268 2
      have hfz15_3 := fz BK268 3
      have hfz15_4 := fz BK268 4
      go_wp2
      go_meet
      case rel => exact ⟨_, (false), tE, H', ⟨by have := HJ2.out; first | omega | exact Nat.le_refl _⟩, ⟨by refine bU ?_; exact BK268.out⟩, ⟨by repeat (first | (with_reducible first | exact HB.out | apply below_alloc | apply pw_below_drewN | apply below_drew1 | refine below_set ?_ GE268.out) | exact HB.out)⟩⟩
    case rest =>
     clear HC12
     try clear c1
     try clear p2
     try clear c3
     try clear c5
     try clear c5b0
     try clear c5b1
     try clear c5b2
     try clear c6
     try clear p6
     try clear c9
     try clear c13
     try clear c13b0
     try clear c13b1
     try clear c13b2
     try clear hcz11_0
     try clear hcz11_1
     try clear hcz11_2
     try clear hcz11_3
     try clear hcz11_4
     try clear hcz14_0
     try clear hcz14_1
     try clear hcz14_2
     try clear hcz14_3
     try clear hcz14_4
     try clear hcz15_0
     try clear hcz15_1
     try clear hcz15_2
     try clear hcz15_3
     try clear hcz15_4
     try clear hcz7_0
     try clear hcz7_1
     try clear hcz7_2
     try clear hcz7_3
     try clear hcz7_4
     try clear hcz8_0
     try clear hcz8_1
     try clear hcz8_2
     try clear hcz8_3
     try clear hcz8_4
     try clear hfz11_0
     try clear hfz11_1
     try clear hfz11_2
     try clear hfz11_3
     try clear hfz11_4
     try clear hfz14_0
     try clear hfz14_1
     try clear hfz14_2
     try clear hfz14_3
     try clear hfz14_4
     try clear hfz15_0
     try clear hfz15_1
     try clear hfz15_2
     try clear hfz15_3
     try clear hfz15_4
     try clear hfz7_0
     try clear hfz7_1
     try clear hfz7_2
     try clear hfz7_3
     try clear hfz7_4
     try clear hfz8_0
     try clear hfz8_1
     try clear hfz8_2
     try clear hfz8_3
     try clear hfz8_4
     try clear p2
     obtain ⟨kq, x18_11, rfl, HA, HJ11, BK268, HB⟩ := hcut
     cases kq with
     | zero => exact absurd HA.out (by simp [impl_Change_changed.j1])
     | succ kj11 =>
      have H := HA.out
      clear HA
      simp only [impl_Change_changed.j1] at H
      by_cases c16 : x18_11 = true
      ·subst c16
       have H1 : ((impl_inRange.f 0 (-1000000000000000) 1000000000000000).bind fun t271 => (some (0, t271))) = some (r1, r2) := by rw [if_pos rfl] at H; exact H
       clear H
       have H := H1
       clear H1
       replace H := Option.bind_eq_some_iff.mp H
       obtain ⟨t271, A170, H⟩ := H
       replace H : (some (0, t271)) = some (r1, r2) := H
       have A17 := Aside0.mk A170
       clear A170
       simp only [Option.some.injEq, Prod.mk.injEq] at H
       obtain ⟨rfl, rfl⟩ := H
       go_wp2_with (first | ((with_reducible refine gate_callee (f := 35) rfl ?_); refine goesL_ (some 50) rfl rfl Try.func35 (by kernel_rfl) rfl #[.int .i64 0, .int .i64 (-1000000000000000), .int .i64 1000000000000000] rfl aE ?_; (with_reducible refine (impl_inRange.calls 0 (-1000000000000000) 1000000000000000 t271 _ A17.out).mono ?_); rintro e w' ⟨rfl, ⟨nd, rfl⟩⟩; refine ⟨_, rfl, ?_⟩))
       go_ret2
       exact ⟨eE, lV1 GE268⟩
      ·replace c16 := Bool.eq_false_iff.mpr c16
       subst c16
       have H1 : (if a0_1 = 3 then ((impl_inRange.f a1 (-1000000000000000) 1000000000000000).bind fun t272 => (if t272 = true then ((impl_size.f a1).bind fun t273 => ((impl_size.f a0_4).bind fun t274 => (if t274 = 0 then (none) else (if t273 ≤ (wrap64 (Int.tdiv (1000000000000000 : Int) t274)) then ((impl_inRange.f (wrap64 (a1 * a0_4)) (-1000000000000000) 1000000000000000).bind fun t275 => (some (wrap64 (a1 * a0_4), t275))) else (some (0, false)))))) else (some (0, false)))) else (some (0, false))) = some (r1, r2) := by rw [if_neg (show ¬ (false = true) by decide)] at H; exact H
       clear H
       have H := H1
       clear H1
       by_cases c18 : a0_1 = 3
       ·rw [if_pos c18] at H
        have c18b0 : (a0_1 == 3) = true := beq_iff_eq.mpr c18
        have c18b1 : (a0_1 != 3) = false := bne_eq_false_iff_eq.mpr c18
        clear c18
        replace H := Option.bind_eq_some_iff.mp H
        obtain ⟨t272, A190, H⟩ := H
        replace H : (if t272 = true then ((impl_size.f a1).bind fun t273 => ((impl_size.f a0_4).bind fun t274 => (if t274 = 0 then (none) else (if t273 ≤ (wrap64 (Int.tdiv (1000000000000000 : Int) t274)) then ((impl_inRange.f (wrap64 (a1 * a0_4)) (-1000000000000000) 1000000000000000).bind fun t275 => (some (wrap64 (a1 * a0_4), t275))) else (some (0, false)))))) else (some (0, false))) = some (r1, r2) := H
        have A19 := Aside0.mk A190
        clear A190
        by_cases c20 : t272 = true
        ·subst c20
         have H1 : ((impl_size.f a1).bind fun t273 => ((impl_size.f a0_4).bind fun t274 => (if t274 = 0 then (none) else (if t273 ≤ (wrap64 (Int.tdiv (1000000000000000 : Int) t274)) then ((impl_inRange.f (wrap64 (a1 * a0_4)) (-1000000000000000) 1000000000000000).bind fun t275 => (some (wrap64 (a1 * a0_4), t275))) else (some (0, false)))))) = some (r1, r2) := by rw [if_pos rfl] at H; exact H
         clear H
         have H := H1
         clear H1
         replace H := Option.bind_eq_some_iff.mp H
         obtain ⟨t273, A210, H⟩ := H
         replace H : ((impl_size.f a0_4).bind fun t274 => (if t274 = 0 then (none) else (if t273 ≤ (wrap64 (Int.tdiv (1000000000000000 : Int) t274)) then ((impl_inRange.f (wrap64 (a1 * a0_4)) (-1000000000000000) 1000000000000000).bind fun t275 => (some (wrap64 (a1 * a0_4), t275))) else (some (0, false))))) = some (r1, r2) := H
         have A21 := Aside0.mk A210
         clear A210
         replace H := Option.bind_eq_some_iff.mp H
         obtain ⟨t274, A220, H⟩ := H
         replace H : (if t274 = 0 then (none) else (if t273 ≤ (wrap64 (Int.tdiv (1000000000000000 : Int) t274)) then ((impl_inRange.f (wrap64 (a1 * a0_4)) (-1000000000000000) 1000000000000000).bind fun t275 => (some (wrap64 (a1 * a0_4), t275))) else (some (0, false)))) = some (r1, r2) := H
         have A22 := Aside0.mk A220
         clear A220
         by_cases c23 : t274 = 0
         ·rw [if_pos c23] at H
          exact absurd H (by simp)
         ·rw [if_neg c23] at H
          have c23b0 : (t274 == 0) = false := beq_eq_false_iff_ne.mpr c23
          have c23b1 : (t274 != 0) = true := bne_iff_ne.mpr c23
          by_cases c24 : t273 ≤ (wrap64 (Int.tdiv (1000000000000000 : Int) t274))
          ·rw [if_pos c24] at H
           have c24b0 : decide (t273 ≤ (wrap64 (Int.tdiv (1000000000000000 : Int) t274))) = true := decide_eq_true c24
           clear c24
           replace H := Option.bind_eq_some_iff.mp H
           obtain ⟨t275, A250, H⟩ := H
           replace H : (some (wrap64 (a1 * a0_4), t275)) = some (r1, r2) := H
           have A25 := Aside0.mk A250
           clear A250
           simp only [Option.some.injEq, Prod.mk.injEq] at H
           obtain ⟨rfl, rfl⟩ := H
           try go_wp2
           replace BK268 := Aside0.mk (blk_drew BK268.out)
           replace HB := Aside0.mk (below_drew1 HB.out)
           refine start_ (n := 17) (S := fun w' => w'.cell? ⟨gb268, 0, none⟩ = some (.int .i64 a0_0) ∧ w'.cell? ⟨gb268, 1, none⟩ = some (.int .i64 a0_1) ∧ w'.cell? ⟨gb268, 2, none⟩ = some (.string a0_2) ∧ w'.cell? ⟨gb268, 3, none⟩ = some (.string a0_3) ∧ w'.cell? ⟨gb268, 4, none⟩ = some (.int .i64 a0_4)) (ds := []) #[false, false, false, false, false, false, false, false, false, false, false, false, false, false, false, false, false] (by kernel_rfl) rfl rfl ⟨cz BK268 0 _, cz BK268 1 _, cz BK268 2 _, cz BK268 3 _, cz BK268 4 _⟩ (fun hHeld => ?_); refine with_tabW impl_Change_changed.tab6 impl_Change_changed.bits6 (fun HT_ HW_ => ?_)
           generalize wc.drew = w26 at BK268 HB hHeld ⊢
           refine pureA 0 28 (bz 17 1) rfl rfl (any_of HT_.out (by kernel_rfl)) ?_
           refine takeA 1 29 (bz 17 3) rfl rfl (take_ofW HT_.out HW_.out (by kernel_rfl)) hHeld (by rintro w' ⟨s0, s1, s2, s3, s4⟩; go_simp; with_reducible rfl) ?_
           refine pureA 2 30 (bz 17 7) rfl rfl (any_of HT_.out (by kernel_rfl)) ?_
           refine pureA 3 31 (bz 17 15) rfl rfl (any_of HT_.out (by kernel_rfl)) ?_
           refine pureA 4 32 (bz 17 31) rfl rfl (any_of HT_.out (by kernel_rfl)) ?_
           refine one_ (i := 5) (N := some 33) (bz 17 63) rfl rfl (one_of HT_.out (by kernel_rfl)) (by decide) (fun K hK => ?_)
           refine goes_ Try.func35 (by kernel_rfl) rfl #[.int .i64 a1, .int .i64 (-1000000000000000), .int .i64 1000000000000000] (by rfl) rfl rfl aE ?_
           with_reducible refine (impl_inRange.calls a1 (-1000000000000000) 1000000000000000 true _ A19.out).mono ?_
           rintro e w' ⟨rfl, ⟨nd, rfl⟩⟩
           refine ⟨_, rfl, ?_⟩
           refine hK.out _ _ ⟨cz BK268 0 _, cz BK268 1 _, cz BK268 2 _, cz BK268 3 _, cz BK268 4 _⟩ (fun hHeld => ?_)
           clear hK K
           refine norm_ (a' := ?_) ?_ ?_
           rotate_left
           ·show Act.put _ (some 33) _ = _
            simp only [Act.put, List.setIfInBounds_toArray, List.set_cons_zero, List.set_cons_succ, i64_w, i32_w]
            rfl
           refine pureA 6 34 (bz 17 127) rfl rfl (any_of HT_.out (by kernel_rfl)) ?_
           refine pureA 7 35 (bz 17 255) rfl rfl (any_of HT_.out (by kernel_rfl)) ?_
           refine pureA 8 36 (bz 17 511) rfl rfl (any_of HT_.out (by kernel_rfl)) ?_
           refine pureA 10 38 (bz 17 1535) rfl rfl (any_of HT_.out (by kernel_rfl)) ?_
           refine takeA 11 39 (bz 17 3583) rfl rfl (take_ofW HT_.out HW_.out (by kernel_rfl)) hHeld (by rintro w' ⟨s0, s1, s2, s3, s4⟩; go_simp; with_reducible rfl) ?_
           refine one_ (i := 9) (N := some 37) (bz 17 4095) rfl rfl (one_of HT_.out (by kernel_rfl)) (by decide) (fun K hK => ?_)
           refine goes_ Try.func71 (by kernel_rfl) rfl #[.int .i64 a1] (by rfl) rfl rfl aE ?_
           with_reducible refine (impl_size.calls a1 t273 _ A21.out).mono ?_
           rintro e w27 ⟨rfl, hb⟩
           refine ⟨_, rfl, ?_⟩
           replace BK268 := bB (bV BK268) hb
           replace HB := bH (lV1 GE268) hb
           (try clear hb)
           (try clear hb2)
           (try clear hk)
           (try clear hi)
           refine hK.out _ _ ⟨cz BK268 0 _, cz BK268 1 _, cz BK268 2 _, cz BK268 3 _, cz BK268 4 _⟩ (fun hHeld => ?_)
           clear hK K
           refine norm_ (a' := ?_) ?_ ?_
           rotate_left
           ·show Act.put _ (some 37) _ = _
            simp only [Act.put, List.setIfInBounds_toArray, List.set_cons_zero, List.set_cons_succ, i64_w, i32_w]
            rfl
           refine one_ (i := 12) (N := some 40) (bz 17 8191) rfl rfl (one_of HT_.out (by kernel_rfl)) (by decide) (fun K hK => ?_)
           refine goes_ Try.func71 (by kernel_rfl) rfl #[.int .i64 a0_4] (by rfl) rfl rfl aE ?_
           with_reducible refine (impl_size.calls a0_4 t274 _ A22.out).mono ?_
           rintro e w28 ⟨rfl, hb⟩
           refine ⟨_, rfl, ?_⟩
           replace BK268 := bB (bV BK268) hb
           replace HB := bH (lV1 GE268) hb
           (try clear hb)
           (try clear hb2)
           (try clear hk)
           (try clear hi)
           refine hK.out _ _ ⟨cz BK268 0 _, cz BK268 1 _, cz BK268 2 _, cz BK268 3 _, cz BK268 4 _⟩ (fun hHeld => ?_)
           clear hK K
           refine norm_ (a' := ?_) ?_ ?_
           rotate_left
           ·show Act.put _ (some 40) _ = _
            simp only [Act.put, List.setIfInBounds_toArray, List.set_cons_zero, List.set_cons_succ, i64_w, i32_w]
            rfl
           refine pureA 13 41 (bz 17 16383) rfl rfl (any_of HT_.out (by kernel_rfl)) ?_
           refine pureA 14 42 (bz 17 32767) rfl rfl (any_of HT_.out (by kernel_rfl)) ?_
           refine pureA 15 43 (bz 17 65535) rfl rfl (any_of HT_.out (by kernel_rfl)) ?_
           refine pureA 16 27 (bz 17 131071) rfl rfl (any_of HT_.out (by kernel_rfl)) ?_
           refine done_ (done_of HT_.out (by kernel_rfl)) ?_
           have hcz29_0 := cz BK268 0 (.int .i64 a0_0)
           have hcz29_1 := cz BK268 1 (.int .i64 a0_1)
           have hcz29_2 := cz BK268 2 (.string a0_2)
           have hcz29_3 := cz BK268 3 (.string a0_3)
           have hcz29_4 := cz BK268 4 (.int .i64 a0_4)
           have hfz29_0 := fz BK268 0
           have hfz29_1 := fz BK268 1
           have hfz29_2 := fz BK268 2
           have hfz29_3 := fz BK268 3
           have hfz29_4 := fz BK268 4
           try go_wp2_with (first | ((with_reducible refine gate_callee (f := 35) rfl ?_); refine goesL_ (some 50) rfl rfl Try.func35 (by kernel_rfl) rfl #[.int .i64 (wrap64 (a1 * a0_4)), .int .i64 (-1000000000000000), .int .i64 1000000000000000] rfl aE ?_; (with_reducible refine (impl_inRange.calls (wrap64 (a1 * a0_4)) (-1000000000000000) 1000000000000000 t275 _ A25.out).mono ?_); rintro e w' ⟨rfl, ⟨nd, rfl⟩⟩; refine ⟨_, rfl, ?_⟩))
           go_ret2
           exact ⟨eE, lV1 GE268⟩
          ·rw [if_neg c24] at H
           have c24b0 : decide (t273 ≤ (wrap64 (Int.tdiv (1000000000000000 : Int) t274))) = false := decide_eq_false c24
           clear c24
           simp only [Option.some.injEq, Prod.mk.injEq] at H
           obtain ⟨rfl, rfl⟩ := H
           try go_wp2
           replace BK268 := Aside0.mk (blk_drew BK268.out)
           replace HB := Aside0.mk (below_drew1 HB.out)
           refine start_ (n := 17) (S := fun w' => w'.cell? ⟨gb268, 0, none⟩ = some (.int .i64 a0_0) ∧ w'.cell? ⟨gb268, 1, none⟩ = some (.int .i64 a0_1) ∧ w'.cell? ⟨gb268, 2, none⟩ = some (.string a0_2) ∧ w'.cell? ⟨gb268, 3, none⟩ = some (.string a0_3) ∧ w'.cell? ⟨gb268, 4, none⟩ = some (.int .i64 a0_4)) (ds := []) #[false, false, false, false, false, false, false, false, false, false, false, false, false, false, false, false, false] (by kernel_rfl) rfl rfl ⟨cz BK268 0 _, cz BK268 1 _, cz BK268 2 _, cz BK268 3 _, cz BK268 4 _⟩ (fun hHeld => ?_); refine with_tabW impl_Change_changed.tab6 impl_Change_changed.bits6 (fun HT_ HW_ => ?_)
           generalize wc.drew = w30 at BK268 HB hHeld ⊢
           refine pureA 0 28 (bz 17 1) rfl rfl (any_of HT_.out (by kernel_rfl)) ?_
           refine takeA 1 29 (bz 17 3) rfl rfl (take_ofW HT_.out HW_.out (by kernel_rfl)) hHeld (by rintro w' ⟨s0, s1, s2, s3, s4⟩; go_simp; with_reducible rfl) ?_
           refine pureA 2 30 (bz 17 7) rfl rfl (any_of HT_.out (by kernel_rfl)) ?_
           refine pureA 3 31 (bz 17 15) rfl rfl (any_of HT_.out (by kernel_rfl)) ?_
           refine pureA 4 32 (bz 17 31) rfl rfl (any_of HT_.out (by kernel_rfl)) ?_
           refine one_ (i := 5) (N := some 33) (bz 17 63) rfl rfl (one_of HT_.out (by kernel_rfl)) (by decide) (fun K hK => ?_)
           refine goes_ Try.func35 (by kernel_rfl) rfl #[.int .i64 a1, .int .i64 (-1000000000000000), .int .i64 1000000000000000] (by rfl) rfl rfl aE ?_
           with_reducible refine (impl_inRange.calls a1 (-1000000000000000) 1000000000000000 true _ A19.out).mono ?_
           rintro e w' ⟨rfl, ⟨nd, rfl⟩⟩
           refine ⟨_, rfl, ?_⟩
           refine hK.out _ _ ⟨cz BK268 0 _, cz BK268 1 _, cz BK268 2 _, cz BK268 3 _, cz BK268 4 _⟩ (fun hHeld => ?_)
           clear hK K
           refine norm_ (a' := ?_) ?_ ?_
           rotate_left
           ·show Act.put _ (some 33) _ = _
            simp only [Act.put, List.setIfInBounds_toArray, List.set_cons_zero, List.set_cons_succ, i64_w, i32_w]
            rfl
           refine pureA 6 34 (bz 17 127) rfl rfl (any_of HT_.out (by kernel_rfl)) ?_
           refine pureA 7 35 (bz 17 255) rfl rfl (any_of HT_.out (by kernel_rfl)) ?_
           refine pureA 8 36 (bz 17 511) rfl rfl (any_of HT_.out (by kernel_rfl)) ?_
           refine pureA 10 38 (bz 17 1535) rfl rfl (any_of HT_.out (by kernel_rfl)) ?_
           refine takeA 11 39 (bz 17 3583) rfl rfl (take_ofW HT_.out HW_.out (by kernel_rfl)) hHeld (by rintro w' ⟨s0, s1, s2, s3, s4⟩; go_simp; with_reducible rfl) ?_
           refine one_ (i := 9) (N := some 37) (bz 17 4095) rfl rfl (one_of HT_.out (by kernel_rfl)) (by decide) (fun K hK => ?_)
           refine goes_ Try.func71 (by kernel_rfl) rfl #[.int .i64 a1] (by rfl) rfl rfl aE ?_
           with_reducible refine (impl_size.calls a1 t273 _ A21.out).mono ?_
           rintro e w31 ⟨rfl, hb⟩
           refine ⟨_, rfl, ?_⟩
           replace BK268 := bB (bV BK268) hb
           replace HB := bH (lV1 GE268) hb
           (try clear hb)
           (try clear hb2)
           (try clear hk)
           (try clear hi)
           refine hK.out _ _ ⟨cz BK268 0 _, cz BK268 1 _, cz BK268 2 _, cz BK268 3 _, cz BK268 4 _⟩ (fun hHeld => ?_)
           clear hK K
           refine norm_ (a' := ?_) ?_ ?_
           rotate_left
           ·show Act.put _ (some 37) _ = _
            simp only [Act.put, List.setIfInBounds_toArray, List.set_cons_zero, List.set_cons_succ, i64_w, i32_w]
            rfl
           refine one_ (i := 12) (N := some 40) (bz 17 8191) rfl rfl (one_of HT_.out (by kernel_rfl)) (by decide) (fun K hK => ?_)
           refine goes_ Try.func71 (by kernel_rfl) rfl #[.int .i64 a0_4] (by rfl) rfl rfl aE ?_
           with_reducible refine (impl_size.calls a0_4 t274 _ A22.out).mono ?_
           rintro e w32 ⟨rfl, hb⟩
           refine ⟨_, rfl, ?_⟩
           replace BK268 := bB (bV BK268) hb
           replace HB := bH (lV1 GE268) hb
           (try clear hb)
           (try clear hb2)
           (try clear hk)
           (try clear hi)
           refine hK.out _ _ ⟨cz BK268 0 _, cz BK268 1 _, cz BK268 2 _, cz BK268 3 _, cz BK268 4 _⟩ (fun hHeld => ?_)
           clear hK K
           refine norm_ (a' := ?_) ?_ ?_
           rotate_left
           ·show Act.put _ (some 40) _ = _
            simp only [Act.put, List.setIfInBounds_toArray, List.set_cons_zero, List.set_cons_succ, i64_w, i32_w]
            rfl
           refine pureA 13 41 (bz 17 16383) rfl rfl (any_of HT_.out (by kernel_rfl)) ?_
           refine pureA 14 42 (bz 17 32767) rfl rfl (any_of HT_.out (by kernel_rfl)) ?_
           refine pureA 15 43 (bz 17 65535) rfl rfl (any_of HT_.out (by kernel_rfl)) ?_
           refine pureA 16 27 (bz 17 131071) rfl rfl (any_of HT_.out (by kernel_rfl)) ?_
           refine done_ (done_of HT_.out (by kernel_rfl)) ?_
           try go_wp2
           go_ret2
           exact ⟨eE, lV1 GE268⟩
        ·replace c20 := Bool.eq_false_iff.mpr c20
         subst c20
         have H1 : (some (0, false)) = some (r1, r2) := by rw [if_neg (show ¬ (false = true) by decide)] at H; exact H
         clear H
         have H := H1
         clear H1
         simp only [Option.some.injEq, Prod.mk.injEq] at H
         obtain ⟨rfl, rfl⟩ := H
         try go_wp2
         replace BK268 := Aside0.mk (blk_drew BK268.out)
         replace HB := Aside0.mk (below_drew1 HB.out)
         refine start_ (n := 17) (S := fun w' => w'.cell? ⟨gb268, 0, none⟩ = some (.int .i64 a0_0) ∧ w'.cell? ⟨gb268, 1, none⟩ = some (.int .i64 a0_1) ∧ w'.cell? ⟨gb268, 2, none⟩ = some (.string a0_2) ∧ w'.cell? ⟨gb268, 3, none⟩ = some (.string a0_3) ∧ w'.cell? ⟨gb268, 4, none⟩ = some (.int .i64 a0_4)) (ds := []) #[false, false, false, false, false, false, false, false, false, false, false, false, false, false, false, false, false] (by kernel_rfl) rfl rfl ⟨cz BK268 0 _, cz BK268 1 _, cz BK268 2 _, cz BK268 3 _, cz BK268 4 _⟩ (fun hHeld => ?_); refine with_tabW impl_Change_changed.tab6 impl_Change_changed.bits6 (fun HT_ HW_ => ?_)
         generalize wc.drew = w33 at BK268 HB hHeld ⊢
         refine pureA 0 28 (bz 17 1) rfl rfl (any_of HT_.out (by kernel_rfl)) ?_
         refine takeA 1 29 (bz 17 3) rfl rfl (take_ofW HT_.out HW_.out (by kernel_rfl)) hHeld (by rintro w' ⟨s0, s1, s2, s3, s4⟩; go_simp; with_reducible rfl) ?_
         refine pureA 2 30 (bz 17 7) rfl rfl (any_of HT_.out (by kernel_rfl)) ?_
         refine pureA 3 31 (bz 17 15) rfl rfl (any_of HT_.out (by kernel_rfl)) ?_
         refine pureA 4 32 (bz 17 31) rfl rfl (any_of HT_.out (by kernel_rfl)) ?_
         refine one_ (i := 5) (N := some 33) (bz 17 63) rfl rfl (one_of HT_.out (by kernel_rfl)) (by decide) (fun K hK => ?_)
         refine goes_ Try.func35 (by kernel_rfl) rfl #[.int .i64 a1, .int .i64 (-1000000000000000), .int .i64 1000000000000000] (by rfl) rfl rfl aE ?_
         with_reducible refine (impl_inRange.calls a1 (-1000000000000000) 1000000000000000 false _ A19.out).mono ?_
         rintro e w' ⟨rfl, ⟨nd, rfl⟩⟩
         refine ⟨_, rfl, ?_⟩
         refine hK.out _ _ ⟨cz BK268 0 _, cz BK268 1 _, cz BK268 2 _, cz BK268 3 _, cz BK268 4 _⟩ (fun hHeld => ?_)
         clear hK K
         refine norm_ (a' := ?_) ?_ ?_
         rotate_left
         ·show Act.put _ (some 33) _ = _
          simp only [Act.put, List.setIfInBounds_toArray, List.set_cons_zero, List.set_cons_succ, i64_w, i32_w]
          rfl
         refine pureA 6 34 (bz 17 127) rfl rfl (any_of HT_.out (by kernel_rfl)) ?_
         refine pureA 7 35 (bz 17 255) rfl rfl (any_of HT_.out (by kernel_rfl)) ?_
         refine pureU 8 36 (bz 17 511) rfl rfl (any_of HT_.out (by kernel_rfl)) ?_
         refine pureU 9 37 (bz 17 1023) rfl rfl (any_of HT_.out (by kernel_rfl)) ?_
         refine pureU 10 38 (bz 17 2047) rfl rfl (any_of HT_.out (by kernel_rfl)) ?_
         refine pureU 11 39 (bz 17 4095) rfl rfl (any_of HT_.out (by kernel_rfl)) ?_
         refine pureU 12 40 (bz 17 8191) rfl rfl (any_of HT_.out (by kernel_rfl)) ?_
         refine pureU 13 41 (bz 17 16383) rfl rfl (any_of HT_.out (by kernel_rfl)) ?_
         refine pureU 14 42 (bz 17 32767) rfl rfl (any_of HT_.out (by kernel_rfl)) ?_
         refine pureA 15 43 (bz 17 65535) rfl rfl (any_of HT_.out (by kernel_rfl)) ?_
         refine pureA 16 27 (bz 17 131071) rfl rfl (any_of HT_.out (by kernel_rfl)) ?_
         refine done_ (done_of HT_.out (by kernel_rfl)) ?_
         try go_wp2
         go_ret2
         exact ⟨eE, lV1 GE268⟩
       ·rw [if_neg c18] at H
        have c18b0 : (a0_1 == 3) = false := beq_eq_false_iff_ne.mpr c18
        have c18b1 : (a0_1 != 3) = true := bne_iff_ne.mpr c18
        simp only [Option.some.injEq, Prod.mk.injEq] at H
        obtain ⟨rfl, rfl⟩ := H
        try go_wp2
        replace BK268 := Aside0.mk (blk_drew BK268.out)
        replace HB := Aside0.mk (below_drew1 HB.out)
        refine start_ (n := 17) (S := fun w' => w'.cell? ⟨gb268, 0, none⟩ = some (.int .i64 a0_0) ∧ w'.cell? ⟨gb268, 1, none⟩ = some (.int .i64 a0_1) ∧ w'.cell? ⟨gb268, 2, none⟩ = some (.string a0_2) ∧ w'.cell? ⟨gb268, 3, none⟩ = some (.string a0_3) ∧ w'.cell? ⟨gb268, 4, none⟩ = some (.int .i64 a0_4)) (ds := []) #[false, false, false, false, false, false, false, false, false, false, false, false, false, false, false, false, false] (by kernel_rfl) rfl rfl ⟨cz BK268 0 _, cz BK268 1 _, cz BK268 2 _, cz BK268 3 _, cz BK268 4 _⟩ (fun hHeld => ?_); refine with_tabW impl_Change_changed.tab6 impl_Change_changed.bits6 (fun HT_ HW_ => ?_)
        generalize wc.drew = w34 at BK268 HB hHeld ⊢
        refine pureA 0 28 (bz 17 1) rfl rfl (any_of HT_.out (by kernel_rfl)) ?_
        refine takeA 1 29 (bz 17 3) rfl rfl (take_ofW HT_.out HW_.out (by kernel_rfl)) hHeld (by rintro w' ⟨s0, s1, s2, s3, s4⟩; go_simp; with_reducible rfl) ?_
        refine pureA 2 30 (bz 17 7) rfl rfl (any_of HT_.out (by kernel_rfl)) ?_
        refine pureA 3 31 (bz 17 15) rfl rfl (any_of HT_.out (by kernel_rfl)) ?_
        refine pureU 4 32 (bz 17 31) rfl rfl (any_of HT_.out (by kernel_rfl)) ?_
        refine pureU 5 33 (bz 17 63) rfl rfl (any_of HT_.out (by kernel_rfl)) ?_
        refine pureA 6 34 (bz 17 127) rfl rfl (any_of HT_.out (by kernel_rfl)) ?_
        refine pureA 7 35 (bz 17 255) rfl rfl (any_of HT_.out (by kernel_rfl)) ?_
        refine pureU 8 36 (bz 17 511) rfl rfl (any_of HT_.out (by kernel_rfl)) ?_
        refine pureU 9 37 (bz 17 1023) rfl rfl (any_of HT_.out (by kernel_rfl)) ?_
        refine pureU 10 38 (bz 17 2047) rfl rfl (any_of HT_.out (by kernel_rfl)) ?_
        refine pureU 11 39 (bz 17 4095) rfl rfl (any_of HT_.out (by kernel_rfl)) ?_
        refine pureU 12 40 (bz 17 8191) rfl rfl (any_of HT_.out (by kernel_rfl)) ?_
        refine pureU 13 41 (bz 17 16383) rfl rfl (any_of HT_.out (by kernel_rfl)) ?_
        refine pureU 14 42 (bz 17 32767) rfl rfl (any_of HT_.out (by kernel_rfl)) ?_
        refine pureA 15 43 (bz 17 65535) rfl rfl (any_of HT_.out (by kernel_rfl)) ?_
        refine pureA 16 27 (bz 17 131071) rfl rfl (any_of HT_.out (by kernel_rfl)) ?_
        refine done_ (done_of HT_.out (by kernel_rfl)) ?_
        try go_wp2
        go_ret2
        exact ⟨eE, lV1 GE268⟩
end Go.Proofs.Ytdgaphefgpjbfaa.PFnExactMigrateSave
namespace Go.Proofs.Ytdgaphefgpjbfaa.PFnExactMigrateSave
open Go.RowKit Go.Proofs.YtdgaphefgpjbfaaW.PrintWords Go.Proofs.YtdgaphefgpjbfaaW.PrintLast Go.Proofs.YtdgaphefgpjbfaaW.PrintMore
attribute [local go_sem] max2_int min2_int max_two min_two max_three min_three max_four min_four   -- for this text's walks alone
set_option linter.unusedVariables false
set_option linter.unusedSimpArgs false
def impl_change.f (k : Nat) (l0 : List (S59)) (a1_0 : Int) (a1_1 : Int) (a1_2 : ByteArray) (a1_3 : ByteArray) (a1_4 : Int) : Option ((List (S59)) × Bool) := (impl_valuePlace.f k l0 a1_2).bind fun bt277 => (if a1_1 = 5 then (if bt277.2 = true then (some (l0, true)) else ((impl_Value_58.f l0 bt277.1 (([(⟨a1_2, a1_4, (⟨#[]⟩ : ByteArray)⟩ : S59)] : List (S59)))).bind fun t282 => (some (t282, decide ((l0.length : Int) < 30))))) else (if bt277.2 = true then (if a1_1 = 1 then (if 0 ≤ bt277.1 then (if bt277.1 < (l0.length : Int) then ((impl_valuePlace.f k l0 a1_3).bind fun bt287 => (if bt287.2 = true then (some (([] : List (S59)), false)) else ((impl_Value_59.f l0 bt277.1 (wrap64 (bt277.1 + 1))).bind fun t289 => ((impl_valuePlace.f k t289 a1_3).bind fun bt292 => ((impl_Value_58.f t289 bt292.1 (([(⟨a1_3, (rd_T59 l0 bt277.1).f1, (rd_T59 l0 bt277.1).f2⟩ : S59)] : List (S59)))).bind fun t297 => (some (t297, true))))))) else (none)) else (none)) else (if a1_1 = 4 then ((impl_Value_59.f l0 bt277.1 (wrap64 (bt277.1 + 1))).bind fun t300 => (some (t300, true))) else (if 0 ≤ bt277.1 then (if bt277.1 < (l0.length : Int) then ((impl_Change_changed.f k a1_0 a1_1 a1_2 a1_3 a1_4 ((rd_T59 l0 bt277.1).f1)).bind fun bt304 => (some ((l0.set (bt277.1 : Int).toNat (⟨(rd_T59 l0 bt277.1).f0, bt304.1, (rd_T59 l0 bt277.1).f2⟩ : S59)), bt304.2))) else (none)) else (none)))) else (some (l0, true))))
theorem impl_change.mono : ∀ a0 a1 a2 a3 a4 a5 k, LeO (impl_change.f k a0 a1 a2 a3 a4 a5) (impl_change.f (k + 1) a0 a1 a2 a3 a4 a5) := by
 intro a0 a1 a2 a3 a4 a5 k
 unfold impl_change.f
 repeat' first
   | (with_reducible exact impl_Change_changed.mono _ _ _ _ _ _ _)
   | (with_reducible exact impl_valuePlace.mono _ _ _)
   | (with_reducible first | exact LeO.refl _ | exact LeO.none _ | refine LeO.ite ?_ ?_ | refine LeO.bind ?_ (fun _ => ?_))
   | exact impl_Change_changed.mono _ _ _ _ _ _ _
   | exact impl_valuePlace.mono _ _ _ | exact LeO.none _ | refine LeO.ite ?_ ?_ | refine LeO.bind ?_ (fun _ => ?_)
def impl_change.T20 : Bool × List (List Nat × List Nat) := (true, [([], []), ([], []), ([], []), ([1, 2], [1, 2]), ([3], [3]), ([4], [4]), ([0, 5], [0, 5]), ([6], [6]), ([7], [7]), ([7], [7]), ([8, 6, 0, 1, 2, 3, 4, 5, 6, 7, 8], [8]), ([9, 10, 0, 1, 2, 3, 4, 5, 6, 7, 8, 9, 10], [9])])
def impl_change.B20 : List Nat := [0, 0, 0, 6, 14, 30, 63, 127, 255, 255, 511, 2047]
theorem impl_change.tab20 : rtab .any (opsOf Try.f39 20) = impl_change.T20 := by kernel_rfl
theorem impl_change.bits20 : waitsOk impl_change.T20.2 impl_change.B20 = true := by kernel_rfl
set_option maxHeartbeats 8000000 in
set_option maxRecDepth 100000 in
theorem impl_change.calls (k : Nat) (P0_ : Nat → Prop) (u9000_ : Value) (l0 : List (S59)) (a1_0 : Int) (a1_1 : Int) (a1_2 : ByteArray) (a1_3 : ByteArray) (a1_4 : Int) (r1 : List (S59)) (r2 : Bool) (w0 w : World) (hB : Below w0.heap.size w0 w) (ho0 : Kd.R k59 59 w w0.heap.size P0_ u9000_ l0) (h : impl_change.f k l0 a1_0 a1_1 a1_2 a1_3 a1_4 = some (r1, r2)) :
  Calls Try.prog 39 #[u9000_, .agg #[.int .i64 a1_0, .int .i64 a1_1, .string a1_2, .string a1_3, .int .i64 a1_4]] w fun e w' => ∃ v0_ : Value, e = .returned (.tuple #[v0_, .bool r2]) ∧ Kd.R k59 59 w' w0.heap.size (fun k_ => (P0_ k_ ∨ w.heap.size ≤ k_)) v0_ r1 ∧ Below w0.heap.size w0 w' ∧ Kept w w' (fun k_ => P0_ k_) := by
 have hu56 := Try.underlying56
 have hu59 := Try.underlying59
 have HO0 := Aside0.mk (show Kd.R k59 59 w w0.heap.size (fun k_ => (P0_ k_ ∨ w.heap.size ≤ k_)) u9000_ l0 from Kd.R_mono ho0 (fun k_ hk => (.inl hk)))
 have HK := Aside0.mk (Kept.refl w (fun k_ => P0_ k_))
 have HW0 := Aside0.mk hB.size
 have HB := Aside0.mk hB
 clear hB
 have H : ((impl_valuePlace.f k l0 a1_2).bind fun bt277 => (if a1_1 = 5 then (if bt277.2 = true then (some (l0, true)) else ((impl_Value_58.f l0 bt277.1 (([(⟨a1_2, a1_4, (⟨#[]⟩ : ByteArray)⟩ : S59)] : List (S59)))).bind fun t282 => (some (t282, decide ((l0.length : Int) < 30))))) else (if bt277.2 = true then (if a1_1 = 1 then (if 0 ≤ bt277.1 then (if bt277.1 < (l0.length : Int) then ((impl_valuePlace.f k l0 a1_3).bind fun bt287 => (if bt287.2 = true then (some (([] : List (S59)), false)) else ((impl_Value_59.f l0 bt277.1 (wrap64 (bt277.1 + 1))).bind fun t289 => ((impl_valuePlace.f k t289 a1_3).bind fun bt292 => ((impl_Value_58.f t289 bt292.1 (([(⟨a1_3, (rd_T59 l0 bt277.1).f1, (rd_T59 l0 bt277.1).f2⟩ : S59)] : List (S59)))).bind fun t297 => (some (t297, true))))))) else (none)) else (none)) else (if a1_1 = 4 then ((impl_Value_59.f l0 bt277.1 (wrap64 (bt277.1 + 1))).bind fun t300 => (some (t300, true))) else (if 0 ≤ bt277.1 then (if bt277.1 < (l0.length : Int) then ((impl_Change_changed.f k a1_0 a1_1 a1_2 a1_3 a1_4 ((rd_T59 l0 bt277.1).f1)).bind fun bt304 => (some ((l0.set (bt277.1 : Int).toNat (⟨(rd_T59 l0 bt277.1).f0, bt304.1, (rd_T59 l0 bt277.1).f2⟩ : S59)), bt304.2))) else (none)) else (none)))) else (some (l0, true))))) = some (r1, r2) := h
 clear h
 replace H := Option.bind_eq_some_iff.mp H
 obtain ⟨⟨t277, t278⟩, A30, H⟩ := H
 replace H : (if a1_1 = 5 then (if t278 = true then (some (l0, true)) else ((impl_Value_58.f l0 t277 (([(⟨a1_2, a1_4, (⟨#[]⟩ : ByteArray)⟩ : S59)] : List (S59)))).bind fun t282 => (some (t282, decide ((l0.length : Int) < 30))))) else (if t278 = true then (if a1_1 = 1 then (if 0 ≤ t277 then (if t277 < (l0.length : Int) then ((impl_valuePlace.f k l0 a1_3).bind fun bt287 => (if bt287.2 = true then (some (([] : List (S59)), false)) else ((impl_Value_59.f l0 t277 (wrap64 (t277 + 1))).bind fun t289 => ((impl_valuePlace.f k t289 a1_3).bind fun bt292 => ((impl_Value_58.f t289 bt292.1 (([(⟨a1_3, (rd_T59 l0 t277).f1, (rd_T59 l0 t277).f2⟩ : S59)] : List (S59)))).bind fun t297 => (some (t297, true))))))) else (none)) else (none)) else (if a1_1 = 4 then ((impl_Value_59.f l0 t277 (wrap64 (t277 + 1))).bind fun t300 => (some (t300, true))) else (if 0 ≤ t277 then (if t277 < (l0.length : Int) then ((impl_Change_changed.f k a1_0 a1_1 a1_2 a1_3 a1_4 ((rd_T59 l0 t277).f1)).bind fun bt304 => (some ((l0.set (t277 : Int).toNat (⟨(rd_T59 l0 t277).f0, bt304.1, (rd_T59 l0 t277).f2⟩ : S59)), bt304.2))) else (none)) else (none)))) else (some (l0, true)))) = some (r1, r2) := H
 have A3 := Aside0.mk A30
 clear A30
 by_cases c4 : a1_1 = 5
 ·rw [if_pos c4] at H
  have c4b0 : (a1_1 == 5) = true := beq_iff_eq.mpr c4
  have c4b1 : (a1_1 != 5) = false := bne_eq_false_iff_eq.mpr c4
  clear c4
  by_cases c5 : t278 = true
  ·subst c5
   have H1 : (some (l0, true)) = some (r1, r2) := by rw [if_pos rfl] at H; exact H
   clear H
   have H := H1
   clear H1
   simp only [Option.some.injEq, Prod.mk.injEq] at H
   obtain ⟨rfl, rfl⟩ := H
   go_enter Try.func39, Try.ntmps39
   go_wp2_with (first | ((with_reducible refine gate_dst (N := 3) rfl ?_); refine box_event rfl (N := 3) rfl (cs := #[.int .i64 a1_0, .int .i64 a1_1, .string a1_2, .string a1_3, .int .i64 a1_4]) (t := 56) sE ?_; intro gb276 hg w6 hbox hb; replace HO0 := Aside0.mk (Kd.R_below (rU HO0.out) hb); have BK276 := Aside0.mk hbox; have GW276 := Aside0.mk ((by rw [hg]; exact (by first | exact HK.out.1 | exact (show Kept w _ (fun k_ => P0_ k_) from by repeat (first | (with_reducible first | exact HK.out | apply Kept.alloc | apply Kept.drewN | apply Kept.drew) | exact HK.out)).1) : w.heap.size ≤ gb276)); replace HK := Aside0.mk (Kept.below (S := (fun k_ => P0_ k_)) (by repeat (first | (with_reducible first | exact HK.out | apply Kept.alloc | apply Kept.drewN | apply Kept.drew) | exact HK.out)) hb); have GE276 := Aside0.mk ((by rw [hg]; exact (below_size (lU)) : w0.heap.size ≤ gb276)); replace HB := bH (lU) hb; clear hb hbox hg; have hcz7_0 := cz BK276 0 (.int .i64 a1_0); have hcz7_1 := cz BK276 1 (.int .i64 a1_1); have hcz7_2 := cz BK276 2 (.string a1_2); have hcz7_3 := cz BK276 3 (.string a1_3); have hcz7_4 := cz BK276 4 (.int .i64 a1_4); have hfz7_0 := fz BK276 0; have hfz7_1 := fz BK276 1; have hfz7_2 := fz BK276 2; have hfz7_3 := fz BK276 3; have hfz7_4 := fz BK276 4; obtain ⟨Ao8, co8, eo8⟩ := Kd.R_slice HO0.out; subst eo8) | ((with_reducible refine gate_callee (f := 57) rfl ?_); refine goesL_ (some 19) rfl rfl Try.func57 (by kernel_rfl) rfl #[.slice Ao8 l0.length co8, .string a1_2] rfl aE ?_; (with_reducible refine (impl_valuePlace.calls k _ _ l0 a1_2 t277 true _ ?side1 ?side2 A3.out).mono ?_); (case side1 => exact cU (Kd.R_reads' HO0.out).2.2); (case side2 => exact (Kd.R_reads' HO0.out).2.1); rintro e w9 ⟨rfl, hb⟩; refine ⟨_, rfl, ?_⟩; replace HO0 := Aside0.mk (Kd.R_below (rU HO0.out) hb); replace BK276 := bB (bV BK276) hb; replace HK := Aside0.mk (Kept.below (S := (fun k_ => P0_ k_)) (by repeat (first | (with_reducible first | exact HK.out | apply Kept.alloc | apply Kept.drewN | apply Kept.drew | refine Kept.setCell ?_ (.inr GW276.out) _) | exact HK.out)) hb); replace HB := bH (lV1 GE276) hb; (try clear hb); have hcz10_0 := cz BK276 0 (.int .i64 a1_0); have hcz10_1 := cz BK276 1 (.int .i64 a1_1); have hcz10_2 := cz BK276 2 (.string a1_2); have hcz10_3 := cz BK276 3 (.string a1_3); have hcz10_4 := cz BK276 4 (.int .i64 a1_4); have hfz10_0 := fz BK276 0; have hfz10_1 := fz BK276 1; have hfz10_2 := fz BK276 2; have hfz10_3 := fz BK276 3; have hfz10_4 := fz BK276 4))
   go_ret2
   exact ⟨_, eE, by (with_reducible repeat (first | apply Kd.R_alloc | apply Kd.R_drewN | apply Kd.R_drew)); exact HO0.out, lV1 GE276, by repeat (first | (with_reducible first | exact HK.out | apply Kept.alloc | apply Kept.drewN | apply Kept.drew | refine Kept.setCell ?_ (.inr GW276.out) _) | exact HK.out)⟩
  ·replace c5 := Bool.eq_false_iff.mpr c5
   subst c5
   have H1 : ((impl_Value_58.f l0 t277 (([(⟨a1_2, a1_4, (⟨#[]⟩ : ByteArray)⟩ : S59)] : List (S59)))).bind fun t282 => (some (t282, decide ((l0.length : Int) < 30)))) = some (r1, r2) := by rw [if_neg (show ¬ (false = true) by decide)] at H; exact H
   clear H
   have H := H1
   clear H1
   obtain ⟨y279, hy279⟩ : ∃ y_ : List (S59), y_ = (([(⟨a1_2, a1_4, (⟨#[]⟩ : ByteArray)⟩ : S59)] : List (S59))) := ⟨_, rfl⟩
   replace H : ((impl_Value_58.f l0 t277 y279).bind fun t282 => (some (t282, decide ((l0.length : Int) < 30)))) = some (r1, r2) := by first | (rw [hy279]; with_reducible exact H) | (have H2_ := (Option.bind_some _ _).symm.trans H; rw [hy279]; with_reducible exact H2_) | (have H2_ := (Option.bind_some _ _).symm.trans H; with_reducible exact H2_) | with_reducible exact H | (rw [hy279]; exact H) | exact H
   have Ny279 := Aside0.mk hy279
   clear hy279
   replace H := Option.bind_eq_some_iff.mp H
   obtain ⟨t282, A110, H⟩ := H
   replace H : (some (t282, decide ((l0.length : Int) < 30))) = some (r1, r2) := H
   have A11 := Aside0.mk A110
   clear A110
   simp only [Option.some.injEq, Prod.mk.injEq] at H
   obtain ⟨rfl, rfl⟩ := H
   go_enter Try.func39, Try.ntmps39
   go_wp2_with (first | ((with_reducible refine gate_dst (N := 3) rfl ?_); refine box_event rfl (N := 3) rfl (cs := #[.int .i64 a1_0, .int .i64 a1_1, .string a1_2, .string a1_3, .int .i64 a1_4]) (t := 56) sE ?_; intro gb276 hg w12 hbox hb; replace HO0 := Aside0.mk (Kd.R_below (rU HO0.out) hb); have BK276 := Aside0.mk hbox; have GW276 := Aside0.mk ((by rw [hg]; exact (by first | exact HK.out.1 | exact (show Kept w _ (fun k_ => P0_ k_) from by repeat (first | (with_reducible first | exact HK.out | apply Kept.alloc | apply Kept.drewN | apply Kept.drew) | exact HK.out)).1) : w.heap.size ≤ gb276)); replace HK := Aside0.mk (Kept.below (S := (fun k_ => P0_ k_)) (by repeat (first | (with_reducible first | exact HK.out | apply Kept.alloc | apply Kept.drewN | apply Kept.drew) | exact HK.out)) hb); have GE276 := Aside0.mk ((by rw [hg]; exact (below_size (lU)) : w0.heap.size ≤ gb276)); replace HB := bH (lU) hb; clear hb hbox hg; have hcz13_0 := cz BK276 0 (.int .i64 a1_0); have hcz13_1 := cz BK276 1 (.int .i64 a1_1); have hcz13_2 := cz BK276 2 (.string a1_2); have hcz13_3 := cz BK276 3 (.string a1_3); have hcz13_4 := cz BK276 4 (.int .i64 a1_4); have hfz13_0 := fz BK276 0; have hfz13_1 := fz BK276 1; have hfz13_2 := fz BK276 2; have hfz13_3 := fz BK276 3; have hfz13_4 := fz BK276 4; obtain ⟨Ao14, co14, eo14⟩ := Kd.R_slice HO0.out; subst eo14) | ((with_reducible refine gate_callee (f := 57) rfl ?_); refine goesL_ (some 19) rfl rfl Try.func57 (by kernel_rfl) rfl #[.slice Ao14 l0.length co14, .string a1_2] rfl aE ?_; (with_reducible refine (impl_valuePlace.calls k _ _ l0 a1_2 t277 false _ ?side1 ?side2 A3.out).mono ?_); (case side1 => exact cU (Kd.R_reads' HO0.out).2.2); (case side2 => exact (Kd.R_reads' HO0.out).2.1); rintro e w15 ⟨rfl, hb⟩; refine ⟨_, rfl, ?_⟩; replace HO0 := Aside0.mk (Kd.R_below (rU HO0.out) hb); replace BK276 := bB (bV BK276) hb; replace HK := Aside0.mk (Kept.below (S := (fun k_ => P0_ k_)) (by repeat (first | (with_reducible first | exact HK.out | apply Kept.alloc | apply Kept.drewN | apply Kept.drew | refine Kept.setCell ?_ (.inr GW276.out) _) | exact HK.out)) hb); replace HB := bH (lV1 GE276) hb; (try clear hb); have hcz16_0 := cz BK276 0 (.int .i64 a1_0); have hcz16_1 := cz BK276 1 (.int .i64 a1_1); have hcz16_2 := cz BK276 2 (.string a1_2); have hcz16_3 := cz BK276 3 (.string a1_3); have hcz16_4 := cz BK276 4 (.int .i64 a1_4); have hfz16_0 := fz BK276 0; have hfz16_1 := fz BK276 1; have hfz16_2 := fz BK276 2; have hfz16_3 := fz BK276 3; have hfz16_4 := fz BK276 4) | ((with_reducible refine gate_dst (N := 34) rfl ?_); refine Kd.R_lit k59 _ 59 ?hg (N := 34) ?hd (xs := ([(⟨a1_2, a1_4, (⟨#[]⟩ : ByteArray)⟩ : S59)] : List (S59))) (inner := [.string a1_2, .int .i64 a1_4, .string (⟨#[]⟩ : ByteArray)]) (ok := fun _ => True) (okp := fun _ => True) ?hr ?hp (fun _ hk => hk) trivial (Below.refl _ _) (Nat.le_refl _) (by simp) ?_; (case hd => rfl); (case hg => rfl); (case hr => exact sE); (case hp => exact (Reps.c3 (show Kd.M k59 _ _ _ (⟨a1_2, a1_4, (⟨#[]⟩ : ByteArray)⟩ : S59) [.string a1_2, .int .i64 a1_4, .string (⟨#[]⟩ : ByteArray)] from (k59_mkM _ _ _ (⟨a1_2, a1_4, (⟨#[]⟩ : ByteArray)⟩ : S59) )) (Reps.none _ _))); intro v280 w17 ho18 hb hg_ hnew_; clear hg_ hnew_; (first | rw [← Ny279.out] at ho18 | (simp only [Int.reduceToNat] at ho18; rw [← Ny279.out] at ho18)); have HO281 := Aside0.mk (Kd.R_lower (Kd.R_new' (Kd.R_newM (M := fun k_ => (P0_ k_ ∨ w.heap.size ≤ k_)) ho18 (by first | exact HK.out.1 | exact (show Kept w _ (fun k_ => P0_ k_) from by repeat (first | (with_reducible first | exact HK.out | apply Kept.alloc | apply Kept.drewN | apply Kept.drew | refine Kept.setCell ?_ (.inr GW276.out) _) | exact HK.out)).1) (fun k_ h_ => .inr h_)) (Kd.R_lt (rU HO0.out))) (below_size (lV1 GE276))); replace HO0 := Aside0.mk (Kd.R_elder' (rU HO0.out) (Kd.R_base ho18) hb); replace BK276 := bB (bV BK276) hb; replace HK := Aside0.mk (Kept.below (S := (fun k_ => P0_ k_)) (by repeat (first | (with_reducible first | exact HK.out | apply Kept.alloc | apply Kept.drewN | apply Kept.drew | refine Kept.setCell ?_ (.inr GW276.out) _) | exact HK.out)) hb); replace HB := bH (lV1 GE276) hb; clear hb ho18; obtain ⟨Ao19, co19, eo19⟩ := Kd.R_slice HO281.out; subst eo19) | ((with_reducible refine gate_callee (f := 58) rfl ?_); refine goesL_ (some 35) rfl rfl Try.func58 (by kernel_rfl) rfl #[.slice Ao14 l0.length co14, .int .i64 t277, .slice Ao19 y279.length co19] rfl aE ?_; (with_reducible refine (impl_Value_58.calls (fun k_ => some k_ = (.slice Ao14 l0.length co14 : Value).ownBlock) (.slice Ao14 l0.length co14) l0 t277 _ _ y279 t282 w0 _ ?side1 ?side2 ?side3 ?side4 A11.out).mono ?_); (case side1 => repeat (first | (with_reducible first | exact HB.out | apply below_alloc | apply pw_below_drewN | apply below_drew1 | refine below_set ?_ GE276.out) | exact HB.out)); (case side2 => exact Kd.R_tight rfl HO0.out); (case side3 => exact Kd.C_kept_own (HO281.out) (fun k_ hk_ hs_ => (hk_.2) hs_)); (case side4 => exact (Kd.R_reads' HO281.out).2.1); rintro e w20 ⟨v283, rfl, ho0, hb, hkp⟩; refine ⟨_, rfl, ?_⟩; replace BK276 := Aside0.mk (blk_kept (bV BK276) hkp (fun hs_ => (fun e_ => (Kd.R_ne HO0.out BK276.out (by decide)) e_) hs_)); have HO284 := Aside0.mk (Kd.R_mono (ok' := fun k_ => (P0_ k_ ∨ w.heap.size ≤ k_) ∧ some k_ ≠ (.slice Ao19 y279.length co19 : Value).ownBlock) ho0 (fun k_ hk_ => ⟨Or.elim hk_ (fun hs_ => (HO0.out.1 k_ (hs_).symm).1) (fun hn_ => (.inr (Nat.le_trans (by first | exact HK.out.1 | exact (show Kept w _ (fun k_ => P0_ k_) from by repeat (first | (with_reducible first | exact HK.out | apply Kept.alloc | apply Kept.drewN | apply Kept.drew | refine Kept.setCell ?_ (.inr GW276.out) _) | exact HK.out)).1) hn_))), Or.elim hk_ (fun hs_ => fun e_ => (((HO281.out).1 k_ e_.symm).2) hs_) (fun hn_ => (Kd.fresh' (Kd.R_lt (rU HO281.out)) k_ hn_))⟩)); replace HO281 := Aside0.mk (Kd.R_mono (ok' := fun k_ => (P0_ k_ ∨ w.heap.size ≤ k_) ∧ some k_ ≠ (v283 : Value).ownBlock) (Kd.R_keptB (HO281.out) hkp (fun k_ hk_ hs_ => (hk_.2) hs_)) (fun k_ hk_ => ⟨hk_.1.1.1, fun e_ => Or.elim (ho0.1 k_ e_.symm) (fun hs_ => hk_.2.1 hs_) (fun hn_ => Nat.not_le.2 hk_.2.2 hn_)⟩)); replace HK := Aside0.mk (Kept.then_ (S := (fun k_ => P0_ k_)) (by repeat (first | (with_reducible first | exact HK.out | apply Kept.alloc | apply Kept.drewN | apply Kept.drew | refine Kept.setCell ?_ (.inr GW276.out) _) | exact HK.out)) hkp (fun k_ hs_ => (fun e_ => (HO0.out.1 k_ e_.symm).1) hs_)); replace HB := Aside0.mk hb; clear HO0; (try clear hb); (try clear hkp); (try clear hg_); (try clear hp_); (try clear ho0)))
   go_ret2
   exact ⟨_, eE, by (with_reducible repeat (first | apply Kd.R_alloc | apply Kd.R_drewN | apply Kd.R_drew)); exact Kd.R_mono HO284.out (fun _ hk => hk.1), lV1 GE276, by repeat (first | (with_reducible first | exact HK.out | apply Kept.alloc | apply Kept.drewN | apply Kept.drew | refine Kept.setCell ?_ (.inr GW276.out) _) | exact HK.out)⟩
 ·rw [if_neg c4] at H
  have c4b0 : (a1_1 == 5) = false := beq_eq_false_iff_ne.mpr c4
  have c4b1 : (a1_1 != 5) = true := bne_iff_ne.mpr c4
  by_cases c21 : t278 = true
  ·subst c21
   have H1 : (if a1_1 = 1 then (if 0 ≤ t277 then (if t277 < (l0.length : Int) then ((impl_valuePlace.f k l0 a1_3).bind fun bt287 => (if bt287.2 = true then (some (([] : List (S59)), false)) else ((impl_Value_59.f l0 t277 (wrap64 (t277 + 1))).bind fun t289 => ((impl_valuePlace.f k t289 a1_3).bind fun bt292 => ((impl_Value_58.f t289 bt292.1 (([(⟨a1_3, (rd_T59 l0 t277).f1, (rd_T59 l0 t277).f2⟩ : S59)] : List (S59)))).bind fun t297 => (some (t297, true))))))) else (none)) else (none)) else (if a1_1 = 4 then ((impl_Value_59.f l0 t277 (wrap64 (t277 + 1))).bind fun t300 => (some (t300, true))) else (if 0 ≤ t277 then (if t277 < (l0.length : Int) then ((impl_Change_changed.f k a1_0 a1_1 a1_2 a1_3 a1_4 ((rd_T59 l0 t277).f1)).bind fun bt304 => (some ((l0.set (t277 : Int).toNat (⟨(rd_T59 l0 t277).f0, bt304.1, (rd_T59 l0 t277).f2⟩ : S59)), bt304.2))) else (none)) else (none)))) = some (r1, r2) := by rw [if_pos rfl] at H; exact H
   clear H
   have H := H1
   clear H1
   by_cases c22 : a1_1 = 1
   ·rw [if_pos c22] at H
    have c22b0 : (a1_1 == 1) = true := beq_iff_eq.mpr c22
    have c22b1 : (a1_1 != 1) = false := bne_eq_false_iff_eq.mpr c22
    clear c22
    by_cases c23 : 0 ≤ t277
    ·rw [if_pos c23] at H
     have c23b0 : decide (0 ≤ t277) = true := decide_eq_true c23
     clear c23
     by_cases c24 : t277 < (l0.length : Int)
     ·rw [if_pos c24] at H
      have c24b0 : decide (t277 < (l0.length : Int)) = true := decide_eq_true c24
      clear c24
      replace H := Option.bind_eq_some_iff.mp H
      obtain ⟨⟨t287, t288⟩, A250, H⟩ := H
      replace H : (if t288 = true then (some (([] : List (S59)), false)) else ((impl_Value_59.f l0 t277 (wrap64 (t277 + 1))).bind fun t289 => ((impl_valuePlace.f k t289 a1_3).bind fun bt292 => ((impl_Value_58.f t289 bt292.1 (([(⟨a1_3, (rd_T59 l0 t277).f1, (rd_T59 l0 t277).f2⟩ : S59)] : List (S59)))).bind fun t297 => (some (t297, true)))))) = some (r1, r2) := H
      have A25 := Aside0.mk A250
      clear A250
      by_cases c26 : t288 = true
      ·subst c26
       have H1 : (some (([] : List (S59)), false)) = some (r1, r2) := by rw [if_pos rfl] at H; exact H
       clear H
       have H := H1
       clear H1
       simp only [Option.some.injEq, Prod.mk.injEq] at H
       obtain ⟨rfl, rfl⟩ := H
       go_enter Try.func39, Try.ntmps39
       go_wp2_with (first | ((with_reducible refine gate_dst (N := 3) rfl ?_); refine box_event rfl (N := 3) rfl (cs := #[.int .i64 a1_0, .int .i64 a1_1, .string a1_2, .string a1_3, .int .i64 a1_4]) (t := 56) sE ?_; intro gb276 hg w27 hbox hb; replace HO0 := Aside0.mk (Kd.R_below (rU HO0.out) hb); have BK276 := Aside0.mk hbox; have GW276 := Aside0.mk ((by rw [hg]; exact (by first | exact HK.out.1 | exact (show Kept w _ (fun k_ => P0_ k_) from by repeat (first | (with_reducible first | exact HK.out | apply Kept.alloc | apply Kept.drewN | apply Kept.drew) | exact HK.out)).1) : w.heap.size ≤ gb276)); replace HK := Aside0.mk (Kept.below (S := (fun k_ => P0_ k_)) (by repeat (first | (with_reducible first | exact HK.out | apply Kept.alloc | apply Kept.drewN | apply Kept.drew) | exact HK.out)) hb); have GE276 := Aside0.mk ((by rw [hg]; exact (below_size (lU)) : w0.heap.size ≤ gb276)); replace HB := bH (lU) hb; clear hb hbox hg; have hcz28_0 := cz BK276 0 (.int .i64 a1_0); have hcz28_1 := cz BK276 1 (.int .i64 a1_1); have hcz28_2 := cz BK276 2 (.string a1_2); have hcz28_3 := cz BK276 3 (.string a1_3); have hcz28_4 := cz BK276 4 (.int .i64 a1_4); have hfz28_0 := fz BK276 0; have hfz28_1 := fz BK276 1; have hfz28_2 := fz BK276 2; have hfz28_3 := fz BK276 3; have hfz28_4 := fz BK276 4; obtain ⟨Ao29, co29, eo29⟩ := Kd.R_slice HO0.out; subst eo29) | ((with_reducible refine gate_callee (f := 57) rfl ?_); refine goesL_ (some 19) rfl rfl Try.func57 (by kernel_rfl) rfl #[.slice Ao29 l0.length co29, .string a1_2] rfl aE ?_; (with_reducible refine (impl_valuePlace.calls k _ _ l0 a1_2 t277 true _ ?side1 ?side2 A3.out).mono ?_); (case side1 => exact cU (Kd.R_reads' HO0.out).2.2); (case side2 => exact (Kd.R_reads' HO0.out).2.1); rintro e w30 ⟨rfl, hb⟩; refine ⟨_, rfl, ?_⟩; replace HO0 := Aside0.mk (Kd.R_below (rU HO0.out) hb); replace BK276 := bB (bV BK276) hb; replace HK := Aside0.mk (Kept.below (S := (fun k_ => P0_ k_)) (by repeat (first | (with_reducible first | exact HK.out | apply Kept.alloc | apply Kept.drewN | apply Kept.drew | refine Kept.setCell ?_ (.inr GW276.out) _) | exact HK.out)) hb); replace HB := bH (lV1 GE276) hb; (try clear hb); have hcz31_0 := cz BK276 0 (.int .i64 a1_0); have hcz31_1 := cz BK276 1 (.int .i64 a1_1); have hcz31_2 := cz BK276 2 (.string a1_2); have hcz31_3 := cz BK276 3 (.string a1_3); have hcz31_4 := cz BK276 4 (.int .i64 a1_4); have hfz31_0 := fz BK276 0; have hfz31_1 := fz BK276 1; have hfz31_2 := fz BK276 2; have hfz31_3 := fz BK276 3; have hfz31_4 := fz BK276 4; have p285 : 0 ≤ (t277 : Int) := of_decide_eq_true hE; have q285 : t277 < (l0.length : Int) := of_decide_eq_true hE; obtain ⟨ad285, e285, hx285_0, hx285_1, hx285_2⟩ := at_T59 (Kd.R_reads' HO0.out).2.2 t277 p285 q285; cases e285; replace p285 := eq_true p285; replace q285 := eq_true q285) | ((with_reducible refine gate_dst (N := 8) rfl ?_); refine box_event rfl (N := 8) rfl (cs := #[.string (⟨#[]⟩ : ByteArray), .int .i64 0, .string (⟨#[]⟩ : ByteArray)]) (t := 59) sE ?_; intro gb286 hg w32 hbox hb; replace HO0 := Aside0.mk (Kd.R_below (Kd.R_elderB (rU HO0.out) gb286 (Nat.le_of_eq hg.symm)) hb); have BK286 := Aside0.mk hbox; have GW286 := Aside0.mk ((by rw [hg]; exact (by first | exact HK.out.1 | exact (show Kept w _ (fun k_ => P0_ k_) from by repeat (first | (with_reducible first | exact HK.out | apply Kept.alloc | apply Kept.drewN | apply Kept.drew | refine Kept.setCell ?_ (.inr GW276.out) _) | exact HK.out)).1) : w.heap.size ≤ gb286)); replace HK := Aside0.mk (Kept.below (S := (fun k_ => P0_ k_)) (by repeat (first | (with_reducible first | exact HK.out | apply Kept.alloc | apply Kept.drewN | apply Kept.drew | refine Kept.setCell ?_ (.inr GW276.out) _) | exact HK.out)) hb); have GE286 := Aside0.mk ((by rw [hg]; exact (below_size (lV1 GE276)) : w0.heap.size ≤ gb286)); replace HB := bH (lV1 GE276) hb; have NB276_286 := nL hg (bV BK276); have NB286_276 := nG hg (bV BK276); replace BK276 := bB (bV BK276) hb; clear hb hbox hg; have hnb33 := NB286_276.out; have hnc33 := NB276_286.out; have hcz34_0 := cz BK286 0 (.string (⟨#[]⟩ : ByteArray)); have hcz34_1 := cz BK286 1 (.int .i64 0); have hcz34_2 := cz BK286 2 (.string (⟨#[]⟩ : ByteArray)); have hfz34_0 := fz BK286 0; have hfz34_1 := fz BK286 1; have hfz34_2 := fz BK286 2) | ((with_reducible refine gate_store (t := 59) (p := 8) rfl ?_); refine store_event (t := 59) (p := 8) (v := ?vo_w35) (w1 := (((w32.setCell ⟨gb286, 0, none⟩ (.string ((rd_T59 l0 t277).f0))).setCell ⟨gb286, 1, none⟩ (.int .i64 ((rd_T59 l0 t277).f1))).setCell ⟨gb286, 2, none⟩ (.string ((rd_T59 l0 t277).f2)))) ?hg ?ho ?hn ?hr ?_; (case ho => rfl); (case hg => rfl); (case hn => rfl); (case hr => first | (go_simp; done) | (go_simp; rfl) | (have hq0_ := (blk_cell BK286.out 0).trans (show _ = some _ from rfl); have hf0_ := blk_frozen BK286.out 0; have hq1_ := (blk_cell BK286.out 1).trans (show _ = some _ from rfl); have hf1_ := blk_frozen BK286.out 1; have hq2_ := (blk_cell BK286.out 2).trans (show _ = some _ from rfl); have hf2_ := blk_frozen BK286.out 2; first | (go_simp; done) | (go_simp; rfl))); intro w35 hw; replace HO0 : Aside0 (Kd.R k59 59 w35 w0.heap.size (fun k_ => (P0_ k_ ∨ w.heap.size ≤ k_) ∧ k_ ≠ gb286) (.slice (some ad285) l0.length co29) l0) := ⟨(by rw [hw]; exact (by (with_reducible repeat (first | apply Kd.R_alloc | apply Kd.R_drewN | apply Kd.R_drew)); exact Kd.R_mono (Kd.R_far (p := ⟨gb286, 2, none⟩) (Kd.R_far (p := ⟨gb286, 1, none⟩) (Kd.R_far (p := ⟨gb286, 0, none⟩) (Kd.R_mono HO0.out (fun k_ hk => (⟨hk, hk.2⟩ : _ ∧ k_ ≠ gb286))) (fun _ hk => hk.2) (.string ((rd_T59 l0 t277).f0))) (fun _ hk => hk.2) (.int .i64 ((rd_T59 l0 t277).f1))) (fun _ hk => hk.2) (.string ((rd_T59 l0 t277).f2))) (fun _ hk => ⟨hk.1.1, hk.1.2⟩)))⟩; replace BK276 : Aside0 (w35.heap[gb276]? = some (.cells #[.int .i64 a1_0, .int .i64 a1_1, .string a1_2, .string a1_3, .int .i64 a1_4] 56 (0, 0))) := ⟨(by rw [hw]; exact (bG NB276_286 BK276))⟩; replace BK286 : Aside0 (w35.heap[gb286]? = some (.cells #[.string ((rd_T59 l0 t277).f0), .int .i64 ((rd_T59 l0 t277).f1), .string ((rd_T59 l0 t277).f2)] 59 (0, 0))) := ⟨(by rw [hw]; exact (by refine bU ?_; refine blk_put (cs := #[.string ((rd_T59 l0 t277).f0), .int .i64 ((rd_T59 l0 t277).f1), .string (⟨#[]⟩ : ByteArray)]) ?_ 2 _ rfl; refine bU ?_; refine blk_put (cs := #[.string ((rd_T59 l0 t277).f0), .int .i64 0, .string (⟨#[]⟩ : ByteArray)]) ?_ 1 _ rfl; refine bU ?_; refine blk_put (cs := #[.string (⟨#[]⟩ : ByteArray), .int .i64 0, .string (⟨#[]⟩ : ByteArray)]) ?_ 0 _ rfl; refine bU ?_; exact BK286.out))⟩; replace HK : Aside0 (Kept w w35 (fun k_ => P0_ k_)) := ⟨(by rw [hw]; exact (by repeat (first | (with_reducible first | exact HK.out | apply Kept.alloc | apply Kept.drewN | apply Kept.drew | refine Kept.setCell ?_ (.inr GW276.out) _ | refine Kept.setCell ?_ (.inr GW286.out) _) | exact HK.out)))⟩; replace HB : Aside0 (Below w0.heap.size w0 w35) := ⟨(by rw [hw]; exact (lV2 GE276 GE286))⟩; clear hw; have hcz36_0 := cz BK276 0 (.int .i64 a1_0); have hcz36_1 := cz BK276 1 (.int .i64 a1_1); have hcz36_2 := cz BK276 2 (.string a1_2); have hcz36_3 := cz BK276 3 (.string a1_3); have hcz36_4 := cz BK276 4 (.int .i64 a1_4); have hfz36_0 := fz BK276 0; have hfz36_1 := fz BK276 1; have hfz36_2 := fz BK276 2; have hfz36_3 := fz BK276 3; have hfz36_4 := fz BK276 4) | ((with_reducible refine gate_callee (f := 57) rfl ?_); refine goesL_ (some 54) rfl rfl Try.func57 (by kernel_rfl) rfl #[.slice (some ad285) l0.length co29, .string a1_3] rfl aE ?_; (with_reducible refine (impl_valuePlace.calls k _ _ l0 a1_3 t287 true _ ?side1 ?side2 A25.out).mono ?_); (case side1 => exact cU (Kd.R_reads' HO0.out).2.2); (case side2 => exact (Kd.R_reads' HO0.out).2.1); rintro e w37 ⟨rfl, hb⟩; refine ⟨_, rfl, ?_⟩; replace HO0 := Aside0.mk (Kd.R_below (rU HO0.out) hb); replace BK276 := bB (bV BK276) hb; replace BK286 := bB (bV BK286) hb; replace HK := Aside0.mk (Kept.below (S := (fun k_ => P0_ k_)) (by repeat (first | (with_reducible first | exact HK.out | apply Kept.alloc | apply Kept.drewN | apply Kept.drew | refine Kept.setCell ?_ (.inr GW276.out) _ | refine Kept.setCell ?_ (.inr GW286.out) _) | exact HK.out)) hb); replace HB := bH (lV2 GE276 GE286) hb; (try clear hb)))
       go_ret2
       exact ⟨_, eE, by first | exact Kd.R_nil _ _ _ _ _ | exact Kd.N_nil _ _ _ _ _ | exact Kd.V_nil _ _ _ _ _ | exact Kd.Q_nil _ _ _ _ _ | exact Kd.S_nil _ _ _ _ _, lV2 GE276 GE286, by repeat (first | (with_reducible first | exact HK.out | apply Kept.alloc | apply Kept.drewN | apply Kept.drew | refine Kept.setCell ?_ (.inr GW276.out) _ | refine Kept.setCell ?_ (.inr GW286.out) _) | exact HK.out)⟩
      ·replace c26 := Bool.eq_false_iff.mpr c26
       subst c26
       have H1 : ((impl_Value_59.f l0 t277 (wrap64 (t277 + 1))).bind fun t289 => ((impl_valuePlace.f k t289 a1_3).bind fun bt292 => ((impl_Value_58.f t289 bt292.1 (([(⟨a1_3, (rd_T59 l0 t277).f1, (rd_T59 l0 t277).f2⟩ : S59)] : List (S59)))).bind fun t297 => (some (t297, true))))) = some (r1, r2) := by rw [if_neg (show ¬ (false = true) by decide)] at H; exact H
       clear H
       have H := H1
       clear H1
       replace H := Option.bind_eq_some_iff.mp H
       obtain ⟨t289, A380, H⟩ := H
       replace H : ((impl_valuePlace.f k t289 a1_3).bind fun bt292 => ((impl_Value_58.f t289 bt292.1 (([(⟨a1_3, (rd_T59 l0 t277).f1, (rd_T59 l0 t277).f2⟩ : S59)] : List (S59)))).bind fun t297 => (some (t297, true)))) = some (r1, r2) := H
       have A38 := Aside0.mk A380
       clear A380
       replace H := Option.bind_eq_some_iff.mp H
       obtain ⟨⟨t292, t293⟩, A390, H⟩ := H
       replace H : ((impl_Value_58.f t289 t292 (([(⟨a1_3, (rd_T59 l0 t277).f1, (rd_T59 l0 t277).f2⟩ : S59)] : List (S59)))).bind fun t297 => (some (t297, true))) = some (r1, r2) := H
       have A39 := Aside0.mk A390
       clear A390
       obtain ⟨y294, hy294⟩ : ∃ y_ : List (S59), y_ = (([(⟨a1_3, (rd_T59 l0 t277).f1, (rd_T59 l0 t277).f2⟩ : S59)] : List (S59))) := ⟨_, rfl⟩
       replace H : ((impl_Value_58.f t289 t292 y294).bind fun t297 => (some (t297, true))) = some (r1, r2) := by first | (rw [hy294]; with_reducible exact H) | (have H2_ := (Option.bind_some _ _).symm.trans H; rw [hy294]; with_reducible exact H2_) | (have H2_ := (Option.bind_some _ _).symm.trans H; with_reducible exact H2_) | with_reducible exact H | (rw [hy294]; exact H) | exact H
       have Ny294 := Aside0.mk hy294
       clear hy294
       replace H := Option.bind_eq_some_iff.mp H
       obtain ⟨t297, A400, H⟩ := H
       replace H : (some (t297, true)) = some (r1, r2) := H
       have A40 := Aside0.mk A400
       clear A400
       simp only [Option.some.injEq, Prod.mk.injEq] at H
       obtain ⟨rfl, rfl⟩ := H
       go_enter Try.func39, Try.ntmps39
       go_wp2_with (first | ((with_reducible refine gate_dst (N := 3) rfl ?_); refine box_event rfl (N := 3) rfl (cs := #[.int .i64 a1_0, .int .i64 a1_1, .string a1_2, .string a1_3, .int .i64 a1_4]) (t := 56) sE ?_; intro gb276 hg w41 hbox hb; replace HO0 := Aside0.mk (Kd.R_below (rU HO0.out) hb); have BK276 := Aside0.mk hbox; have GW276 := Aside0.mk ((by rw [hg]; exact (by first | exact HK.out.1 | exact (show Kept w _ (fun k_ => P0_ k_) from by repeat (first | (with_reducible first | exact HK.out | apply Kept.alloc | apply Kept.drewN | apply Kept.drew) | exact HK.out)).1) : w.heap.size ≤ gb276)); replace HK := Aside0.mk (Kept.below (S := (fun k_ => P0_ k_)) (by repeat (first | (with_reducible first | exact HK.out | apply Kept.alloc | apply Kept.drewN | apply Kept.drew) | exact HK.out)) hb); have GE276 := Aside0.mk ((by rw [hg]; exact (below_size (lU)) : w0.heap.size ≤ gb276)); replace HB := bH (lU) hb; clear hb hbox hg; have hcz42_0 := cz BK276 0 (.int .i64 a1_0); have hcz42_1 := cz BK276 1 (.int .i64 a1_1); have hcz42_2 := cz BK276 2 (.string a1_2); have hcz42_3 := cz BK276 3 (.string a1_3); have hcz42_4 := cz BK276 4 (.int .i64 a1_4); have hfz42_0 := fz BK276 0; have hfz42_1 := fz BK276 1; have hfz42_2 := fz BK276 2; have hfz42_3 := fz BK276 3; have hfz42_4 := fz BK276 4; obtain ⟨Ao43, co43, eo43⟩ := Kd.R_slice HO0.out; subst eo43) | ((with_reducible refine gate_callee (f := 57) rfl ?_); refine goesL_ (some 19) rfl rfl Try.func57 (by kernel_rfl) rfl #[.slice Ao43 l0.length co43, .string a1_2] rfl aE ?_; (with_reducible refine (impl_valuePlace.calls k _ _ l0 a1_2 t277 true _ ?side1 ?side2 A3.out).mono ?_); (case side1 => exact cU (Kd.R_reads' HO0.out).2.2); (case side2 => exact (Kd.R_reads' HO0.out).2.1); rintro e w44 ⟨rfl, hb⟩; refine ⟨_, rfl, ?_⟩; replace HO0 := Aside0.mk (Kd.R_below (rU HO0.out) hb); replace BK276 := bB (bV BK276) hb; replace HK := Aside0.mk (Kept.below (S := (fun k_ => P0_ k_)) (by repeat (first | (with_reducible first | exact HK.out | apply Kept.alloc | apply Kept.drewN | apply Kept.drew | refine Kept.setCell ?_ (.inr GW276.out) _) | exact HK.out)) hb); replace HB := bH (lV1 GE276) hb; (try clear hb); have hcz45_0 := cz BK276 0 (.int .i64 a1_0); have hcz45_1 := cz BK276 1 (.int .i64 a1_1); have hcz45_2 := cz BK276 2 (.string a1_2); have hcz45_3 := cz BK276 3 (.string a1_3); have hcz45_4 := cz BK276 4 (.int .i64 a1_4); have hfz45_0 := fz BK276 0; have hfz45_1 := fz BK276 1; have hfz45_2 := fz BK276 2; have hfz45_3 := fz BK276 3; have hfz45_4 := fz BK276 4; have p285 : 0 ≤ (t277 : Int) := of_decide_eq_true hE; have q285 : t277 < (l0.length : Int) := of_decide_eq_true hE; obtain ⟨ad285, e285, hx285_0, hx285_1, hx285_2⟩ := at_T59 (Kd.R_reads' HO0.out).2.2 t277 p285 q285; cases e285; replace p285 := eq_true p285; replace q285 := eq_true q285) | ((with_reducible refine gate_dst (N := 8) rfl ?_); refine box_event rfl (N := 8) rfl (cs := #[.string (⟨#[]⟩ : ByteArray), .int .i64 0, .string (⟨#[]⟩ : ByteArray)]) (t := 59) sE ?_; intro gb286 hg w46 hbox hb; replace HO0 := Aside0.mk (Kd.R_below (Kd.R_elderB (rU HO0.out) gb286 (Nat.le_of_eq hg.symm)) hb); have BK286 := Aside0.mk hbox; have GW286 := Aside0.mk ((by rw [hg]; exact (by first | exact HK.out.1 | exact (show Kept w _ (fun k_ => P0_ k_) from by repeat (first | (with_reducible first | exact HK.out | apply Kept.alloc | apply Kept.drewN | apply Kept.drew | refine Kept.setCell ?_ (.inr GW276.out) _) | exact HK.out)).1) : w.heap.size ≤ gb286)); replace HK := Aside0.mk (Kept.below (S := (fun k_ => P0_ k_)) (by repeat (first | (with_reducible first | exact HK.out | apply Kept.alloc | apply Kept.drewN | apply Kept.drew | refine Kept.setCell ?_ (.inr GW276.out) _) | exact HK.out)) hb); have GE286 := Aside0.mk ((by rw [hg]; exact (below_size (lV1 GE276)) : w0.heap.size ≤ gb286)); replace HB := bH (lV1 GE276) hb; have NB276_286 := nL hg (bV BK276); have NB286_276 := nG hg (bV BK276); replace BK276 := bB (bV BK276) hb; clear hb hbox hg; have hnb47 := NB286_276.out; have hnc47 := NB276_286.out; have hcz48_0 := cz BK286 0 (.string (⟨#[]⟩ : ByteArray)); have hcz48_1 := cz BK286 1 (.int .i64 0); have hcz48_2 := cz BK286 2 (.string (⟨#[]⟩ : ByteArray)); have hfz48_0 := fz BK286 0; have hfz48_1 := fz BK286 1; have hfz48_2 := fz BK286 2) | ((with_reducible refine gate_store (t := 59) (p := 8) rfl ?_); refine store_event (t := 59) (p := 8) (v := ?vo_w49) (w1 := (((w46.setCell ⟨gb286, 0, none⟩ (.string ((rd_T59 l0 t277).f0))).setCell ⟨gb286, 1, none⟩ (.int .i64 ((rd_T59 l0 t277).f1))).setCell ⟨gb286, 2, none⟩ (.string ((rd_T59 l0 t277).f2)))) ?hg ?ho ?hn ?hr ?_; (case ho => rfl); (case hg => rfl); (case hn => rfl); (case hr => first | (go_simp; done) | (go_simp; rfl) | (have hq0_ := (blk_cell BK286.out 0).trans (show _ = some _ from rfl); have hf0_ := blk_frozen BK286.out 0; have hq1_ := (blk_cell BK286.out 1).trans (show _ = some _ from rfl); have hf1_ := blk_frozen BK286.out 1; have hq2_ := (blk_cell BK286.out 2).trans (show _ = some _ from rfl); have hf2_ := blk_frozen BK286.out 2; first | (go_simp; done) | (go_simp; rfl))); intro w49 hw; replace HO0 : Aside0 (Kd.R k59 59 w49 w0.heap.size (fun k_ => (P0_ k_ ∨ w.heap.size ≤ k_) ∧ k_ ≠ gb286) (.slice (some ad285) l0.length co43) l0) := ⟨(by rw [hw]; exact (by (with_reducible repeat (first | apply Kd.R_alloc | apply Kd.R_drewN | apply Kd.R_drew)); exact Kd.R_mono (Kd.R_far (p := ⟨gb286, 2, none⟩) (Kd.R_far (p := ⟨gb286, 1, none⟩) (Kd.R_far (p := ⟨gb286, 0, none⟩) (Kd.R_mono HO0.out (fun k_ hk => (⟨hk, hk.2⟩ : _ ∧ k_ ≠ gb286))) (fun _ hk => hk.2) (.string ((rd_T59 l0 t277).f0))) (fun _ hk => hk.2) (.int .i64 ((rd_T59 l0 t277).f1))) (fun _ hk => hk.2) (.string ((rd_T59 l0 t277).f2))) (fun _ hk => ⟨hk.1.1, hk.1.2⟩)))⟩; replace BK276 : Aside0 (w49.heap[gb276]? = some (.cells #[.int .i64 a1_0, .int .i64 a1_1, .string a1_2, .string a1_3, .int .i64 a1_4] 56 (0, 0))) := ⟨(by rw [hw]; exact (bG NB276_286 BK276))⟩; replace BK286 : Aside0 (w49.heap[gb286]? = some (.cells #[.string ((rd_T59 l0 t277).f0), .int .i64 ((rd_T59 l0 t277).f1), .string ((rd_T59 l0 t277).f2)] 59 (0, 0))) := ⟨(by rw [hw]; exact (by refine bU ?_; refine blk_put (cs := #[.string ((rd_T59 l0 t277).f0), .int .i64 ((rd_T59 l0 t277).f1), .string (⟨#[]⟩ : ByteArray)]) ?_ 2 _ rfl; refine bU ?_; refine blk_put (cs := #[.string ((rd_T59 l0 t277).f0), .int .i64 0, .string (⟨#[]⟩ : ByteArray)]) ?_ 1 _ rfl; refine bU ?_; refine blk_put (cs := #[.string (⟨#[]⟩ : ByteArray), .int .i64 0, .string (⟨#[]⟩ : ByteArray)]) ?_ 0 _ rfl; refine bU ?_; exact BK286.out))⟩; replace HK : Aside0 (Kept w w49 (fun k_ => P0_ k_)) := ⟨(by rw [hw]; exact (by repeat (first | (with_reducible first | exact HK.out | apply Kept.alloc | apply Kept.drewN | apply Kept.drew | refine Kept.setCell ?_ (.inr GW276.out) _ | refine Kept.setCell ?_ (.inr GW286.out) _) | exact HK.out)))⟩; replace HB : Aside0 (Below w0.heap.size w0 w49) := ⟨(by rw [hw]; exact (lV2 GE276 GE286))⟩; clear hw; have hcz50_0 := cz BK276 0 (.int .i64 a1_0); have hcz50_1 := cz BK276 1 (.int .i64 a1_1); have hcz50_2 := cz BK276 2 (.string a1_2); have hcz50_3 := cz BK276 3 (.string a1_3); have hcz50_4 := cz BK276 4 (.int .i64 a1_4); have hfz50_0 := fz BK276 0; have hfz50_1 := fz BK276 1; have hfz50_2 := fz BK276 2; have hfz50_3 := fz BK276 3; have hfz50_4 := fz BK276 4) | ((with_reducible refine gate_callee (f := 57) rfl ?_); refine goesL_ (some 54) rfl rfl Try.func57 (by kernel_rfl) rfl #[.slice (some ad285) l0.length co43, .string a1_3] rfl aE ?_; (with_reducible refine (impl_valuePlace.calls k _ _ l0 a1_3 t287 false _ ?side1 ?side2 A25.out).mono ?_); (case side1 => exact cU (Kd.R_reads' HO0.out).2.2); (case side2 => exact (Kd.R_reads' HO0.out).2.1); rintro e w51 ⟨rfl, hb⟩; refine ⟨_, rfl, ?_⟩; replace HO0 := Aside0.mk (Kd.R_below (rU HO0.out) hb); replace BK276 := bB (bV BK276) hb; replace BK286 := bB (bV BK286) hb; replace HK := Aside0.mk (Kept.below (S := (fun k_ => P0_ k_)) (by repeat (first | (with_reducible first | exact HK.out | apply Kept.alloc | apply Kept.drewN | apply Kept.drew | refine Kept.setCell ?_ (.inr GW276.out) _ | refine Kept.setCell ?_ (.inr GW286.out) _) | exact HK.out)) hb); replace HB := bH (lV2 GE276 GE286) hb; (try clear hb)) | ((with_reducible refine gate_callee (f := 59) rfl ?_); refine goesL_ (some 62) rfl rfl Try.func59 (by kernel_rfl) rfl #[.slice (some ad285) l0.length co43, .int .i64 t277, .int .i64 (wrap64 (t277 + 1))] rfl aE ?_; (with_reducible refine (impl_Value_59.calls (fun k_ => some k_ = (.slice (some ad285) l0.length co43 : Value).ownBlock) (.slice (some ad285) l0.length co43) l0 t277 (wrap64 (t277 + 1)) t289 w0 _ ?side1 ?side2 A38.out).mono ?_); (case side1 => repeat (first | (with_reducible first | exact HB.out | apply below_alloc | apply pw_below_drewN | apply below_drew1 | refine below_set ?_ GE276.out | refine below_set ?_ GE286.out) | exact HB.out)); (case side2 => exact Kd.R_tight rfl HO0.out); rintro e w52 ⟨v290, rfl, ho0, hb, hkp⟩; refine ⟨_, rfl, ?_⟩; replace BK276 := Aside0.mk (blk_kept (bV BK276) hkp (fun hs_ => (fun e_ => (Kd.R_ne HO0.out BK276.out (by decide)) e_) hs_)); have HO291 := Aside0.mk (Kd.R_mono (ok' := fun k_ => (P0_ k_ ∨ w.heap.size ≤ k_) ∧ k_ ≠ gb286) ho0 (fun k_ hk_ => ⟨Or.elim hk_ (fun hs_ => (HO0.out.1 k_ (hs_).symm).1) (fun hn_ => (.inr (Nat.le_trans (by first | exact HK.out.1 | exact (show Kept w _ (fun k_ => P0_ k_) from by repeat (first | (with_reducible first | exact HK.out | apply Kept.alloc | apply Kept.drewN | apply Kept.drew | refine Kept.setCell ?_ (.inr GW276.out) _ | refine Kept.setCell ?_ (.inr GW286.out) _) | exact HK.out)).1) hn_))), Or.elim hk_ (fun hs_ => fun e_ => (Kd.R_away HO0.out (fun _ hk => hk.2)) (by rw [← e_]; exact hs_)) (fun hn_ => (Kd.freshB (g := gb286) (o := .cells #[.string ((rd_T59 l0 t277).f0), .int .i64 ((rd_T59 l0 t277).f1), .string ((rd_T59 l0 t277).f2)] 59 (0, 0)) (bV BK286) k_ hn_))⟩)); replace BK286 := Aside0.mk (blk_kept (bV BK286) hkp (fun hs_ => (fun e_ => (Kd.R_away HO0.out (fun _ hk => hk.2)) e_) hs_)); replace HK := Aside0.mk (Kept.then_ (S := (fun k_ => P0_ k_)) (by repeat (first | (with_reducible first | exact HK.out | apply Kept.alloc | apply Kept.drewN | apply Kept.drew | refine Kept.setCell ?_ (.inr GW276.out) _ | refine Kept.setCell ?_ (.inr GW286.out) _) | exact HK.out)) hkp (fun k_ hs_ => (fun e_ => (HO0.out.1 k_ e_.symm).1) hs_)); replace HB := Aside0.mk hb; clear HO0; (try clear hb); (try clear hkp); (try clear hg_); (try clear hp_); (try clear ho0); have hcz53_0 := cz BK276 0 (.int .i64 a1_0); have hcz53_1 := cz BK276 1 (.int .i64 a1_1); have hcz53_2 := cz BK276 2 (.string a1_2); have hcz53_3 := cz BK276 3 (.string a1_3); have hcz53_4 := cz BK276 4 (.int .i64 a1_4); have hfz53_0 := fz BK276 0; have hfz53_1 := fz BK276 1; have hfz53_2 := fz BK276 2; have hfz53_3 := fz BK276 3; have hfz53_4 := fz BK276 4; have hcz54_0 := cz BK286 0 (.string ((rd_T59 l0 t277).f0)); have hcz54_1 := cz BK286 1 (.int .i64 ((rd_T59 l0 t277).f1)); have hcz54_2 := cz BK286 2 (.string ((rd_T59 l0 t277).f2)); have hfz54_0 := fz BK286 0; have hfz54_1 := fz BK286 1; have hfz54_2 := fz BK286 2) | ((with_reducible refine gate_store (t := 9) (p := 65) rfl ?_); refine store_event (t := 9) (p := 65) (v := ?vo_w55) (w1 := (w52.setCell ⟨gb286, 0, none⟩ (.string a1_3))) ?hg ?ho ?hn ?hr ?_; (case ho => rfl); (case hg => rfl); (case hn => rfl); (case hr => first | (go_simp; done) | (go_simp; rfl) | (have hq0_ := (blk_cell BK286.out 0).trans (show _ = some _ from rfl); have hf0_ := blk_frozen BK286.out 0; first | (go_simp; done) | (go_simp; rfl))); intro w55 hw; replace HO291 : Aside0 (Kd.R k59 59 w55 w0.heap.size (fun k_ => (P0_ k_ ∨ w.heap.size ≤ k_) ∧ k_ ≠ gb286) v290 t289) := ⟨(by rw [hw]; exact (by (with_reducible repeat (first | apply Kd.R_alloc | apply Kd.R_drewN | apply Kd.R_drew)); exact Kd.R_mono (Kd.R_far (p := ⟨gb286, 0, none⟩) (Kd.R_mono HO291.out (fun k_ hk => (⟨hk, hk.2⟩ : _ ∧ k_ ≠ gb286))) (fun _ hk => hk.2) (.string a1_3)) (fun _ hk => ⟨hk.1.1, hk.1.2⟩)))⟩; replace BK276 : Aside0 (w55.heap[gb276]? = some (.cells #[.int .i64 a1_0, .int .i64 a1_1, .string a1_2, .string a1_3, .int .i64 a1_4] 56 (0, 0))) := ⟨(by rw [hw]; exact (bG NB276_286 BK276))⟩; replace BK286 : Aside0 (w55.heap[gb286]? = some (.cells #[.string a1_3, .int .i64 ((rd_T59 l0 t277).f1), .string ((rd_T59 l0 t277).f2)] 59 (0, 0))) := ⟨(by rw [hw]; exact (by refine bU ?_; refine blk_put (cs := #[.string ((rd_T59 l0 t277).f0), .int .i64 ((rd_T59 l0 t277).f1), .string ((rd_T59 l0 t277).f2)]) ?_ 0 _ rfl; refine bU ?_; exact BK286.out))⟩; replace HK : Aside0 (Kept w w55 (fun k_ => P0_ k_)) := ⟨(by rw [hw]; exact (by repeat (first | (with_reducible first | exact HK.out | apply Kept.alloc | apply Kept.drewN | apply Kept.drew | refine Kept.setCell ?_ (.inr GW276.out) _ | refine Kept.setCell ?_ (.inr GW286.out) _) | exact HK.out)))⟩; replace HB : Aside0 (Below w0.heap.size w0 w55) := ⟨(by rw [hw]; exact (lV2 GE276 GE286))⟩; clear hw; have hcz56_0 := cz BK276 0 (.int .i64 a1_0); have hcz56_1 := cz BK276 1 (.int .i64 a1_1); have hcz56_2 := cz BK276 2 (.string a1_2); have hcz56_3 := cz BK276 3 (.string a1_3); have hcz56_4 := cz BK276 4 (.int .i64 a1_4); have hfz56_0 := fz BK276 0; have hfz56_1 := fz BK276 1; have hfz56_2 := fz BK276 2; have hfz56_3 := fz BK276 3; have hfz56_4 := fz BK276 4; obtain ⟨Ao57, co57, eo57⟩ := Kd.R_slice HO291.out; subst eo57) | ((with_reducible refine gate_callee (f := 57) rfl ?_); refine goesL_ (some 70) rfl rfl Try.func57 (by kernel_rfl) rfl #[.slice Ao57 t289.length co57, .string a1_3] rfl aE ?_; (with_reducible refine (impl_valuePlace.calls k _ _ t289 a1_3 t292 t293 _ ?side1 ?side2 A39.out).mono ?_); (case side1 => exact cU (Kd.R_reads' HO291.out).2.2); (case side2 => exact (Kd.R_reads' HO291.out).2.1); rintro e w58 ⟨rfl, hb⟩; refine ⟨_, rfl, ?_⟩; replace HO291 := Aside0.mk (Kd.R_below (rU HO291.out) hb); replace BK276 := bB (bV BK276) hb; replace BK286 := bB (bV BK286) hb; replace HK := Aside0.mk (Kept.below (S := (fun k_ => P0_ k_)) (by repeat (first | (with_reducible first | exact HK.out | apply Kept.alloc | apply Kept.drewN | apply Kept.drew | refine Kept.setCell ?_ (.inr GW276.out) _ | refine Kept.setCell ?_ (.inr GW286.out) _) | exact HK.out)) hb); replace HB := bH (lV2 GE276 GE286) hb; (try clear hb); have hcz59_0 := cz BK286 0 (.string a1_3); have hcz59_1 := cz BK286 1 (.int .i64 ((rd_T59 l0 t277).f1)); have hcz59_2 := cz BK286 2 (.string ((rd_T59 l0 t277).f2)); have hfz59_0 := fz BK286 0; have hfz59_1 := fz BK286 1; have hfz59_2 := fz BK286 2) | ((with_reducible refine gate_dst (N := 76) rfl ?_); refine Kd.R_lit k59 _ 59 ?hg (N := 76) ?hd (xs := ([(⟨a1_3, (rd_T59 l0 t277).f1, (rd_T59 l0 t277).f2⟩ : S59)] : List (S59))) (inner := [.string a1_3, .int .i64 ((rd_T59 l0 t277).f1), .string ((rd_T59 l0 t277).f2)]) (ok := fun _ => True) (okp := fun _ => True) ?hr ?hp (fun _ hk => hk) trivial (Below.refl _ _) (Nat.le_refl _) (by simp) ?_; (case hd => rfl); (case hg => rfl); (case hr => exact sE); (case hp => exact (Reps.c3 (show Kd.M k59 _ _ _ (⟨a1_3, (rd_T59 l0 t277).f1, (rd_T59 l0 t277).f2⟩ : S59) [.string a1_3, .int .i64 ((rd_T59 l0 t277).f1), .string ((rd_T59 l0 t277).f2)] from (k59_mkM _ _ _ (⟨a1_3, (rd_T59 l0 t277).f1, (rd_T59 l0 t277).f2⟩ : S59) )) (Reps.none _ _))); intro v295 w60 ho61 hb hg_ hnew_; clear hg_ hnew_; (first | rw [← Ny294.out] at ho61 | (simp only [Int.reduceToNat] at ho61; rw [← Ny294.out] at ho61)); have HO296 := Aside0.mk (Kd.R_lower (Kd.R_newB (Kd.R_new' (Kd.R_newM (M := fun k_ => (P0_ k_ ∨ w.heap.size ≤ k_)) ho61 (by first | exact HK.out.1 | exact (show Kept w _ (fun k_ => P0_ k_) from by repeat (first | (with_reducible first | exact HK.out | apply Kept.alloc | apply Kept.drewN | apply Kept.drew | refine Kept.setCell ?_ (.inr GW276.out) _ | refine Kept.setCell ?_ (.inr GW286.out) _) | exact HK.out)).1) (fun k_ h_ => .inr h_)) (Kd.R_lt (rU HO291.out))) (g := gb286) (o := .cells #[.string a1_3, .int .i64 ((rd_T59 l0 t277).f1), .string ((rd_T59 l0 t277).f2)] 59 (0, 0)) (bV BK286)) (below_size (lV2 GE276 GE286))); replace HO291 := Aside0.mk (Kd.R_elder' (rU HO291.out) (Kd.R_base ho61) hb); replace BK276 := bB (bV BK276) hb; replace BK286 := bB (bV BK286) hb; replace HK := Aside0.mk (Kept.below (S := (fun k_ => P0_ k_)) (by repeat (first | (with_reducible first | exact HK.out | apply Kept.alloc | apply Kept.drewN | apply Kept.drew | refine Kept.setCell ?_ (.inr GW276.out) _ | refine Kept.setCell ?_ (.inr GW286.out) _) | exact HK.out)) hb); replace HB := bH (lV2 GE276 GE286) hb; clear hb ho61; obtain ⟨Ao62, co62, eo62⟩ := Kd.R_slice HO296.out; subst eo62) | ((with_reducible refine gate_callee (f := 58) rfl ?_); refine goesL_ (some 77) rfl rfl Try.func58 (by kernel_rfl) rfl #[.slice Ao57 t289.length co57, .int .i64 t292, .slice Ao62 y294.length co62] rfl aE ?_; (with_reducible refine (impl_Value_58.calls (fun k_ => some k_ = (.slice Ao57 t289.length co57 : Value).ownBlock) (.slice Ao57 t289.length co57) t289 t292 _ _ y294 t297 w0 _ ?side1 ?side2 ?side3 ?side4 A40.out).mono ?_); (case side1 => repeat (first | (with_reducible first | exact HB.out | apply below_alloc | apply pw_below_drewN | apply below_drew1 | refine below_set ?_ GE276.out | refine below_set ?_ GE286.out) | exact HB.out)); (case side2 => exact Kd.R_tight rfl HO291.out); (case side3 => exact Kd.C_kept_own (HO296.out) (fun k_ hk_ hs_ => (hk_.1.2) hs_)); (case side4 => exact (Kd.R_reads' HO296.out).2.1); rintro e w63 ⟨v298, rfl, ho0, hb, hkp⟩; refine ⟨_, rfl, ?_⟩; replace BK276 := Aside0.mk (blk_kept (bV BK276) hkp (fun hs_ => (fun e_ => (Kd.R_ne HO291.out BK276.out (by decide)) e_) hs_)); have HO299 := Aside0.mk (Kd.R_mono (ok' := fun k_ => (P0_ k_ ∨ w.heap.size ≤ k_) ∧ some k_ ≠ (.slice Ao62 y294.length co62 : Value).ownBlock ∧ k_ ≠ gb286) ho0 (fun k_ hk_ => ⟨Or.elim hk_ (fun hs_ => (HO291.out.1 k_ (hs_).symm).1.1) (fun hn_ => (.inr (Nat.le_trans (by first | exact HK.out.1 | exact (show Kept w _ (fun k_ => P0_ k_) from by repeat (first | (with_reducible first | exact HK.out | apply Kept.alloc | apply Kept.drewN | apply Kept.drew | refine Kept.setCell ?_ (.inr GW276.out) _ | refine Kept.setCell ?_ (.inr GW286.out) _) | exact HK.out)).1) hn_))), Or.elim hk_ (fun hs_ => fun e_ => (((HO296.out).1 k_ e_.symm).1.2) hs_) (fun hn_ => (Kd.fresh' (Kd.R_lt (rU HO296.out)) k_ hn_)), Or.elim hk_ (fun hs_ => fun e_ => (Kd.R_away HO291.out (fun _ hk => hk.1.2)) (by rw [← e_]; exact hs_)) (fun hn_ => (Kd.freshB (g := gb286) (o := .cells #[.string a1_3, .int .i64 ((rd_T59 l0 t277).f1), .string ((rd_T59 l0 t277).f2)] 59 (0, 0)) (bV BK286) k_ hn_))⟩)); replace BK286 := Aside0.mk (blk_kept (bV BK286) hkp (fun hs_ => (fun e_ => (Kd.R_away HO291.out (fun _ hk => hk.1.2)) e_) hs_)); replace HO296 := Aside0.mk (Kd.R_mono (ok' := fun k_ => (P0_ k_ ∨ w.heap.size ≤ k_) ∧ k_ ≠ gb286 ∧ some k_ ≠ (v298 : Value).ownBlock) (Kd.R_keptB (HO296.out) hkp (fun k_ hk_ hs_ => (hk_.1.2) hs_)) (fun k_ hk_ => ⟨hk_.1.1.1.1, hk_.1.2, fun e_ => Or.elim (ho0.1 k_ e_.symm) (fun hs_ => hk_.2.1 hs_) (fun hn_ => Nat.not_le.2 hk_.2.2 hn_)⟩)); replace HK := Aside0.mk (Kept.then_ (S := (fun k_ => P0_ k_)) (by repeat (first | (with_reducible first | exact HK.out | apply Kept.alloc | apply Kept.drewN | apply Kept.drew | refine Kept.setCell ?_ (.inr GW276.out) _ | refine Kept.setCell ?_ (.inr GW286.out) _) | exact HK.out)) hkp (fun k_ hs_ => (fun e_ => (HO291.out.1 k_ e_.symm).1.1) hs_)); replace HB := Aside0.mk hb; clear HO291; (try clear hb); (try clear hkp); (try clear hg_); (try clear hp_); (try clear ho0)))
       go_ret2
       exact ⟨_, eE, by (with_reducible repeat (first | apply Kd.R_alloc | apply Kd.R_drewN | apply Kd.R_drew)); exact Kd.R_mono HO299.out (fun _ hk => hk.1), lV2 GE276 GE286, by repeat (first | (with_reducible first | exact HK.out | apply Kept.alloc | apply Kept.drewN | apply Kept.drew | refine Kept.setCell ?_ (.inr GW276.out) _ | refine Kept.setCell ?_ (.inr GW286.out) _) | exact HK.out)⟩
     ·rw [if_neg c24] at H
      exact absurd H (by simp)
    ·rw [if_neg c23] at H
     exact absurd H (by simp)
   ·rw [if_neg c22] at H
    have c22b0 : (a1_1 == 1) = false := beq_eq_false_iff_ne.mpr c22
    have c22b1 : (a1_1 != 1) = true := bne_iff_ne.mpr c22
    by_cases c64 : a1_1 = 4
    ·rw [if_pos c64] at H
     have c64b0 : (a1_1 == 4) = true := beq_iff_eq.mpr c64
     have c64b1 : (a1_1 != 4) = false := bne_eq_false_iff_eq.mpr c64
     clear c64
     replace H := Option.bind_eq_some_iff.mp H
     obtain ⟨t300, A650, H⟩ := H
     replace H : (some (t300, true)) = some (r1, r2) := H
     have A65 := Aside0.mk A650
     clear A650
     simp only [Option.some.injEq, Prod.mk.injEq] at H
     obtain ⟨rfl, rfl⟩ := H
     go_enter Try.func39, Try.ntmps39
     go_wp2_with (first | ((with_reducible refine gate_dst (N := 3) rfl ?_); refine box_event rfl (N := 3) rfl (cs := #[.int .i64 a1_0, .int .i64 a1_1, .string a1_2, .string a1_3, .int .i64 a1_4]) (t := 56) sE ?_; intro gb276 hg w66 hbox hb; replace HO0 := Aside0.mk (Kd.R_below (rU HO0.out) hb); have BK276 := Aside0.mk hbox; have GW276 := Aside0.mk ((by rw [hg]; exact (by first | exact HK.out.1 | exact (show Kept w _ (fun k_ => P0_ k_) from by repeat (first | (with_reducible first | exact HK.out | apply Kept.alloc | apply Kept.drewN | apply Kept.drew) | exact HK.out)).1) : w.heap.size ≤ gb276)); replace HK := Aside0.mk (Kept.below (S := (fun k_ => P0_ k_)) (by repeat (first | (with_reducible first | exact HK.out | apply Kept.alloc | apply Kept.drewN | apply Kept.drew) | exact HK.out)) hb); have GE276 := Aside0.mk ((by rw [hg]; exact (below_size (lU)) : w0.heap.size ≤ gb276)); replace HB := bH (lU) hb; clear hb hbox hg; have hcz67_0 := cz BK276 0 (.int .i64 a1_0); have hcz67_1 := cz BK276 1 (.int .i64 a1_1); have hcz67_2 := cz BK276 2 (.string a1_2); have hcz67_3 := cz BK276 3 (.string a1_3); have hcz67_4 := cz BK276 4 (.int .i64 a1_4); have hfz67_0 := fz BK276 0; have hfz67_1 := fz BK276 1; have hfz67_2 := fz BK276 2; have hfz67_3 := fz BK276 3; have hfz67_4 := fz BK276 4; obtain ⟨Ao68, co68, eo68⟩ := Kd.R_slice HO0.out; subst eo68) | ((with_reducible refine gate_callee (f := 57) rfl ?_); refine goesL_ (some 19) rfl rfl Try.func57 (by kernel_rfl) rfl #[.slice Ao68 l0.length co68, .string a1_2] rfl aE ?_; (with_reducible refine (impl_valuePlace.calls k _ _ l0 a1_2 t277 true _ ?side1 ?side2 A3.out).mono ?_); (case side1 => exact cU (Kd.R_reads' HO0.out).2.2); (case side2 => exact (Kd.R_reads' HO0.out).2.1); rintro e w69 ⟨rfl, hb⟩; refine ⟨_, rfl, ?_⟩; replace HO0 := Aside0.mk (Kd.R_below (rU HO0.out) hb); replace BK276 := bB (bV BK276) hb; replace HK := Aside0.mk (Kept.below (S := (fun k_ => P0_ k_)) (by repeat (first | (with_reducible first | exact HK.out | apply Kept.alloc | apply Kept.drewN | apply Kept.drew | refine Kept.setCell ?_ (.inr GW276.out) _) | exact HK.out)) hb); replace HB := bH (lV1 GE276) hb; (try clear hb); have hcz70_0 := cz BK276 0 (.int .i64 a1_0); have hcz70_1 := cz BK276 1 (.int .i64 a1_1); have hcz70_2 := cz BK276 2 (.string a1_2); have hcz70_3 := cz BK276 3 (.string a1_3); have hcz70_4 := cz BK276 4 (.int .i64 a1_4); have hfz70_0 := fz BK276 0; have hfz70_1 := fz BK276 1; have hfz70_2 := fz BK276 2; have hfz70_3 := fz BK276 3; have hfz70_4 := fz BK276 4) | ((with_reducible refine gate_callee (f := 59) rfl ?_); refine goesL_ (some 84) rfl rfl Try.func59 (by kernel_rfl) rfl #[.slice Ao68 l0.length co68, .int .i64 t277, .int .i64 (wrap64 (t277 + 1))] rfl aE ?_; (with_reducible refine (impl_Value_59.calls (fun k_ => some k_ = (.slice Ao68 l0.length co68 : Value).ownBlock) (.slice Ao68 l0.length co68) l0 t277 (wrap64 (t277 + 1)) t300 w0 _ ?side1 ?side2 A65.out).mono ?_); (case side1 => repeat (first | (with_reducible first | exact HB.out | apply below_alloc | apply pw_below_drewN | apply below_drew1 | refine below_set ?_ GE276.out) | exact HB.out)); (case side2 => exact Kd.R_tight rfl HO0.out); rintro e w71 ⟨v301, rfl, ho0, hb, hkp⟩; refine ⟨_, rfl, ?_⟩; replace BK276 := Aside0.mk (blk_kept (bV BK276) hkp (fun hs_ => (fun e_ => (Kd.R_ne HO0.out BK276.out (by decide)) e_) hs_)); have HO302 := Aside0.mk (Kd.R_mono (ok' := fun k_ => (P0_ k_ ∨ w.heap.size ≤ k_)) ho0 (fun k_ hk_ => Or.elim hk_ (fun hs_ => (HO0.out.1 k_ (hs_).symm)) (fun hn_ => (.inr (Nat.le_trans (by first | exact HK.out.1 | exact (show Kept w _ (fun k_ => P0_ k_) from by repeat (first | (with_reducible first | exact HK.out | apply Kept.alloc | apply Kept.drewN | apply Kept.drew | refine Kept.setCell ?_ (.inr GW276.out) _) | exact HK.out)).1) hn_))))); replace HK := Aside0.mk (Kept.then_ (S := (fun k_ => P0_ k_)) (by repeat (first | (with_reducible first | exact HK.out | apply Kept.alloc | apply Kept.drewN | apply Kept.drew | refine Kept.setCell ?_ (.inr GW276.out) _) | exact HK.out)) hkp (fun k_ hs_ => (fun e_ => (HO0.out.1 k_ e_.symm)) hs_)); replace HB := Aside0.mk hb; clear HO0; (try clear hb); (try clear hkp); (try clear hg_); (try clear hp_); (try clear ho0)))
     go_ret2
     exact ⟨_, eE, by (with_reducible repeat (first | apply Kd.R_alloc | apply Kd.R_drewN | apply Kd.R_drew)); exact HO302.out, lV1 GE276, by repeat (first | (with_reducible first | exact HK.out | apply Kept.alloc | apply Kept.drewN | apply Kept.drew | refine Kept.setCell ?_ (.inr GW276.out) _) | exact HK.out)⟩
    ·rw [if_neg c64] at H
     have c64b0 : (a1_1 == 4) = false := beq_eq_false_iff_ne.mpr c64
     have c64b1 : (a1_1 != 4) = true := bne_iff_ne.mpr c64
     by_cases c72 : 0 ≤ t277
     ·rw [if_pos c72] at H
      have c72b0 : decide (0 ≤ t277) = true := decide_eq_true c72
      clear c72
      by_cases c73 : t277 < (l0.length : Int)
      ·rw [if_pos c73] at H
       have c73b0 : decide (t277 < (l0.length : Int)) = true := decide_eq_true c73
       clear c73
       replace H := Option.bind_eq_some_iff.mp H
       obtain ⟨⟨t304, t305⟩, A740, H⟩ := H
       replace H : (some ((l0.set (t277 : Int).toNat (⟨(rd_T59 l0 t277).f0, t304, (rd_T59 l0 t277).f2⟩ : S59)), t305)) = some (r1, r2) := H
       have A74 := Aside0.mk A740
       clear A740
       obtain ⟨y306, hy306⟩ : ∃ y_ : List (S59), y_ = (l0.set (t277 : Int).toNat (⟨(rd_T59 l0 t277).f0, t304, (rd_T59 l0 t277).f2⟩ : S59)) := ⟨_, rfl⟩
       replace H : (some (y306, t305)) = some (r1, r2) := by first | (rw [hy306]; with_reducible exact H) | (have H2_ := (Option.bind_some _ _).symm.trans H; rw [hy306]; with_reducible exact H2_) | (have H2_ := (Option.bind_some _ _).symm.trans H; with_reducible exact H2_) | with_reducible exact H | (rw [hy306]; exact H) | exact H
       have Ny306 := Aside0.mk hy306
       clear hy306
       simp only [Option.some.injEq, Prod.mk.injEq] at H
       obtain ⟨rfl, rfl⟩ := H
       go_enter Try.func39, Try.ntmps39
       try go_wp2_with (first | ((with_reducible refine gate_dst (N := 3) rfl ?_); refine box_event rfl (N := 3) rfl (cs := #[.int .i64 a1_0, .int .i64 a1_1, .string a1_2, .string a1_3, .int .i64 a1_4]) (t := 56) sE ?_; intro gb276 hg w76 hbox hb; replace HO0 := Aside0.mk (Kd.R_below (rU HO0.out) hb); have BK276 := Aside0.mk hbox; have GW276 := Aside0.mk ((by rw [hg]; exact (by first | exact HK.out.1 | exact (show Kept w _ (fun k_ => P0_ k_) from by repeat (first | (with_reducible first | exact HK.out | apply Kept.alloc | apply Kept.drewN | apply Kept.drew) | exact HK.out)).1) : w.heap.size ≤ gb276)); replace HK := Aside0.mk (Kept.below (S := (fun k_ => P0_ k_)) (by repeat (first | (with_reducible first | exact HK.out | apply Kept.alloc | apply Kept.drewN | apply Kept.drew) | exact HK.out)) hb); have GE276 := Aside0.mk ((by rw [hg]; exact (below_size (lU)) : w0.heap.size ≤ gb276)); replace HB := bH (lU) hb; clear hb hbox hg; have hcz77_0 := cz BK276 0 (.int .i64 a1_0); have hcz77_1 := cz BK276 1 (.int .i64 a1_1); have hcz77_2 := cz BK276 2 (.string a1_2); have hcz77_3 := cz BK276 3 (.string a1_3); have hcz77_4 := cz BK276 4 (.int .i64 a1_4); have hfz77_0 := fz BK276 0; have hfz77_1 := fz BK276 1; have hfz77_2 := fz BK276 2; have hfz77_3 := fz BK276 3; have hfz77_4 := fz BK276 4; obtain ⟨Ao78, co78, eo78⟩ := Kd.R_slice HO0.out; subst eo78) | ((with_reducible refine gate_callee (f := 57) rfl ?_); refine goesL_ (some 19) rfl rfl Try.func57 (by kernel_rfl) rfl #[.slice Ao78 l0.length co78, .string a1_2] rfl aE ?_; (with_reducible refine (impl_valuePlace.calls k _ _ l0 a1_2 t277 true _ ?side1 ?side2 A3.out).mono ?_); (case side1 => exact cU (Kd.R_reads' HO0.out).2.2); (case side2 => exact (Kd.R_reads' HO0.out).2.1); rintro e w79 ⟨rfl, hb⟩; refine ⟨_, rfl, ?_⟩; replace HO0 := Aside0.mk (Kd.R_below (rU HO0.out) hb); replace BK276 := bB (bV BK276) hb; replace HK := Aside0.mk (Kept.below (S := (fun k_ => P0_ k_)) (by repeat (first | (with_reducible first | exact HK.out | apply Kept.alloc | apply Kept.drewN | apply Kept.drew | refine Kept.setCell ?_ (.inr GW276.out) _) | exact HK.out)) hb); replace HB := bH (lV1 GE276) hb; (try clear hb); have hcz80_0 := cz BK276 0 (.int .i64 a1_0); have hcz80_1 := cz BK276 1 (.int .i64 a1_1); have hcz80_2 := cz BK276 2 (.string a1_2); have hcz80_3 := cz BK276 3 (.string a1_3); have hcz80_4 := cz BK276 4 (.int .i64 a1_4); have hfz80_0 := fz BK276 0; have hfz80_1 := fz BK276 1; have hfz80_2 := fz BK276 2; have hfz80_3 := fz BK276 3; have hfz80_4 := fz BK276 4))
       replace HO0 := Aside0.mk (Kd.R_drew HO0.out)
       replace BK276 := Aside0.mk (blk_drew BK276.out)
       replace HK := Aside0.mk (Kept.drew HK.out)
       replace HB := Aside0.mk (below_drew1 HB.out)
       have p303 : 0 ≤ (t277 : Int) := of_decide_eq_true hE
       have q303 : t277 < (l0.length : Int) := of_decide_eq_true hE
       obtain ⟨ad303, e303, hx303_0, hx303_1, hx303_2⟩ := at_T59 (Kd.R_reads' HO0.out).2.2 t277 p303 q303
       cases e303
       replace p303 := eq_true p303
       replace q303 := eq_true q303
       refine start_ (n := 12) (S := fun w' => w'.cell? ⟨gb276, 0, none⟩ = some (.int .i64 a1_0) ∧ w'.cell? ⟨gb276, 1, none⟩ = some (.int .i64 a1_1) ∧ w'.cell? ⟨gb276, 2, none⟩ = some (.string a1_2) ∧ w'.cell? ⟨gb276, 3, none⟩ = some (.string a1_3) ∧ w'.cell? ⟨gb276, 4, none⟩ = some (.int .i64 a1_4) ∧ w'.cell? (ad303.add ((t277).toNat * 3)) = some (.string ((rd_T59 l0 t277).f0)) ∧ w'.cell? ⟨(ad303.add ((t277).toNat * 3)).block, (ad303.add ((t277).toNat * 3)).off + 1, none⟩ = some (.int .i64 ((rd_T59 l0 t277).f1)) ∧ w'.cell? ⟨(ad303.add ((t277).toNat * 3)).block, (ad303.add ((t277).toNat * 3)).off + 2, none⟩ = some (.string ((rd_T59 l0 t277).f2))) (ds := []) #[false, false, false, false, false, false, false, false, false, false, false, false] (by kernel_rfl) rfl rfl ⟨cz BK276 0 _, cz BK276 1 _, cz BK276 2 _, cz BK276 3 _, cz BK276 4 _, hx303_0, hx303_1, hx303_2⟩ (fun hHeld => ?_); refine with_tabW impl_change.tab20 impl_change.bits20 (fun HT_ HW_ => ?_)
       generalize w79.drew = w81 at HO0 BK276 HK HB hx303_0 hx303_1 hx303_2 hHeld ⊢
       refine pureA 1 87 (bz 12 2) rfl rfl (any_of HT_.out (by kernel_rfl)) ?_
       refine pureA 2 88 (bz 12 6) rfl rfl (any_of HT_.out (by kernel_rfl)) ?_
       refine pureA 3 89 (bz 12 14) rfl rfl (any_of HT_.out (by kernel_rfl)) ?_
       refine pureA 4 90 (bz 12 30) rfl rfl (any_of HT_.out (by kernel_rfl)) ?_
       refine takeA 0 86 (bz 12 31) rfl rfl (take_ofW HT_.out HW_.out (by kernel_rfl)) hHeld (by rintro w' ⟨s0, s1, s2, s3, s4, s5, s6, s7⟩; go_simp; with_reducible rfl) ?_
       refine takeA 5 91 (bz 12 63) rfl rfl (take_ofW HT_.out HW_.out (by kernel_rfl)) hHeld (by rintro w' ⟨s0, s1, s2, s3, s4, s5, s6, s7⟩; go_simp; with_reducible rfl) ?_
       refine one_ (i := 6) (N := some 92) (bz 12 127) rfl rfl (one_of HT_.out (by kernel_rfl)) (by decide) (fun K hK => ?_)
       refine goes_ Try.func60 (by kernel_rfl) rfl #[.agg #[.int .i64 a1_0, .int .i64 a1_1, .string a1_2, .string a1_3, .int .i64 a1_4], .int .i64 ((rd_T59 l0 t277).f1)] (by rfl) rfl rfl aE ?_
       with_reducible refine (impl_Change_changed.calls k a1_0 a1_1 a1_2 a1_3 a1_4 ((rd_T59 l0 t277).f1) t304 t305 _ A74.out).mono ?_
       rintro e w82 ⟨rfl, hb⟩
       have HS5_ := (hb.cell (World.block_lt_of_cell? _ _ (hHeld.2.2.2.2.2.1))).trans (hHeld.2.2.2.2.2.1)
       have HS6_ := (hb.cell (World.block_lt_of_cell? _ _ (hHeld.2.2.2.2.2.2.1))).trans (hHeld.2.2.2.2.2.2.1)
       have HS7_ := (hb.cell (World.block_lt_of_cell? _ _ (hHeld.2.2.2.2.2.2.2))).trans (hHeld.2.2.2.2.2.2.2)
       refine ⟨_, rfl, ?_⟩
       replace HO0 := Aside0.mk (Kd.R_below (rU HO0.out) hb)
       replace BK276 := bB (bV BK276) hb
       replace HK := Aside0.mk (Kept.below (S := (fun k_ => P0_ k_)) (by repeat (first | (with_reducible first | exact HK.out | apply Kept.alloc | apply Kept.drewN | apply Kept.drew | refine Kept.setCell ?_ (.inr GW276.out) _) | exact HK.out)) hb)
       replace HB := bH (lV1 GE276) hb
       (try clear hb)
       (try clear hb2)
       (try clear hk)
       (try clear hi)
       refine hK.out _ _ ⟨cz BK276 0 _, cz BK276 1 _, cz BK276 2 _, cz BK276 3 _, cz BK276 4 _, HS5_, HS6_, HS7_⟩ (fun hHeld => ?_)
       clear hK K
       refine norm_ (a' := ?_) ?_ ?_
       rotate_left
       ·show Act.put _ (some 92) _ = _
        simp only [Act.put, List.setIfInBounds_toArray, List.set_cons_zero, List.set_cons_succ, i64_w, i32_w]
        rfl
       refine pureA 7 85 (bz 12 255) rfl rfl (any_of HT_.out (by kernel_rfl)) ?_
       refine pureA 8 93 (bz 12 511) rfl rfl (any_of HT_.out (by kernel_rfl)) ?_
       refine pureA 9 94 (bz 12 1023) rfl rfl (any_of HT_.out (by kernel_rfl)) ?_
       refine pureA 10 13 (bz 12 2047) rfl rfl (any_of HT_.out (by kernel_rfl)) ?_
       refine pureA 11 14 (bz 12 4095) rfl rfl (any_of HT_.out (by kernel_rfl)) ?_
       refine done_ (done_of HT_.out (by kernel_rfl)) ?_
       have p75 : 0 ≤ (t277 : Int) := of_decide_eq_true hE
       have q75 : (t277 : Int) < ((l0.length : Int) : Int) := of_decide_eq_true hE
       obtain ⟨go75, co75, eo75, gb75, gl75, cl75, HG75⟩ := Kd.R_form HO0.out (by omega)
       (first | cases eo75 | (injection eo75 with ea_ en_ ec_; (first | subst ea_ | (injection ea_ with ea_; subst ea_)); subst ec_; clear en_))
       have GB75 := Aside0.mk gb75
       have GG75 := Aside0.mk HG75
       clear gb75 gl75 HG75
       have HMgo75 := Aside0.mk (show (P0_ go75 ∨ w.heap.size ≤ go75) from (HO0.out.1 _ rfl))
       (first | simp only [add_plain] at hx303_0 | skip)
       (first | simp only [add_plain] at hx303_1 | skip)
       (first | simp only [add_plain] at hx303_2 | skip)
       obtain ⟨ce75, hcl75, hM75, hcc75, hfr75⟩ := Kd.R_elem HO0.out z59 (t277 : Int) p75 q75
       obtain rfl := k59_openM hM75
       have hx75_0 : w82.cell? ⟨go75, (t277 : Int).toNat * 3, none⟩ = some (.string ((rd_T59 l0 t277).f0)) := hcc75 0 _ rfl
       have hx75_1 : w82.cell? ⟨go75, (t277 : Int).toNat * 3 + 1, none⟩ = some (.int .i64 ((rd_T59 l0 t277).f1)) := hcc75 1 _ rfl
       have hx75_2 : w82.cell? ⟨go75, (t277 : Int).toNat * 3 + 2, none⟩ = some (.string ((rd_T59 l0 t277).f2)) := hcc75 2 _ rfl
       have hf75_0 : w82.frozen? ⟨go75, (t277 : Int).toNat * 3, none⟩ = false := hfr75 0
       have hf75_1 : w82.frozen? ⟨go75, (t277 : Int).toNat * 3 + 1, none⟩ = false := hfr75 1
       have hf75_2 : w82.frozen? ⟨go75, (t277 : Int).toNat * 3 + 2, none⟩ = false := hfr75 2
       (try clear hcl75)
       (try clear hcc75)
       (try clear hfr75)
       (try clear hM75)
       replace p75 := eq_true p75
       replace q75 := eq_true q75
       have HX83 := Aside0.mk (show Kd.R k59 59 w82 w0.heap.size (fun k_ => (P0_ k_ ∨ w.heap.size ≤ k_)) (.slice (some ⟨go75, 0, none⟩) l0.length co78) l0 from (rU HO0.out))
       obtain ⟨ce83, hcl83, hM83, hcc83, hfr83⟩ := Kd.R_elem HX83.out z59 (t277 : Int) (of_decide_eq_true hE) (by have h_ : (t277 : Int) < ((l0.length : Int) : Int) := of_decide_eq_true hE; first | exact h_ | (have e_ := (Kd.R_reads' HO0.out).1; omega) | simpa using h_)
       obtain rfl := k59_openM hM83
       have HP83 := Kd.R_seg HX83.out (t277 : Int) (of_decide_eq_true hE) (by have h_ : (t277 : Int) < ((l0.length : Int) : Int) := of_decide_eq_true hE; first | exact h_ | (have e_ := (Kd.R_reads' HO0.out).1; omega) | simpa using h_) (seg := [.int .i64 t304]) (j := 1) hcl83 hcc83 (show 2 ≤ 3 from by decide) (x' := (⟨(rd_T59 l0 t277).f0, t304, (rd_T59 l0 t277).f2⟩ : S59)) (k59_mkM _ _ _ (⟨(rd_T59 l0 t277).f0, t304, (rd_T59 l0 t277).f2⟩ : S59) ) (fun _ hk => hk)
       have hx83_1 := hcc83 1 _ rfl
       (try simp only [show (k59).sz = 3 from rfl, Nat.mul_one, Nat.add_zero] at hx83_1)
       have hf83_1 := hfr83 1
       (try simp only [show (k59).sz = 3 from rfl, Nat.mul_one, Nat.add_zero] at hf83_1)
       (try clear hcl83)
       (try clear hcc83)
       (try clear hfr83)
       (try clear hM83)
       try go_wp2_with (first | ((with_reducible refine gate_store (t := 3) (p := 99) rfl ?_); refine store_event (t := 3) (p := 99) (v := ?vo_w84) (w1 := (w82.setCell ⟨go75, (t277 : Int).toNat * 3 + 1, none⟩ (.int .i64 t304))) ?hg ?ho ?hn ?hr ?_; (case ho => rfl); (case hg => rfl); (case hn => rfl); (case hr => exact sE); intro w84 hw; have hg : w82.grownBy w84 (some go75) := (by rw [hw]; exact HP83.2); have hp_ : Kd.R k59 59 w84 w0.heap.size (fun k_ => (P0_ k_ ∨ w.heap.size ≤ k_)) (.slice (some ⟨go75, 0, none⟩) l0.length co78) y306 := (by rw [hw, Ny306.out]; exact HP83.1); clear HP83; replace BK276 := Aside0.mk (blk_grown (g := gb276) (o := .cells #[.int .i64 a1_0, .int .i64 a1_1, .string a1_2, .string a1_3, .int .i64 a1_4] 56 (0, 0)) (bV BK276) hg (Kd.R_ne HO0.out BK276.out (by decide))); replace HB := Aside0.mk ((by rw [hw]; exact below_set (HB.out) GB75.out : Below w0.heap.size w0 w84)); replace HK := Aside0.mk (Kept.of_grown (S := (fun k_ => P0_ k_)) hg (by repeat (first | (with_reducible first | exact HK.out | apply Kept.alloc | apply Kept.drewN | apply Kept.drew | refine Kept.setCell ?_ (.inr GW276.out) _) | exact HK.out)) (fun k_ e_ => (HO0.out.1 k_ e_))); replace HO0 := Aside0.mk hp_; clear hg hw hp_))
       go_ret2
       exact ⟨_, eE, by (with_reducible repeat (first | apply Kd.R_alloc | apply Kd.R_drewN | apply Kd.R_drew)); exact HO0.out, lV1 GE276, by repeat (first | (with_reducible first | exact HK.out | apply Kept.alloc | apply Kept.drewN | apply Kept.drew | refine Kept.setCell ?_ (.inr GW276.out) _) | exact HK.out)⟩
      ·rw [if_neg c73] at H
       exact absurd H (by simp)
     ·rw [if_neg c72] at H
      exact absurd H (by simp)
  ·replace c21 := Bool.eq_false_iff.mpr c21
   subst c21
   have H1 : (some (l0, true)) = some (r1, r2) := by rw [if_neg (show ¬ (false = true) by decide)] at H; exact H
   clear H
   have H := H1
   clear H1
   simp only [Option.some.injEq, Prod.mk.injEq] at H
   obtain ⟨rfl, rfl⟩ := H
   go_enter Try.func39, Try.ntmps39
   go_wp2_with (first | ((with_reducible refine gate_dst (N := 3) rfl ?_); refine box_event rfl (N := 3) rfl (cs := #[.int .i64 a1_0, .int .i64 a1_1, .string a1_2, .string a1_3, .int .i64 a1_4]) (t := 56) sE ?_; intro gb276 hg w85 hbox hb; replace HO0 := Aside0.mk (Kd.R_below (rU HO0.out) hb); have BK276 := Aside0.mk hbox; have GW276 := Aside0.mk ((by rw [hg]; exact (by first | exact HK.out.1 | exact (show Kept w _ (fun k_ => P0_ k_) from by repeat (first | (with_reducible first | exact HK.out | apply Kept.alloc | apply Kept.drewN | apply Kept.drew) | exact HK.out)).1) : w.heap.size ≤ gb276)); replace HK := Aside0.mk (Kept.below (S := (fun k_ => P0_ k_)) (by repeat (first | (with_reducible first | exact HK.out | apply Kept.alloc | apply Kept.drewN | apply Kept.drew) | exact HK.out)) hb); have GE276 := Aside0.mk ((by rw [hg]; exact (below_size (lU)) : w0.heap.size ≤ gb276)); replace HB := bH (lU) hb; clear hb hbox hg; have hcz86_0 := cz BK276 0 (.int .i64 a1_0); have hcz86_1 := cz BK276 1 (.int .i64 a1_1); have hcz86_2 := cz BK276 2 (.string a1_2); have hcz86_3 := cz BK276 3 (.string a1_3); have hcz86_4 := cz BK276 4 (.int .i64 a1_4); have hfz86_0 := fz BK276 0; have hfz86_1 := fz BK276 1; have hfz86_2 := fz BK276 2; have hfz86_3 := fz BK276 3; have hfz86_4 := fz BK276 4; obtain ⟨Ao87, co87, eo87⟩ := Kd.R_slice HO0.out; subst eo87) | ((with_reducible refine gate_callee (f := 57) rfl ?_); refine goesL_ (some 19) rfl rfl Try.func57 (by kernel_rfl) rfl #[.slice Ao87 l0.length co87, .string a1_2] rfl aE ?_; (with_reducible refine (impl_valuePlace.calls k _ _ l0 a1_2 t277 false _ ?side1 ?side2 A3.out).mono ?_); (case side1 => exact cU (Kd.R_reads' HO0.out).2.2); (case side2 => exact (Kd.R_reads' HO0.out).2.1); rintro e w88 ⟨rfl, hb⟩; refine ⟨_, rfl, ?_⟩; replace HO0 := Aside0.mk (Kd.R_below (rU HO0.out) hb); replace BK276 := bB (bV BK276) hb; replace HK := Aside0.mk (Kept.below (S := (fun k_ => P0_ k_)) (by repeat (first | (with_reducible first | exact HK.out | apply Kept.alloc | apply Kept.drewN | apply Kept.drew | refine Kept.setCell ?_ (.inr GW276.out) _) | exact HK.out)) hb); replace HB := bH (lV1 GE276) hb; (try clear hb); have hcz89_0 := cz BK276 0 (.int .i64 a1_0); have hcz89_1 := cz BK276 1 (.int .i64 a1_1); have hcz89_2 := cz BK276 2 (.string a1_2); have hcz89_3 := cz BK276 3 (.string a1_3); have hcz89_4 := cz BK276 4 (.int .i64 a1_4); have hfz89_0 := fz BK276 0; have hfz89_1 := fz BK276 1; have hfz89_2 := fz BK276 2; have hfz89_3 := fz BK276 3; have hfz89_4 := fz BK276 4))
   go_ret2
   exact ⟨_, eE, by (with_reducible repeat (first | apply Kd.R_alloc | apply Kd.R_drewN | apply Kd.R_drew)); exact HO0.out, lV1 GE276, by repeat (first | (with_reducible first | exact HK.out | apply Kept.alloc | apply Kept.drewN | apply Kept.drew | refine Kept.setCell ?_ (.inr GW276.out) _) | exact HK.out)⟩
mutual
def impl_MigrateSave.j0 : Nat → Int → List (S59) → List (S56) → Bool → Option ((List (S59)) × Bool)
 | 0, _, _, _, _ => none
 | k + 1, x0, x1, x2, x24 => if x24 = true then (some (([] : List (S59)), false)) else ((impl_Value_38.f x1).bind fun t310 => (impl_MigrateSave.l0 k x0 t310 x2 (x2.length : Int) 0))
def impl_MigrateSave.l0 : Nat → Int → List (S59) → List (S56) → Int → Int → Option ((List (S59)) × Bool)
 | 0, _, _, _, _, _ => none
 | k + 1, x0, x8, x27, x28, x29 => if x29 < x28 then (if 0 ≤ x29 then (if x29 < (x27.length : Int) then (if ((rd_T56 x27 x29).f0) < x0 then (impl_MigrateSave.l0 k x0 x8 x27 x28 (wrap64 (x29 + 1))) else ((impl_change.f k x8 ((rd_T56 x27 x29).f0) ((rd_T56 x27 x29).f1) ((rd_T56 x27 x29).f2) ((rd_T56 x27 x29).f3) ((rd_T56 x27 x29).f4)).bind fun bt315 => (if bt315.2 = true then (impl_MigrateSave.l0 k x0 bt315.1 x27 x28 (wrap64 (x29 + 1))) else (some (([] : List (S59)), false))))) else (none)) else (none)) else (some (x8, true))
end
def impl_MigrateSave.f (k : Nat) (a0 : Int) (l1 : List (S59)) (l2 : List (S56)) : Option ((List (S59)) × Bool) := (impl_inRange.f a0 1 3).bind fun t307 => (if t307 = true then ((impl_GoodValues.f k l1).bind fun t308 => (if t308 = true then ((impl_GoodChanges.f k l2).bind fun t309 => (impl_MigrateSave.j0 k a0 l1 l2 (!t309))) else (impl_MigrateSave.j0 k a0 l1 l2 true))) else (impl_MigrateSave.j0 k a0 l1 l2 true))
theorem impl_MigrateSave.mono_l : ∀ k, (∀ y0 y1 y2 y3, LeO (impl_MigrateSave.j0 k y0 y1 y2 y3) (impl_MigrateSave.j0 (k + 1) y0 y1 y2 y3)) ∧ (∀ y0 y1 y2 y3 y4, LeO (impl_MigrateSave.l0 k y0 y1 y2 y3 y4) (impl_MigrateSave.l0 (k + 1) y0 y1 y2 y3 y4))
 | 0 => ⟨fun _ _ _ _ r h => by simp [impl_MigrateSave.j0] at h, fun _ _ _ _ _ r h => by simp [impl_MigrateSave.l0] at h⟩
 | k + 1 => by
  obtain ⟨ih0, ih1⟩ := impl_MigrateSave.mono_l k
  refine ⟨?_, ?_⟩
  ·intro y0 y1 y2 y3
   unfold impl_MigrateSave.j0
   repeat' first
   | (with_reducible exact ih0 _ _ _ _)
   | (with_reducible exact ih1 _ _ _ _ _)
   | (with_reducible exact impl_GoodChanges.mono _ _)
   | (with_reducible exact impl_GoodValues.mono _ _)
   | (with_reducible exact impl_change.mono _ _ _ _ _ _ _)
   | (with_reducible first | exact LeO.refl _ | exact LeO.none _ | refine LeO.ite ?_ ?_ | refine LeO.bind ?_ (fun _ => ?_))
   | exact ih0 _ _ _ _
   | exact ih1 _ _ _ _ _
   | exact impl_GoodChanges.mono _ _
   | exact impl_GoodValues.mono _ _
   | exact impl_change.mono _ _ _ _ _ _ _ | exact LeO.none _ | refine LeO.ite ?_ ?_ | refine LeO.bind ?_ (fun _ => ?_)
  ·intro y0 y1 y2 y3 y4
   unfold impl_MigrateSave.l0
   repeat' first
   | (with_reducible exact ih0 _ _ _ _)
   | (with_reducible exact ih1 _ _ _ _ _)
   | (with_reducible exact impl_GoodChanges.mono _ _)
   | (with_reducible exact impl_GoodValues.mono _ _)
   | (with_reducible exact impl_change.mono _ _ _ _ _ _ _)
   | (with_reducible first | exact LeO.refl _ | exact LeO.none _ | refine LeO.ite ?_ ?_ | refine LeO.bind ?_ (fun _ => ?_))
   | exact ih0 _ _ _ _
   | exact ih1 _ _ _ _ _
   | exact impl_GoodChanges.mono _ _
   | exact impl_GoodValues.mono _ _
   | exact impl_change.mono _ _ _ _ _ _ _ | exact LeO.none _ | refine LeO.ite ?_ ?_ | refine LeO.bind ?_ (fun _ => ?_)
theorem impl_MigrateSave.mono : ∀ a0 a1 a2 k, LeO (impl_MigrateSave.f k a0 a1 a2) (impl_MigrateSave.f (k + 1) a0 a1 a2) := by
 intro a0 a1 a2 k
 obtain ⟨ih0, ih1⟩ := impl_MigrateSave.mono_l k
 unfold impl_MigrateSave.f
 repeat' first
   | (with_reducible exact ih0 _ _ _ _)
   | (with_reducible exact ih1 _ _ _ _ _)
   | (with_reducible exact impl_GoodChanges.mono _ _)
   | (with_reducible exact impl_GoodValues.mono _ _)
   | (with_reducible exact impl_change.mono _ _ _ _ _ _ _)
   | (with_reducible first | exact LeO.refl _ | exact LeO.none _ | refine LeO.ite ?_ ?_ | refine LeO.bind ?_ (fun _ => ?_))
   | exact ih0 _ _ _ _
   | exact ih1 _ _ _ _ _
   | exact impl_GoodChanges.mono _ _
   | exact impl_GoodValues.mono _ _
   | exact impl_change.mono _ _ _ _ _ _ _ | exact LeO.none _ | refine LeO.ite ?_ ?_ | refine LeO.bind ?_ (fun _ => ?_)
set_option maxHeartbeats 8000000 in
set_option maxRecDepth 100000 in
theorem impl_MigrateSave.calls (k : Nat) (a0 : Int) (A1 : Option Addr) (c1 : Nat) (l1 : List (S59)) (A2 : Option Addr) (c2 : Nat) (l2 : List (S56)) (r1 : List (S59)) (r2 : Bool) (w : World) (hr1 : Kd.C k59 w A1 l1.length l1) (hc1 : l1.length ≤ c1) (hr2 : Kd.C k56 w A2 l2.length l2) (hc2 : l2.length ≤ c2) (h : impl_MigrateSave.f k a0 l1 l2 = some (r1, r2)) :
  Calls Try.prog 11 #[.int .i64 a0, .slice A1 l1.length c1, .slice A2 l2.length c2] w fun e w' => ∃ v0_ : Value, e = .returned (.tuple #[v0_, .bool r2]) ∧ Kd.R k59 59 w' w.heap.size (fun _ => True) v0_ r1 ∧ Below w.heap.size w w' := by
 have hu56 := Try.underlying56
 have HR1 := Aside0.mk hr1
 have HC1 := Aside0.mk hc1
 clear hr1 hc1
 have HR2 := Aside0.mk hr2
 have HC2 := Aside0.mk hc2
 clear hr2 hc2
 have HB := Aside0.mk (Below.refl w.heap.size w)
 have H : ((impl_inRange.f a0 1 3).bind fun t307 => (if t307 = true then ((impl_GoodValues.f k l1).bind fun t308 => (if t308 = true then ((impl_GoodChanges.f k l2).bind fun t309 => (impl_MigrateSave.j0 k a0 l1 l2 (!t309))) else (impl_MigrateSave.j0 k a0 l1 l2 true))) else (impl_MigrateSave.j0 k a0 l1 l2 true))) = some (r1, r2) := h
 clear h
 have HC4 := Aside0.mk H
 clear H
 go_enter Try.func11, Try.ntmps11
 go_upto_region 1 with (fail)
 go_cut [24] (fun v24 wc => ∃ (kq : Nat) (x24_3 : Bool), v24 = .bool x24_3 ∧ Aside0 (impl_MigrateSave.j0 kq a0 l1 l2 x24_3 = some (r1, r2)) ∧ Aside0 (kq ≤ k) ∧ Aside0 (Below w.heap.size w wc))
 case first =>
  have H := HC4.out
  clear HC4
  replace H := Option.bind_eq_some_iff.mp H
  obtain ⟨t307, A50, H⟩ := H
  replace H : (if t307 = true then ((impl_GoodValues.f k l1).bind fun t308 => (if t308 = true then ((impl_GoodChanges.f k l2).bind fun t309 => (impl_MigrateSave.j0 k a0 l1 l2 (!t309))) else (impl_MigrateSave.j0 k a0 l1 l2 true))) else (impl_MigrateSave.j0 k a0 l1 l2 true)) = some (r1, r2) := H
  have A5 := Aside0.mk A50
  clear A50
  by_cases c6 : t307 = true
  ·subst c6
   have H1 : ((impl_GoodValues.f k l1).bind fun t308 => (if t308 = true then ((impl_GoodChanges.f k l2).bind fun t309 => (impl_MigrateSave.j0 k a0 l1 l2 (!t309))) else (impl_MigrateSave.j0 k a0 l1 l2 true))) = some (r1, r2) := by rw [if_pos rfl] at H; exact H
   clear H
   have H := H1
   clear H1
   replace H := Option.bind_eq_some_iff.mp H
   obtain ⟨t308, A70, H⟩ := H
   replace H : (if t308 = true then ((impl_GoodChanges.f k l2).bind fun t309 => (impl_MigrateSave.j0 k a0 l1 l2 (!t309))) else (impl_MigrateSave.j0 k a0 l1 l2 true)) = some (r1, r2) := H
   have A7 := Aside0.mk A70
   clear A70
   by_cases c8 : t308 = true
   ·subst c8
    have H1 : ((impl_GoodChanges.f k l2).bind fun t309 => (impl_MigrateSave.j0 k a0 l1 l2 (!t309))) = some (r1, r2) := by rw [if_pos rfl] at H; exact H
    clear H
    have H := H1
    clear H1
    replace H := Option.bind_eq_some_iff.mp H
    obtain ⟨t309, A90, H⟩ := H
    replace H : (impl_MigrateSave.j0 k a0 l1 l2 (!t309)) = some (r1, r2) := H
    have A9 := Aside0.mk A90
    clear A90
    have H' := Aside0.mk H
    clear H
    go_wp2_with (first | ((with_reducible refine gate_callee (f := 35) rfl ?_); refine goesL_ (some 13) rfl rfl Try.func35 (by kernel_rfl) rfl #[.int .i64 a0, .int .i64 1, .int .i64 3] rfl aE ?_; (with_reducible refine (impl_inRange.calls a0 1 3 true _ A5.out).mono ?_); rintro e w' ⟨rfl, ⟨nd, rfl⟩⟩; refine ⟨_, rfl, ?_⟩) | (go_at_call 36; (with_reducible refine (impl_GoodValues.calls k _ _ l1 true _ ?side1 ?side2 A7.out).mono ?_); (case side1 => exact cU (Kd.C_below HR1.out (lU))); (case side2 => exact HC1.out); rintro e w10 ⟨rfl, hb⟩; replace HB := bH (lU) hb; (try clear hb)) | (go_at_call 37; (with_reducible refine (impl_GoodChanges.calls k _ _ l2 t309 _ ?side1 ?side2 A9.out).mono ?_); (case side1 => exact cU (Kd.C_below HR2.out HB.out)); (case side2 => exact HC2.out); rintro e w11 ⟨rfl, hb⟩; replace HB := bH (lU) hb; (try clear hb)))
    go_meet
    case rel => exact ⟨_, (!t309), tE, H', ⟨by first | omega | exact Nat.le_refl _⟩, ⟨by repeat (first | (with_reducible first | exact HB.out | apply below_alloc | apply pw_below_drewN | apply below_drew1) | exact HB.out)⟩⟩
   ·replace c8 := Bool.eq_false_iff.mpr c8
    subst c8
    have H1 : (impl_MigrateSave.j0 k a0 l1 l2 true) = some (r1, r2) := by rw [if_neg (show ¬ (false = true) by decide)] at H; exact H
    clear H
    have H := H1
    clear H1
    have H' := Aside0.mk H
    clear H
    go_wp2_with (first | ((with_reducible refine gate_callee (f := 35) rfl ?_); refine goesL_ (some 13) rfl rfl Try.func35 (by kernel_rfl) rfl #[.int .i64 a0, .int .i64 1, .int .i64 3] rfl aE ?_; (with_reducible refine (impl_inRange.calls a0 1 3 true _ A5.out).mono ?_); rintro e w' ⟨rfl, ⟨nd, rfl⟩⟩; refine ⟨_, rfl, ?_⟩) | (go_at_call 36; (with_reducible refine (impl_GoodValues.calls k _ _ l1 false _ ?side1 ?side2 A7.out).mono ?_); (case side1 => exact cU (Kd.C_below HR1.out (lU))); (case side2 => exact HC1.out); rintro e w12 ⟨rfl, hb⟩; replace HB := bH (lU) hb; (try clear hb)))
    go_meet
    case rel => exact ⟨_, (true), tE, H', ⟨by first | omega | exact Nat.le_refl _⟩, ⟨by repeat (first | (with_reducible first | exact HB.out | apply below_alloc | apply pw_below_drewN | apply below_drew1) | exact HB.out)⟩⟩
  ·replace c6 := Bool.eq_false_iff.mpr c6
   subst c6
   have H1 : (impl_MigrateSave.j0 k a0 l1 l2 true) = some (r1, r2) := by rw [if_neg (show ¬ (false = true) by decide)] at H; exact H
   clear H
   have H := H1
   clear H1
   have H' := Aside0.mk H
   clear H
   go_wp2_with (first | ((with_reducible refine gate_callee (f := 35) rfl ?_); refine goesL_ (some 13) rfl rfl Try.func35 (by kernel_rfl) rfl #[.int .i64 a0, .int .i64 1, .int .i64 3] rfl aE ?_; (with_reducible refine (impl_inRange.calls a0 1 3 false _ A5.out).mono ?_); rintro e w' ⟨rfl, ⟨nd, rfl⟩⟩; refine ⟨_, rfl, ?_⟩))
   go_meet
   case rel => exact ⟨_, (true), tE, H', ⟨by first | omega | exact Nat.le_refl _⟩, ⟨by repeat (first | (with_reducible first | exact HB.out | apply below_alloc | apply pw_below_drewN | apply below_drew1) | exact HB.out)⟩⟩
 case rest =>
  clear HC4
  try clear c1
  try clear c2
  try clear p2
  try clear c3
  try clear c6
  try clear c8
  try clear c11
  obtain ⟨kq, x24_3, rfl, HA, HJ3, HB⟩ := hcut
  cases kq with
  | zero => exact absurd HA.out (by simp [impl_MigrateSave.j0])
  | succ kj3 =>
   have H := HA.out
   clear HA
   simp only [impl_MigrateSave.j0] at H
   by_cases c13 : x24_3 = true
   ·subst c13
    have H1 : (some (([] : List (S59)), false)) = some (r1, r2) := by rw [if_pos rfl] at H; exact H
    clear H
    have H := H1
    clear H1
    simp only [Option.some.injEq, Prod.mk.injEq] at H
    obtain ⟨rfl, rfl⟩ := H
    go_wp2
    go_ret2
    exact ⟨_, eE, by first | exact Kd.R_nil _ _ _ _ _ | exact Kd.N_nil _ _ _ _ _ | exact Kd.V_nil _ _ _ _ _ | exact Kd.Q_nil _ _ _ _ _ | exact Kd.S_nil _ _ _ _ _, lU⟩
   ·replace c13 := Bool.eq_false_iff.mpr c13
    subst c13
    have H1 : ((impl_Value_38.f l1).bind fun t310 => (impl_MigrateSave.l0 kj3 a0 t310 l2 (l2.length : Int) 0)) = some (r1, r2) := by rw [if_neg (show ¬ (false = true) by decide)] at H; exact H
    clear H
    have H := H1
    clear H1
    replace H := Option.bind_eq_some_iff.mp H
    obtain ⟨t310, A140, H⟩ := H
    replace H : (impl_MigrateSave.l0 kj3 a0 t310 l2 (l2.length : Int) 0) = some (r1, r2) := H
    have A14 := Aside0.mk A140
    clear A140
    have H' := Aside0.mk H
    clear H
    go_wp2_with (first | ((with_reducible refine gate_callee (f := 38) rfl ?_); refine goesL_ (some 26) rfl rfl Try.func38 (by kernel_rfl) rfl #[.slice A1 l1.length c1] rfl aE ?_; (with_reducible refine (impl_Value_38.calls _ _ l1 t310 _ ?side1 ?side2 A14.out).mono ?_); (case side1 => exact cU (Kd.C_below HR1.out HB.out)); (case side2 => exact HC1.out); rintro e w15 ⟨v311, rfl, ho0, hb⟩; refine ⟨_, rfl, ?_⟩; have HO312 := Aside0.mk (Kd.R_lower ho0 (below_size (lU))); replace HB := bH (lU) hb; (try clear hb); (try clear ho0)))
    (try simp only [Act.put, List.setIfInBounds_toArray, List.set_cons_zero, List.set_cons_succ])
    go_loopg [8, 29] kj3 (fun kq v8 v29 w' => ∃ (x8_2 : List (S59)) (x29_2 : Int), v29 = .int .i64 x29_2 ∧ Aside0 (impl_MigrateSave.l0 kq a0 x8_2 l2 (l2.length : Int) x29_2 = some (r1, r2)) ∧ Aside0 (kq ≤ kj3) ∧ Aside0 (Kd.R k59 59 w' w.heap.size (fun _ => True) v8 x8_2) ∧ Aside0 (Below w.heap.size w w'))
    case atStart => exact ⟨(t310), (0), tE, H', ⟨Nat.le_refl _⟩, ⟨by (with_reducible repeat (first | apply Kd.R_alloc | apply Kd.R_drewN | apply Kd.R_drew)); exact HO312.out⟩, ⟨by repeat (first | (with_reducible first | exact HB.out | apply below_alloc | apply pw_below_drewN | apply below_drew1) | exact HB.out)⟩⟩
    case round =>
     clear H'
     try clear c1
     try clear c2
     try clear p2
     try clear c3
     try clear c6
     try clear c8
     try clear c11
     try clear c13
     try clear p2
     obtain ⟨x8_2, x29_2, rfl, HA, HK2, HO_8, HB⟩ := hrel
     cases gk with
     | zero => exact absurd HA.out (by simp [impl_MigrateSave.l0])
     | succ k2 =>
      have H := HA.out
      clear HA
      simp only [impl_MigrateSave.l0] at H
      by_cases c16 : x29_2 < (l2.length : Int)
      ·rw [if_pos c16] at H
       have c16b0 : decide (x29_2 < (l2.length : Int)) = true := decide_eq_true c16
       clear c16
       by_cases c17 : 0 ≤ x29_2
       ·rw [if_pos c17] at H
        have c17b0 : decide (0 ≤ x29_2) = true := decide_eq_true c17
        clear c17
        by_cases c18 : x29_2 < (l2.length : Int)
        ·rw [if_pos c18] at H
         have c18b0 : decide (x29_2 < (l2.length : Int)) = true := decide_eq_true c18
         clear c18
         by_cases c19 : ((rd_T56 l2 x29_2).f0) < a0
         ·rw [if_pos c19] at H
          have c19b0 : decide (((rd_T56 l2 x29_2).f0) < a0) = true := decide_eq_true c19
          clear c19
          have H' := Aside0.mk H
          clear H
          have p313 : 0 ≤ (x29_2 : Int) := of_decide_eq_true hE
          have q313 : x29_2 < (l2.length : Int) := of_decide_eq_true hE
          obtain ⟨ad313, e313, hx313_0, hx313_1, hx313_2, hx313_3, hx313_4⟩ := at_T56 HR2.out x29_2 p313 q313
          cases e313
          replace hx313_0 := (HB.out.cell (World.block_lt_of_cell? w _ hx313_0)).trans hx313_0
          replace hx313_1 := (HB.out.cell (World.block_lt_of_cell? w _ hx313_1)).trans hx313_1
          replace hx313_2 := (HB.out.cell (World.block_lt_of_cell? w _ hx313_2)).trans hx313_2
          replace hx313_3 := (HB.out.cell (World.block_lt_of_cell? w _ hx313_3)).trans hx313_3
          replace hx313_4 := (HB.out.cell (World.block_lt_of_cell? w _ hx313_4)).trans hx313_4
          replace p313 := eq_true p313
          replace q313 := eq_true q313
          go_wp2_with (first | ((with_reducible refine gate_dst (N := 11) rfl ?_); refine box_event rfl (N := 11) rfl (cs := #[.int .i64 0, .int .i64 0, .string (⟨#[]⟩ : ByteArray), .string (⟨#[]⟩ : ByteArray), .int .i64 0]) (t := 56) sE ?_; intro gb314 hg w20 hbox hb; replace HO_8 := Aside0.mk (Kd.R_below (rU HO_8.out) hb); have BK314 := Aside0.mk hbox; have GW314 := gS w hg (lU); have GE314 := gS w hg (lU); replace HB := bH (lU) hb; clear hb hbox hg; have hcz21_0 := cz BK314 0 (.int .i64 0); have hcz21_1 := cz BK314 1 (.int .i64 0); have hcz21_2 := cz BK314 2 (.string (⟨#[]⟩ : ByteArray)); have hcz21_3 := cz BK314 3 (.string (⟨#[]⟩ : ByteArray)); have hcz21_4 := cz BK314 4 (.int .i64 0); have hfz21_0 := fz BK314 0; have hfz21_1 := fz BK314 1; have hfz21_2 := fz BK314 2; have hfz21_3 := fz BK314 3; have hfz21_4 := fz BK314 4) | ((with_reducible refine gate_store (t := 56) (p := 11) rfl ?_); refine store_event (t := 56) (p := 11) (v := ?vo_w22) (w1 := (((((w20.setCell ⟨gb314, 0, none⟩ (.int .i64 ((rd_T56 l2 x29_2).f0))).setCell ⟨gb314, 1, none⟩ (.int .i64 ((rd_T56 l2 x29_2).f1))).setCell ⟨gb314, 2, none⟩ (.string ((rd_T56 l2 x29_2).f2))).setCell ⟨gb314, 3, none⟩ (.string ((rd_T56 l2 x29_2).f3))).setCell ⟨gb314, 4, none⟩ (.int .i64 ((rd_T56 l2 x29_2).f4)))) ?hg ?ho ?hn ?hr ?_; (case ho => rfl); (case hg => rfl); (case hn => rfl); (case hr => first | (go_simp; done) | (go_simp; rfl) | (have hq0_ := (blk_cell BK314.out 0).trans (show _ = some _ from rfl); have hf0_ := blk_frozen BK314.out 0; have hq1_ := (blk_cell BK314.out 1).trans (show _ = some _ from rfl); have hf1_ := blk_frozen BK314.out 1; have hq2_ := (blk_cell BK314.out 2).trans (show _ = some _ from rfl); have hf2_ := blk_frozen BK314.out 2; have hq3_ := (blk_cell BK314.out 3).trans (show _ = some _ from rfl); have hf3_ := blk_frozen BK314.out 3; have hq4_ := (blk_cell BK314.out 4).trans (show _ = some _ from rfl); have hf4_ := blk_frozen BK314.out 4; first | (go_simp; done) | (go_simp; rfl))); intro w22 hw; replace HO_8 : Aside0 (Kd.R k59 59 w22 w.heap.size (fun _ => True) u8 x8_2) := ⟨(by rw [hw]; exact (by (with_reducible repeat (first | apply Kd.R_alloc | apply Kd.R_drewN | apply Kd.R_drew)); exact Kd.R_mono (Kd.R_far (p := ⟨gb314, 4, none⟩) (Kd.R_far (p := ⟨gb314, 3, none⟩) (Kd.R_far (p := ⟨gb314, 2, none⟩) (Kd.R_far (p := ⟨gb314, 1, none⟩) (Kd.R_far (p := ⟨gb314, 0, none⟩) (Kd.R_types HO_8.out BK314.out (by decide)) (fun _ hk => hk.2) (.int .i64 ((rd_T56 l2 x29_2).f0))) (fun _ hk => hk.2) (.int .i64 ((rd_T56 l2 x29_2).f1))) (fun _ hk => hk.2) (.string ((rd_T56 l2 x29_2).f2))) (fun _ hk => hk.2) (.string ((rd_T56 l2 x29_2).f3))) (fun _ hk => hk.2) (.int .i64 ((rd_T56 l2 x29_2).f4))) (fun _ hk => trivial)))⟩; replace BK314 : Aside0 (w22.heap[gb314]? = some (.cells #[.int .i64 ((rd_T56 l2 x29_2).f0), .int .i64 ((rd_T56 l2 x29_2).f1), .string ((rd_T56 l2 x29_2).f2), .string ((rd_T56 l2 x29_2).f3), .int .i64 ((rd_T56 l2 x29_2).f4)] 56 (0, 0))) := ⟨(by rw [hw]; exact (by refine bU ?_; refine blk_put (cs := #[.int .i64 ((rd_T56 l2 x29_2).f0), .int .i64 ((rd_T56 l2 x29_2).f1), .string ((rd_T56 l2 x29_2).f2), .string ((rd_T56 l2 x29_2).f3), .int .i64 0]) ?_ 4 _ rfl; refine bU ?_; refine blk_put (cs := #[.int .i64 ((rd_T56 l2 x29_2).f0), .int .i64 ((rd_T56 l2 x29_2).f1), .string ((rd_T56 l2 x29_2).f2), .string (⟨#[]⟩ : ByteArray), .int .i64 0]) ?_ 3 _ rfl; refine bU ?_; refine blk_put (cs := #[.int .i64 ((rd_T56 l2 x29_2).f0), .int .i64 ((rd_T56 l2 x29_2).f1), .string (⟨#[]⟩ : ByteArray), .string (⟨#[]⟩ : ByteArray), .int .i64 0]) ?_ 2 _ rfl; refine bU ?_; refine blk_put (cs := #[.int .i64 ((rd_T56 l2 x29_2).f0), .int .i64 0, .string (⟨#[]⟩ : ByteArray), .string (⟨#[]⟩ : ByteArray), .int .i64 0]) ?_ 1 _ rfl; refine bU ?_; refine blk_put (cs := #[.int .i64 0, .int .i64 0, .string (⟨#[]⟩ : ByteArray), .string (⟨#[]⟩ : ByteArray), .int .i64 0]) ?_ 0 _ rfl; refine bU ?_; exact BK314.out))⟩; replace HB : Aside0 (Below w.heap.size w w22) := ⟨(by rw [hw]; exact (lV1 GE314))⟩; clear hw; have hcz23_0 := cz BK314 0 (.int .i64 ((rd_T56 l2 x29_2).f0)); have hcz23_1 := cz BK314 1 (.int .i64 ((rd_T56 l2 x29_2).f1)); have hcz23_2 := cz BK314 2 (.string ((rd_T56 l2 x29_2).f2)); have hcz23_3 := cz BK314 3 (.string ((rd_T56 l2 x29_2).f3)); have hcz23_4 := cz BK314 4 (.int .i64 ((rd_T56 l2 x29_2).f4)); have hfz23_0 := fz BK314 0; have hfz23_1 := fz BK314 1; have hfz23_2 := fz BK314 2; have hfz23_3 := fz BK314 3; have hfz23_4 := fz BK314 4))
          go_roundg k2
          case measure => have := HJ3.out; have := HK2.out; omega
          case rel => exact ⟨(x8_2), (wrap64 (x29_2 + 1)), tE, H', ⟨by have := HJ3.out; have := HK2.out; omega⟩, ⟨by (with_reducible repeat (first | apply Kd.R_alloc | apply Kd.R_drewN | apply Kd.R_drew)); exact HO_8.out⟩, ⟨by repeat (first | (with_reducible first | exact HB.out | apply below_alloc | apply pw_below_drewN | apply below_drew1 | refine below_set ?_ GE314.out) | exact HB.out)⟩⟩
         ·rw [if_neg c19] at H
          have c19b0 : decide (((rd_T56 l2 x29_2).f0) < a0) = false := decide_eq_false c19
          clear c19
          replace H := Option.bind_eq_some_iff.mp H
          obtain ⟨⟨t315, t318⟩, A240, H⟩ := H
          replace H : (if t318 = true then (impl_MigrateSave.l0 k2 a0 t315 l2 (l2.length : Int) (wrap64 (x29_2 + 1))) else (some (([] : List (S59)), false))) = some (r1, r2) := H
          have A24 := Aside0.mk A240
          clear A240
          by_cases c25 : t318 = true
          ·subst c25
           have H1 : (impl_MigrateSave.l0 k2 a0 t315 l2 (l2.length : Int) (wrap64 (x29_2 + 1))) = some (r1, r2) := by rw [if_pos rfl] at H; exact H
           clear H
           have H := H1
           clear H1
           have H' := Aside0.mk H
           clear H
           have p313 : 0 ≤ (x29_2 : Int) := of_decide_eq_true hE
           have q313 : x29_2 < (l2.length : Int) := of_decide_eq_true hE
           obtain ⟨ad313, e313, hx313_0, hx313_1, hx313_2, hx313_3, hx313_4⟩ := at_T56 HR2.out x29_2 p313 q313
           cases e313
           replace hx313_0 := (HB.out.cell (World.block_lt_of_cell? w _ hx313_0)).trans hx313_0
           replace hx313_1 := (HB.out.cell (World.block_lt_of_cell? w _ hx313_1)).trans hx313_1
           replace hx313_2 := (HB.out.cell (World.block_lt_of_cell? w _ hx313_2)).trans hx313_2
           replace hx313_3 := (HB.out.cell (World.block_lt_of_cell? w _ hx313_3)).trans hx313_3
           replace hx313_4 := (HB.out.cell (World.block_lt_of_cell? w _ hx313_4)).trans hx313_4
           replace p313 := eq_true p313
           replace q313 := eq_true q313
           go_wp2_with (first | ((with_reducible refine gate_dst (N := 11) rfl ?_); refine box_event rfl (N := 11) rfl (cs := #[.int .i64 0, .int .i64 0, .string (⟨#[]⟩ : ByteArray), .string (⟨#[]⟩ : ByteArray), .int .i64 0]) (t := 56) sE ?_; intro gb314 hg w26 hbox hb; replace HO_8 := Aside0.mk (Kd.R_below (rU HO_8.out) hb); have BK314 := Aside0.mk hbox; have GW314 := gS w hg (lU); have GE314 := gS w hg (lU); replace HB := bH (lU) hb; clear hb hbox hg; have hcz27_0 := cz BK314 0 (.int .i64 0); have hcz27_1 := cz BK314 1 (.int .i64 0); have hcz27_2 := cz BK314 2 (.string (⟨#[]⟩ : ByteArray)); have hcz27_3 := cz BK314 3 (.string (⟨#[]⟩ : ByteArray)); have hcz27_4 := cz BK314 4 (.int .i64 0); have hfz27_0 := fz BK314 0; have hfz27_1 := fz BK314 1; have hfz27_2 := fz BK314 2; have hfz27_3 := fz BK314 3; have hfz27_4 := fz BK314 4) | ((with_reducible refine gate_store (t := 56) (p := 11) rfl ?_); refine store_event (t := 56) (p := 11) (v := ?vo_w28) (w1 := (((((w26.setCell ⟨gb314, 0, none⟩ (.int .i64 ((rd_T56 l2 x29_2).f0))).setCell ⟨gb314, 1, none⟩ (.int .i64 ((rd_T56 l2 x29_2).f1))).setCell ⟨gb314, 2, none⟩ (.string ((rd_T56 l2 x29_2).f2))).setCell ⟨gb314, 3, none⟩ (.string ((rd_T56 l2 x29_2).f3))).setCell ⟨gb314, 4, none⟩ (.int .i64 ((rd_T56 l2 x29_2).f4)))) ?hg ?ho ?hn ?hr ?_; (case ho => rfl); (case hg => rfl); (case hn => rfl); (case hr => first | (go_simp; done) | (go_simp; rfl) | (have hq0_ := (blk_cell BK314.out 0).trans (show _ = some _ from rfl); have hf0_ := blk_frozen BK314.out 0; have hq1_ := (blk_cell BK314.out 1).trans (show _ = some _ from rfl); have hf1_ := blk_frozen BK314.out 1; have hq2_ := (blk_cell BK314.out 2).trans (show _ = some _ from rfl); have hf2_ := blk_frozen BK314.out 2; have hq3_ := (blk_cell BK314.out 3).trans (show _ = some _ from rfl); have hf3_ := blk_frozen BK314.out 3; have hq4_ := (blk_cell BK314.out 4).trans (show _ = some _ from rfl); have hf4_ := blk_frozen BK314.out 4; first | (go_simp; done) | (go_simp; rfl))); intro w28 hw; replace HO_8 : Aside0 (Kd.R k59 59 w28 w.heap.size (fun _ => True) u8 x8_2) := ⟨(by rw [hw]; exact (by (with_reducible repeat (first | apply Kd.R_alloc | apply Kd.R_drewN | apply Kd.R_drew)); exact Kd.R_mono (Kd.R_far (p := ⟨gb314, 4, none⟩) (Kd.R_far (p := ⟨gb314, 3, none⟩) (Kd.R_far (p := ⟨gb314, 2, none⟩) (Kd.R_far (p := ⟨gb314, 1, none⟩) (Kd.R_far (p := ⟨gb314, 0, none⟩) (Kd.R_types HO_8.out BK314.out (by decide)) (fun _ hk => hk.2) (.int .i64 ((rd_T56 l2 x29_2).f0))) (fun _ hk => hk.2) (.int .i64 ((rd_T56 l2 x29_2).f1))) (fun _ hk => hk.2) (.string ((rd_T56 l2 x29_2).f2))) (fun _ hk => hk.2) (.string ((rd_T56 l2 x29_2).f3))) (fun _ hk => hk.2) (.int .i64 ((rd_T56 l2 x29_2).f4))) (fun _ hk => trivial)))⟩; replace BK314 : Aside0 (w28.heap[gb314]? = some (.cells #[.int .i64 ((rd_T56 l2 x29_2).f0), .int .i64 ((rd_T56 l2 x29_2).f1), .string ((rd_T56 l2 x29_2).f2), .string ((rd_T56 l2 x29_2).f3), .int .i64 ((rd_T56 l2 x29_2).f4)] 56 (0, 0))) := ⟨(by rw [hw]; exact (by refine bU ?_; refine blk_put (cs := #[.int .i64 ((rd_T56 l2 x29_2).f0), .int .i64 ((rd_T56 l2 x29_2).f1), .string ((rd_T56 l2 x29_2).f2), .string ((rd_T56 l2 x29_2).f3), .int .i64 0]) ?_ 4 _ rfl; refine bU ?_; refine blk_put (cs := #[.int .i64 ((rd_T56 l2 x29_2).f0), .int .i64 ((rd_T56 l2 x29_2).f1), .string ((rd_T56 l2 x29_2).f2), .string (⟨#[]⟩ : ByteArray), .int .i64 0]) ?_ 3 _ rfl; refine bU ?_; refine blk_put (cs := #[.int .i64 ((rd_T56 l2 x29_2).f0), .int .i64 ((rd_T56 l2 x29_2).f1), .string (⟨#[]⟩ : ByteArray), .string (⟨#[]⟩ : ByteArray), .int .i64 0]) ?_ 2 _ rfl; refine bU ?_; refine blk_put (cs := #[.int .i64 ((rd_T56 l2 x29_2).f0), .int .i64 0, .string (⟨#[]⟩ : ByteArray), .string (⟨#[]⟩ : ByteArray), .int .i64 0]) ?_ 1 _ rfl; refine bU ?_; refine blk_put (cs := #[.int .i64 0, .int .i64 0, .string (⟨#[]⟩ : ByteArray), .string (⟨#[]⟩ : ByteArray), .int .i64 0]) ?_ 0 _ rfl; refine bU ?_; exact BK314.out))⟩; replace HB : Aside0 (Below w.heap.size w w28) := ⟨(by rw [hw]; exact (lV1 GE314))⟩; clear hw; have hcz29_0 := cz BK314 0 (.int .i64 ((rd_T56 l2 x29_2).f0)); have hcz29_1 := cz BK314 1 (.int .i64 ((rd_T56 l2 x29_2).f1)); have hcz29_2 := cz BK314 2 (.string ((rd_T56 l2 x29_2).f2)); have hcz29_3 := cz BK314 3 (.string ((rd_T56 l2 x29_2).f3)); have hcz29_4 := cz BK314 4 (.int .i64 ((rd_T56 l2 x29_2).f4)); have hfz29_0 := fz BK314 0; have hfz29_1 := fz BK314 1; have hfz29_2 := fz BK314 2; have hfz29_3 := fz BK314 3; have hfz29_4 := fz BK314 4; obtain ⟨Ao30, co30, eo30⟩ := Kd.R_slice HO_8.out; subst eo30) | ((with_reducible refine gate_callee (f := 39) rfl ?_); refine goesL_ (some 40) rfl rfl Try.func39 (by kernel_rfl) rfl #[.slice Ao30 x8_2.length co30, .agg #[.int .i64 ((rd_T56 l2 x29_2).f0), .int .i64 ((rd_T56 l2 x29_2).f1), .string ((rd_T56 l2 x29_2).f2), .string ((rd_T56 l2 x29_2).f3), .int .i64 ((rd_T56 l2 x29_2).f4)]] rfl aE ?_; (with_reducible refine (impl_change.calls k2 (fun k_ => some k_ = (.slice Ao30 x8_2.length co30 : Value).ownBlock) (.slice Ao30 x8_2.length co30) x8_2 ((rd_T56 l2 x29_2).f0) ((rd_T56 l2 x29_2).f1) ((rd_T56 l2 x29_2).f2) ((rd_T56 l2 x29_2).f3) ((rd_T56 l2 x29_2).f4) t315 true w _ ?side1 ?side2 A24.out).mono ?_); (case side1 => repeat (first | (with_reducible first | exact HB.out | apply below_alloc | apply pw_below_drewN | apply below_drew1 | refine below_set ?_ GE314.out) | exact HB.out)); (case side2 => exact Kd.R_tight rfl HO_8.out); rintro e w31 ⟨v316, rfl, ho0, hb, hkp⟩; refine ⟨_, rfl, ?_⟩; replace BK314 := Aside0.mk (blk_kept (bV BK314) hkp (fun hs_ => (fun e_ => (Kd.R_ne HO_8.out BK314.out (by decide)) e_) hs_)); have HO317 := Aside0.mk (Kd.R_mono (ok' := fun k_ => True) ho0 (fun k_ hk_ => trivial)); replace HB := Aside0.mk hb; clear HO_8; (try clear hb); (try clear hkp); (try clear hg_); (try clear hp_); (try clear ho0)))
           go_roundg k2
           case measure => have := HJ3.out; have := HK2.out; omega
           case rel => exact ⟨(t315), (wrap64 (x29_2 + 1)), tE, H', ⟨by have := HJ3.out; have := HK2.out; omega⟩, ⟨by (with_reducible repeat (first | apply Kd.R_alloc | apply Kd.R_drewN | apply Kd.R_drew)); exact HO317.out⟩, ⟨by repeat (first | (with_reducible first | exact HB.out | apply below_alloc | apply pw_below_drewN | apply below_drew1 | refine below_set ?_ GE314.out) | exact HB.out)⟩⟩
          ·replace c25 := Bool.eq_false_iff.mpr c25
           subst c25
           have H1 : (some (([] : List (S59)), false)) = some (r1, r2) := by rw [if_neg (show ¬ (false = true) by decide)] at H; exact H
           clear H
           have H := H1
           clear H1
           simp only [Option.some.injEq, Prod.mk.injEq] at H
           obtain ⟨rfl, rfl⟩ := H
           have p313 : 0 ≤ (x29_2 : Int) := of_decide_eq_true hE
           have q313 : x29_2 < (l2.length : Int) := of_decide_eq_true hE
           obtain ⟨ad313, e313, hx313_0, hx313_1, hx313_2, hx313_3, hx313_4⟩ := at_T56 HR2.out x29_2 p313 q313
           cases e313
           replace hx313_0 := (HB.out.cell (World.block_lt_of_cell? w _ hx313_0)).trans hx313_0
           replace hx313_1 := (HB.out.cell (World.block_lt_of_cell? w _ hx313_1)).trans hx313_1
           replace hx313_2 := (HB.out.cell (World.block_lt_of_cell? w _ hx313_2)).trans hx313_2
           replace hx313_3 := (HB.out.cell (World.block_lt_of_cell? w _ hx313_3)).trans hx313_3
           replace hx313_4 := (HB.out.cell (World.block_lt_of_cell? w _ hx313_4)).trans hx313_4
           replace p313 := eq_true p313
           replace q313 := eq_true q313
           go_wp2_with (first | ((with_reducible refine gate_dst (N := 11) rfl ?_); refine box_event rfl (N := 11) rfl (cs := #[.int .i64 0, .int .i64 0, .string (⟨#[]⟩ : ByteArray), .string (⟨#[]⟩ : ByteArray), .int .i64 0]) (t := 56) sE ?_; intro gb314 hg w32 hbox hb; replace HO_8 := Aside0.mk (Kd.R_below (rU HO_8.out) hb); have BK314 := Aside0.mk hbox; have GW314 := gS w hg (lU); have GE314 := gS w hg (lU); replace HB := bH (lU) hb; clear hb hbox hg; have hcz33_0 := cz BK314 0 (.int .i64 0); have hcz33_1 := cz BK314 1 (.int .i64 0); have hcz33_2 := cz BK314 2 (.string (⟨#[]⟩ : ByteArray)); have hcz33_3 := cz BK314 3 (.string (⟨#[]⟩ : ByteArray)); have hcz33_4 := cz BK314 4 (.int .i64 0); have hfz33_0 := fz BK314 0; have hfz33_1 := fz BK314 1; have hfz33_2 := fz BK314 2; have hfz33_3 := fz BK314 3; have hfz33_4 := fz BK314 4) | ((with_reducible refine gate_store (t := 56) (p := 11) rfl ?_); refine store_event (t := 56) (p := 11) (v := ?vo_w34) (w1 := (((((w32.setCell ⟨gb314, 0, none⟩ (.int .i64 ((rd_T56 l2 x29_2).f0))).setCell ⟨gb314, 1, none⟩ (.int .i64 ((rd_T56 l2 x29_2).f1))).setCell ⟨gb314, 2, none⟩ (.string ((rd_T56 l2 x29_2).f2))).setCell ⟨gb314, 3, none⟩ (.string ((rd_T56 l2 x29_2).f3))).setCell ⟨gb314, 4, none⟩ (.int .i64 ((rd_T56 l2 x29_2).f4)))) ?hg ?ho ?hn ?hr ?_; (case ho => rfl); (case hg => rfl); (case hn => rfl); (case hr => first | (go_simp; done) | (go_simp; rfl) | (have hq0_ := (blk_cell BK314.out 0).trans (show _ = some _ from rfl); have hf0_ := blk_frozen BK314.out 0; have hq1_ := (blk_cell BK314.out 1).trans (show _ = some _ from rfl); have hf1_ := blk_frozen BK314.out 1; have hq2_ := (blk_cell BK314.out 2).trans (show _ = some _ from rfl); have hf2_ := blk_frozen BK314.out 2; have hq3_ := (blk_cell BK314.out 3).trans (show _ = some _ from rfl); have hf3_ := blk_frozen BK314.out 3; have hq4_ := (blk_cell BK314.out 4).trans (show _ = some _ from rfl); have hf4_ := blk_frozen BK314.out 4; first | (go_simp; done) | (go_simp; rfl))); intro w34 hw; replace HO_8 : Aside0 (Kd.R k59 59 w34 w.heap.size (fun _ => True) u8 x8_2) := ⟨(by rw [hw]; exact (by (with_reducible repeat (first | apply Kd.R_alloc | apply Kd.R_drewN | apply Kd.R_drew)); exact Kd.R_mono (Kd.R_far (p := ⟨gb314, 4, none⟩) (Kd.R_far (p := ⟨gb314, 3, none⟩) (Kd.R_far (p := ⟨gb314, 2, none⟩) (Kd.R_far (p := ⟨gb314, 1, none⟩) (Kd.R_far (p := ⟨gb314, 0, none⟩) (Kd.R_types HO_8.out BK314.out (by decide)) (fun _ hk => hk.2) (.int .i64 ((rd_T56 l2 x29_2).f0))) (fun _ hk => hk.2) (.int .i64 ((rd_T56 l2 x29_2).f1))) (fun _ hk => hk.2) (.string ((rd_T56 l2 x29_2).f2))) (fun _ hk => hk.2) (.string ((rd_T56 l2 x29_2).f3))) (fun _ hk => hk.2) (.int .i64 ((rd_T56 l2 x29_2).f4))) (fun _ hk => trivial)))⟩; replace BK314 : Aside0 (w34.heap[gb314]? = some (.cells #[.int .i64 ((rd_T56 l2 x29_2).f0), .int .i64 ((rd_T56 l2 x29_2).f1), .string ((rd_T56 l2 x29_2).f2), .string ((rd_T56 l2 x29_2).f3), .int .i64 ((rd_T56 l2 x29_2).f4)] 56 (0, 0))) := ⟨(by rw [hw]; exact (by refine bU ?_; refine blk_put (cs := #[.int .i64 ((rd_T56 l2 x29_2).f0), .int .i64 ((rd_T56 l2 x29_2).f1), .string ((rd_T56 l2 x29_2).f2), .string ((rd_T56 l2 x29_2).f3), .int .i64 0]) ?_ 4 _ rfl; refine bU ?_; refine blk_put (cs := #[.int .i64 ((rd_T56 l2 x29_2).f0), .int .i64 ((rd_T56 l2 x29_2).f1), .string ((rd_T56 l2 x29_2).f2), .string (⟨#[]⟩ : ByteArray), .int .i64 0]) ?_ 3 _ rfl; refine bU ?_; refine blk_put (cs := #[.int .i64 ((rd_T56 l2 x29_2).f0), .int .i64 ((rd_T56 l2 x29_2).f1), .string (⟨#[]⟩ : ByteArray), .string (⟨#[]⟩ : ByteArray), .int .i64 0]) ?_ 2 _ rfl; refine bU ?_; refine blk_put (cs := #[.int .i64 ((rd_T56 l2 x29_2).f0), .int .i64 0, .string (⟨#[]⟩ : ByteArray), .string (⟨#[]⟩ : ByteArray), .int .i64 0]) ?_ 1 _ rfl; refine bU ?_; refine blk_put (cs := #[.int .i64 0, .int .i64 0, .string (⟨#[]⟩ : ByteArray), .string (⟨#[]⟩ : ByteArray), .int .i64 0]) ?_ 0 _ rfl; refine bU ?_; exact BK314.out))⟩; replace HB : Aside0 (Below w.heap.size w w34) := ⟨(by rw [hw]; exact (lV1 GE314))⟩; clear hw; have hcz35_0 := cz BK314 0 (.int .i64 ((rd_T56 l2 x29_2).f0)); have hcz35_1 := cz BK314 1 (.int .i64 ((rd_T56 l2 x29_2).f1)); have hcz35_2 := cz BK314 2 (.string ((rd_T56 l2 x29_2).f2)); have hcz35_3 := cz BK314 3 (.string ((rd_T56 l2 x29_2).f3)); have hcz35_4 := cz BK314 4 (.int .i64 ((rd_T56 l2 x29_2).f4)); have hfz35_0 := fz BK314 0; have hfz35_1 := fz BK314 1; have hfz35_2 := fz BK314 2; have hfz35_3 := fz BK314 3; have hfz35_4 := fz BK314 4; obtain ⟨Ao36, co36, eo36⟩ := Kd.R_slice HO_8.out; subst eo36) | ((with_reducible refine gate_callee (f := 39) rfl ?_); refine goesL_ (some 40) rfl rfl Try.func39 (by kernel_rfl) rfl #[.slice Ao36 x8_2.length co36, .agg #[.int .i64 ((rd_T56 l2 x29_2).f0), .int .i64 ((rd_T56 l2 x29_2).f1), .string ((rd_T56 l2 x29_2).f2), .string ((rd_T56 l2 x29_2).f3), .int .i64 ((rd_T56 l2 x29_2).f4)]] rfl aE ?_; (with_reducible refine (impl_change.calls k2 (fun k_ => some k_ = (.slice Ao36 x8_2.length co36 : Value).ownBlock) (.slice Ao36 x8_2.length co36) x8_2 ((rd_T56 l2 x29_2).f0) ((rd_T56 l2 x29_2).f1) ((rd_T56 l2 x29_2).f2) ((rd_T56 l2 x29_2).f3) ((rd_T56 l2 x29_2).f4) t315 false w _ ?side1 ?side2 A24.out).mono ?_); (case side1 => repeat (first | (with_reducible first | exact HB.out | apply below_alloc | apply pw_below_drewN | apply below_drew1 | refine below_set ?_ GE314.out) | exact HB.out)); (case side2 => exact Kd.R_tight rfl HO_8.out); rintro e w37 ⟨v316, rfl, ho0, hb, hkp⟩; refine ⟨_, rfl, ?_⟩; replace BK314 := Aside0.mk (blk_kept (bV BK314) hkp (fun hs_ => (fun e_ => (Kd.R_ne HO_8.out BK314.out (by decide)) e_) hs_)); have HO317 := Aside0.mk (Kd.R_mono (ok' := fun k_ => True) ho0 (fun k_ hk_ => trivial)); replace HB := Aside0.mk hb; clear HO_8; (try clear hb); (try clear hkp); (try clear hg_); (try clear hp_); (try clear ho0)))
           go_ret2
           exact ⟨_, eE, by first | exact Kd.R_nil _ _ _ _ _ | exact Kd.N_nil _ _ _ _ _ | exact Kd.V_nil _ _ _ _ _ | exact Kd.Q_nil _ _ _ _ _ | exact Kd.S_nil _ _ _ _ _, lV1 GE314⟩
        ·rw [if_neg c18] at H
         exact absurd H (by simp)
       ·rw [if_neg c17] at H
        exact absurd H (by simp)
      ·rw [if_neg c16] at H
       have c16b0 : decide (x29_2 < (l2.length : Int)) = false := decide_eq_false c16
       clear c16
       simp only [Option.some.injEq, Prod.mk.injEq] at H
       obtain ⟨rfl, rfl⟩ := H
       go_wp2
       go_ret2
       exact ⟨_, eE, by (with_reducible repeat (first | apply Kd.R_alloc | apply Kd.R_drewN | apply Kd.R_drew)); exact HO_8.out, lU⟩
def laws_eqValue.f (a0_0 : ByteArray) (a0_1 : Int) (a0_2 : ByteArray) (a1_0 : ByteArray) (a1_1 : Int) (a1_2 : ByteArray) : Option (Bool) := if a0_0.toList = a1_0.toList then (if a0_1 = a1_1 then (if a0_2.toList = a1_2.toList then (some true) else (some false)) else (some false)) else (some false)
set_option maxHeartbeats 8000000 in
set_option maxRecDepth 100000 in
theorem laws_eqValue.calls (a0_0 : ByteArray) (a0_1 : Int) (a0_2 : ByteArray) (a1_0 : ByteArray) (a1_1 : Int) (a1_2 : ByteArray) (r : Bool) (w : World) (h : laws_eqValue.f a0_0 a0_1 a0_2 a1_0 a1_1 a1_2 = some r) :
  Calls Try.prog 40 #[.agg #[.string a0_0, .int .i64 a0_1, .string a0_2], .agg #[.string a1_0, .int .i64 a1_1, .string a1_2]] w fun e w' => e = .returned (.bool r) ∧ Below w.heap.size w w' := by
 have hu59 := Try.underlying59
 have HB := Aside0.mk (Below.refl w.heap.size w)
 have H : (if a0_0.toList = a1_0.toList then (if a0_1 = a1_1 then (if a0_2.toList = a1_2.toList then (some true) else (some false)) else (some false)) else (some false)) = some r := h
 clear h
 by_cases c3 : a0_0.toList = a1_0.toList
 ·rw [if_pos c3] at H
  have c3b0 : (a0_0.toList == a1_0.toList) = true := beq_iff_eq.mpr c3
  have c3b1 : (a0_0.toList != a1_0.toList) = false := bne_eq_false_iff_eq.mpr c3
  clear c3
  by_cases c4 : a0_1 = a1_1
  ·rw [if_pos c4] at H
   have c4b0 : (a0_1 == a1_1) = true := beq_iff_eq.mpr c4
   have c4b1 : (a0_1 != a1_1) = false := bne_eq_false_iff_eq.mpr c4
   clear c4
   by_cases c5 : a0_2.toList = a1_2.toList
   ·rw [if_pos c5] at H
    have c5b0 : (a0_2.toList == a1_2.toList) = true := beq_iff_eq.mpr c5
    have c5b1 : (a0_2.toList != a1_2.toList) = false := bne_eq_false_iff_eq.mpr c5
    clear c5
    obtain rfl := Option.some.inj H
    go_enter Try.func40, Try.ntmps40
    go_wp2_with (first | ((with_reducible refine gate_dst (N := 2) rfl ?_); refine box_event rfl (N := 2) rfl (cs := #[.string a0_0, .int .i64 a0_1, .string a0_2]) (t := 59) sE ?_; intro gb319 hg w6 hbox hb; have BK319 := Aside0.mk hbox; have GW319 := gS w hg (lU); have GE319 := gS w hg (lU); replace HB := bH (lU) hb; clear hb hbox hg) | ((with_reducible refine gate_dst (N := 3) rfl ?_); refine box_event rfl (N := 3) rfl (cs := #[.string a1_0, .int .i64 a1_1, .string a1_2]) (t := 59) sE ?_; intro gb320 hg w7 hbox hb; have BK320 := Aside0.mk hbox; have GW320 := gS w hg (lV1 GE319); have GE320 := gS w hg (lV1 GE319); replace HB := bH (lV1 GE319) hb; have NB319_320 := nL hg (bV BK319); have NB320_319 := nG hg (bV BK319); replace BK319 := bB (bV BK319) hb; clear hb hbox hg; have hnb8 := NB319_320.out; have hnc8 := NB320_319.out; have hcz9_0 := cz BK319 0 (.string a0_0); have hcz9_1 := cz BK319 1 (.int .i64 a0_1); have hcz9_2 := cz BK319 2 (.string a0_2); have hfz9_0 := fz BK319 0; have hfz9_1 := fz BK319 1; have hfz9_2 := fz BK319 2; have hcz10_0 := cz BK320 0 (.string a1_0); have hcz10_1 := cz BK320 1 (.int .i64 a1_1); have hcz10_2 := cz BK320 2 (.string a1_2); have hfz10_0 := fz BK320 0; have hfz10_1 := fz BK320 1; have hfz10_2 := fz BK320 2))
    go_ret
    exact ⟨eE, lV2 GE319 GE320⟩
   ·rw [if_neg c5] at H
    have c5b0 : (a0_2.toList == a1_2.toList) = false := beq_eq_false_iff_ne.mpr c5
    have c5b1 : (a0_2.toList != a1_2.toList) = true := bne_iff_ne.mpr c5
    obtain rfl := Option.some.inj H
    go_enter Try.func40, Try.ntmps40
    go_wp2_with (first | ((with_reducible refine gate_dst (N := 2) rfl ?_); refine box_event rfl (N := 2) rfl (cs := #[.string a0_0, .int .i64 a0_1, .string a0_2]) (t := 59) sE ?_; intro gb319 hg w11 hbox hb; have BK319 := Aside0.mk hbox; have GW319 := gS w hg (lU); have GE319 := gS w hg (lU); replace HB := bH (lU) hb; clear hb hbox hg) | ((with_reducible refine gate_dst (N := 3) rfl ?_); refine box_event rfl (N := 3) rfl (cs := #[.string a1_0, .int .i64 a1_1, .string a1_2]) (t := 59) sE ?_; intro gb320 hg w12 hbox hb; have BK320 := Aside0.mk hbox; have GW320 := gS w hg (lV1 GE319); have GE320 := gS w hg (lV1 GE319); replace HB := bH (lV1 GE319) hb; have NB319_320 := nL hg (bV BK319); have NB320_319 := nG hg (bV BK319); replace BK319 := bB (bV BK319) hb; clear hb hbox hg; have hnb13 := NB319_320.out; have hnc13 := NB320_319.out; have hcz14_0 := cz BK319 0 (.string a0_0); have hcz14_1 := cz BK319 1 (.int .i64 a0_1); have hcz14_2 := cz BK319 2 (.string a0_2); have hfz14_0 := fz BK319 0; have hfz14_1 := fz BK319 1; have hfz14_2 := fz BK319 2; have hcz15_0 := cz BK320 0 (.string a1_0); have hcz15_1 := cz BK320 1 (.int .i64 a1_1); have hcz15_2 := cz BK320 2 (.string a1_2); have hfz15_0 := fz BK320 0; have hfz15_1 := fz BK320 1; have hfz15_2 := fz BK320 2))
    go_ret
    exact ⟨eE, lV2 GE319 GE320⟩
  ·rw [if_neg c4] at H
   have c4b0 : (a0_1 == a1_1) = false := beq_eq_false_iff_ne.mpr c4
   have c4b1 : (a0_1 != a1_1) = true := bne_iff_ne.mpr c4
   obtain rfl := Option.some.inj H
   go_enter Try.func40, Try.ntmps40
   go_wp2_with (first | ((with_reducible refine gate_dst (N := 2) rfl ?_); refine box_event rfl (N := 2) rfl (cs := #[.string a0_0, .int .i64 a0_1, .string a0_2]) (t := 59) sE ?_; intro gb319 hg w16 hbox hb; have BK319 := Aside0.mk hbox; have GW319 := gS w hg (lU); have GE319 := gS w hg (lU); replace HB := bH (lU) hb; clear hb hbox hg) | ((with_reducible refine gate_dst (N := 3) rfl ?_); refine box_event rfl (N := 3) rfl (cs := #[.string a1_0, .int .i64 a1_1, .string a1_2]) (t := 59) sE ?_; intro gb320 hg w17 hbox hb; have BK320 := Aside0.mk hbox; have GW320 := gS w hg (lV1 GE319); have GE320 := gS w hg (lV1 GE319); replace HB := bH (lV1 GE319) hb; have NB319_320 := nL hg (bV BK319); have NB320_319 := nG hg (bV BK319); replace BK319 := bB (bV BK319) hb; clear hb hbox hg; have hnb18 := NB319_320.out; have hnc18 := NB320_319.out; have hcz19_0 := cz BK319 0 (.string a0_0); have hcz19_1 := cz BK319 1 (.int .i64 a0_1); have hcz19_2 := cz BK319 2 (.string a0_2); have hfz19_0 := fz BK319 0; have hfz19_1 := fz BK319 1; have hfz19_2 := fz BK319 2; have hcz20_0 := cz BK320 0 (.string a1_0); have hcz20_1 := cz BK320 1 (.int .i64 a1_1); have hcz20_2 := cz BK320 2 (.string a1_2); have hfz20_0 := fz BK320 0; have hfz20_1 := fz BK320 1; have hfz20_2 := fz BK320 2))
   go_ret
   exact ⟨eE, lV2 GE319 GE320⟩
 ·rw [if_neg c3] at H
  have c3b0 : (a0_0.toList == a1_0.toList) = false := beq_eq_false_iff_ne.mpr c3
  have c3b1 : (a0_0.toList != a1_0.toList) = true := bne_iff_ne.mpr c3
  obtain rfl := Option.some.inj H
  go_enter Try.func40, Try.ntmps40
  go_wp2_with (first | ((with_reducible refine gate_dst (N := 2) rfl ?_); refine box_event rfl (N := 2) rfl (cs := #[.string a0_0, .int .i64 a0_1, .string a0_2]) (t := 59) sE ?_; intro gb319 hg w21 hbox hb; have BK319 := Aside0.mk hbox; have GW319 := gS w hg (lU); have GE319 := gS w hg (lU); replace HB := bH (lU) hb; clear hb hbox hg) | ((with_reducible refine gate_dst (N := 3) rfl ?_); refine box_event rfl (N := 3) rfl (cs := #[.string a1_0, .int .i64 a1_1, .string a1_2]) (t := 59) sE ?_; intro gb320 hg w22 hbox hb; have BK320 := Aside0.mk hbox; have GW320 := gS w hg (lV1 GE319); have GE320 := gS w hg (lV1 GE319); replace HB := bH (lV1 GE319) hb; have NB319_320 := nL hg (bV BK319); have NB320_319 := nG hg (bV BK319); replace BK319 := bB (bV BK319) hb; clear hb hbox hg; have hnb23 := NB319_320.out; have hnc23 := NB320_319.out; have hcz24_0 := cz BK319 0 (.string a0_0); have hcz24_1 := cz BK319 1 (.int .i64 a0_1); have hcz24_2 := cz BK319 2 (.string a0_2); have hfz24_0 := fz BK319 0; have hfz24_1 := fz BK319 1; have hfz24_2 := fz BK319 2; have hcz25_0 := cz BK320 0 (.string a1_0); have hcz25_1 := cz BK320 1 (.int .i64 a1_1); have hcz25_2 := cz BK320 2 (.string a1_2); have hfz25_0 := fz BK320 0; have hfz25_1 := fz BK320 1; have hfz25_2 := fz BK320 2))
  go_ret
  exact ⟨eE, lV2 GE319 GE320⟩
end Go.Proofs.Ytdgaphefgpjbfaa.PFnExactMigrateSave
namespace Go.Proofs.Ytdgaphefgpjbfaa.PFnExactMigrateSave
open Go.RowKit Go.Proofs.YtdgaphefgpjbfaaW.PrintWords Go.Proofs.YtdgaphefgpjbfaaW.PrintLast Go.Proofs.YtdgaphefgpjbfaaW.PrintMore
attribute [local go_sem] max2_int min2_int max_two min_two max_three min_three max_four min_four   -- for this text's walks alone
set_option linter.unusedVariables false
set_option linter.unusedSimpArgs false
def laws_eqValueS.l0 : Nat → List (S59) → List (S59) → Int → Option (Bool)
 | 0, _, _, _ => none
 | k + 1, x0, x1, x5 => if x5 < (x0.length : Int) then (if 0 ≤ x5 then (if x5 < (x1.length : Int) then ((laws_eqValue.f ((rd_T59 x0 x5).f0) ((rd_T59 x0 x5).f1) ((rd_T59 x0 x5).f2) ((rd_T59 x1 x5).f0) ((rd_T59 x1 x5).f1) ((rd_T59 x1 x5).f2)).bind fun t323 => (if t323 = true then (laws_eqValueS.l0 k x0 x1 (wrap64 (x5 + 1))) else (some false))) else (none)) else (none)) else (some true)
def laws_eqValueS.f (k : Nat) (l0 : List (S59)) (l1 : List (S59)) : Option (Bool) := if (l0.length : Int) = (l1.length : Int) then (laws_eqValueS.l0 k l0 l1 0) else (some false)
theorem laws_eqValueS.mono_l : ∀ k, (∀ y0 y1 y2, LeO (laws_eqValueS.l0 k y0 y1 y2) (laws_eqValueS.l0 (k + 1) y0 y1 y2))
 | 0 => fun _ _ _ r h => by simp [laws_eqValueS.l0] at h
 | k + 1 => by
  have ih0 := laws_eqValueS.mono_l k
  ·intro y0 y1 y2
   unfold laws_eqValueS.l0
   repeat' first
   | (with_reducible exact ih0 _ _ _)
   | (with_reducible first | exact LeO.refl _ | exact LeO.none _ | refine LeO.ite ?_ ?_ | refine LeO.bind ?_ (fun _ => ?_))
   | exact ih0 _ _ _ | exact LeO.none _ | refine LeO.ite ?_ ?_ | refine LeO.bind ?_ (fun _ => ?_)
theorem laws_eqValueS.mono : ∀ a0 a1 k, LeO (laws_eqValueS.f k a0 a1) (laws_eqValueS.f (k + 1) a0 a1) := by
 intro a0 a1 k
 have ih0 := laws_eqValueS.mono_l k
 unfold laws_eqValueS.f
 repeat' first
   | (with_reducible exact ih0 _ _ _)
   | (with_reducible first | exact LeO.refl _ | exact LeO.none _ | refine LeO.ite ?_ ?_ | refine LeO.bind ?_ (fun _ => ?_))
   | exact ih0 _ _ _ | exact LeO.none _ | refine LeO.ite ?_ ?_ | refine LeO.bind ?_ (fun _ => ?_)
def laws_eqValueS.T6 : Bool × List (List Nat × List Nat) := (true, [([], []), ([], []), ([0, 1], [0, 1]), ([2], [2]), ([], []), ([], []), ([4, 5], [4, 5]), ([6], [6]), ([3, 7], [3, 7]), ([8], [8])])
def laws_eqValueS.B6 : List Nat := [0, 0, 3, 7, 0, 0, 48, 112, 255, 511]
theorem laws_eqValueS.tab6 : rtab .any (opsOf Try.f12 6) = laws_eqValueS.T6 := by kernel_rfl
theorem laws_eqValueS.bits6 : waitsOk laws_eqValueS.T6.2 laws_eqValueS.B6 = true := by kernel_rfl
set_option maxHeartbeats 8000000 in
set_option maxRecDepth 100000 in
theorem laws_eqValueS.calls (k : Nat) (A0 : Option Addr) (c0 : Nat) (l0 : List (S59)) (A1 : Option Addr) (c1 : Nat) (l1 : List (S59)) (r : Bool) (w : World) (hr0 : Kd.C k59 w A0 l0.length l0) (hc0 : l0.length ≤ c0) (hr1 : Kd.C k59 w A1 l1.length l1) (hc1 : l1.length ≤ c1) (h : laws_eqValueS.f k l0 l1 = some r) :
  Calls Try.prog 12 #[.slice A0 l0.length c0, .slice A1 l1.length c1] w fun e w' => e = .returned (.bool r) ∧ Below w.heap.size w w' := by
 have hu59 := Try.underlying59
 have HR0 := Aside0.mk hr0
 have HC0 := Aside0.mk hc0
 clear hr0 hc0
 have HR1 := Aside0.mk hr1
 have HC1 := Aside0.mk hc1
 clear hr1 hc1
 have HB := Aside0.mk (Below.refl w.heap.size w)
 have H : (if (l0.length : Int) = (l1.length : Int) then (laws_eqValueS.l0 k l0 l1 0) else (some false)) = some r := h
 clear h
 by_cases c3 : (l0.length : Int) = (l1.length : Int)
 ·rw [if_pos c3] at H
  have c3b0 : ((l0.length : Int) == (l1.length : Int)) = true := beq_iff_eq.mpr c3
  have c3b1 : ((l0.length : Int) != (l1.length : Int)) = false := bne_eq_false_iff_eq.mpr c3
  have c3b2 : (l0.length == l1.length) = true := by first | simpa using c3 | (simp at c3 ⊢; omega)
  clear c3
  have H' := Aside0.mk H
  clear H
  go_enter Try.func12, Try.ntmps12
  go_wp2
  go_loopg [5] k (fun kq v5 w' => ∃ (x5_1 : Int), v5 = .int .i64 x5_1 ∧ Aside0 (laws_eqValueS.l0 kq l0 l1 x5_1 = some r) ∧ Aside0 (kq ≤ k) ∧ Aside0 (Below w.heap.size w w'))
  case atStart => exact ⟨(0), tE, H', ⟨Nat.le_refl _⟩, ⟨by repeat (first | (with_reducible first | exact HB.out | apply below_alloc | apply pw_below_drewN | apply below_drew1) | exact HB.out)⟩⟩
  case round =>
   clear H'
   try clear c1
   try clear p2
   try clear c3
   try clear c3b0
   try clear c3b1
   try clear c3b2
   obtain ⟨x5_1, rfl, HA, HK1, HB⟩ := hrel
   cases gk with
   | zero => exact absurd HA.out (by simp [laws_eqValueS.l0])
   | succ k1 =>
    have H := HA.out
    clear HA
    simp only [laws_eqValueS.l0] at H
    by_cases c4 : x5_1 < (l0.length : Int)
    ·rw [if_pos c4] at H
     have c4b0 : decide (x5_1 < (l0.length : Int)) = true := decide_eq_true c4
     clear c4
     by_cases c5 : 0 ≤ x5_1
     ·rw [if_pos c5] at H
      have c5b0 : decide (0 ≤ x5_1) = true := decide_eq_true c5
      clear c5
      by_cases c6 : x5_1 < (l1.length : Int)
      ·rw [if_pos c6] at H
       have c6b0 : decide (x5_1 < (l1.length : Int)) = true := decide_eq_true c6
       clear c6
       replace H := Option.bind_eq_some_iff.mp H
       obtain ⟨t323, A70, H⟩ := H
       replace H : (if t323 = true then (laws_eqValueS.l0 k1 l0 l1 (wrap64 (x5_1 + 1))) else (some false)) = some r := H
       have A7 := Aside0.mk A70
       clear A70
       by_cases c8 : t323 = true
       ·subst c8
        have H1 : (laws_eqValueS.l0 k1 l0 l1 (wrap64 (x5_1 + 1))) = some r := by rw [if_pos rfl] at H; exact H
        clear H
        have H := H1
        clear H1
        have H' := Aside0.mk H
        clear H
        try go_wp2
        replace HB := Aside0.mk (below_drew1 HB.out)
        have p321 : 0 ≤ (x5_1 : Int) := of_decide_eq_true hE
        have q321 : x5_1 < (l0.length : Int) := of_decide_eq_true hE
        obtain ⟨ad321, e321, hx321_0, hx321_1, hx321_2⟩ := at_T59 HR0.out x5_1 p321 q321
        have hw321_2 := hx321_2
        have hw321_1 := hx321_1
        have hw321_0 := hx321_0
        cases e321
        replace hx321_0 := (HB.out.cell (World.block_lt_of_cell? w _ hx321_0)).trans hx321_0
        replace hx321_1 := (HB.out.cell (World.block_lt_of_cell? w _ hx321_1)).trans hx321_1
        replace hx321_2 := (HB.out.cell (World.block_lt_of_cell? w _ hx321_2)).trans hx321_2
        replace p321 := eq_true p321
        replace q321 := eq_true q321
        have p322 : 0 ≤ (x5_1 : Int) := of_decide_eq_true hE
        have q322 : x5_1 < (l1.length : Int) := of_decide_eq_true hE
        obtain ⟨ad322, e322, hx322_0, hx322_1, hx322_2⟩ := at_T59 HR1.out x5_1 p322 q322
        have hw322_2 := hx322_2
        have hw322_1 := hx322_1
        have hw322_0 := hx322_0
        cases e322
        replace hx322_0 := (HB.out.cell (World.block_lt_of_cell? w _ hx322_0)).trans hx322_0
        replace hx322_1 := (HB.out.cell (World.block_lt_of_cell? w _ hx322_1)).trans hx322_1
        replace hx322_2 := (HB.out.cell (World.block_lt_of_cell? w _ hx322_2)).trans hx322_2
        replace p322 := eq_true p322
        replace q322 := eq_true q322
        refine start_ (n := 10) (S := fun w' => w'.cell? (ad321.add ((x5_1).toNat * 3)) = some (.string ((rd_T59 l0 x5_1).f0)) ∧ w'.cell? ⟨(ad321.add ((x5_1).toNat * 3)).block, (ad321.add ((x5_1).toNat * 3)).off + 1, none⟩ = some (.int .i64 ((rd_T59 l0 x5_1).f1)) ∧ w'.cell? ⟨(ad321.add ((x5_1).toNat * 3)).block, (ad321.add ((x5_1).toNat * 3)).off + 2, none⟩ = some (.string ((rd_T59 l0 x5_1).f2)) ∧ w'.cell? (ad322.add ((x5_1).toNat * 3)) = some (.string ((rd_T59 l1 x5_1).f0)) ∧ w'.cell? ⟨(ad322.add ((x5_1).toNat * 3)).block, (ad322.add ((x5_1).toNat * 3)).off + 1, none⟩ = some (.int .i64 ((rd_T59 l1 x5_1).f1)) ∧ w'.cell? ⟨(ad322.add ((x5_1).toNat * 3)).block, (ad322.add ((x5_1).toNat * 3)).off + 2, none⟩ = some (.string ((rd_T59 l1 x5_1).f2))) (ds := []) #[false, false, false, false, false, false, false, false, false, false] (by kernel_rfl) rfl rfl ⟨((HB.out.cell (World.block_lt_of_cell? w _ hw321_0)).trans hw321_0), ((HB.out.cell (World.block_lt_of_cell? w _ hw321_1)).trans hw321_1), ((HB.out.cell (World.block_lt_of_cell? w _ hw321_2)).trans hw321_2), ((HB.out.cell (World.block_lt_of_cell? w _ hw322_0)).trans hw322_0), ((HB.out.cell (World.block_lt_of_cell? w _ hw322_1)).trans hw322_1), ((HB.out.cell (World.block_lt_of_cell? w _ hw322_2)).trans hw322_2)⟩ (fun hHeld => ?_); refine with_tabW laws_eqValueS.tab6 laws_eqValueS.bits6 (fun HT_ HW_ => ?_)
        generalize wr.drew = w9 at HB hx321_0 hx321_1 hx321_2 hx322_0 hx322_1 hx322_2 hHeld ⊢
        refine pureA 0 17 (bz 10 1) rfl rfl (any_of HT_.out (by kernel_rfl)) ?_
        refine pureA 1 18 (bz 10 3) rfl rfl (any_of HT_.out (by kernel_rfl)) ?_
        refine pureA 2 19 (bz 10 7) rfl rfl (any_of HT_.out (by kernel_rfl)) ?_
        refine pureA 4 21 (bz 10 23) rfl rfl (any_of HT_.out (by kernel_rfl)) ?_
        refine pureA 5 22 (bz 10 55) rfl rfl (any_of HT_.out (by kernel_rfl)) ?_
        refine pureA 6 23 (bz 10 119) rfl rfl (any_of HT_.out (by kernel_rfl)) ?_
        refine takeA 3 20 (bz 10 127) rfl rfl (take_ofW HT_.out HW_.out (by kernel_rfl)) hHeld (by rintro w' ⟨s0, s1, s2, s3, s4, s5⟩; go_simp; with_reducible rfl) ?_
        refine takeA 7 24 (bz 10 255) rfl rfl (take_ofW HT_.out HW_.out (by kernel_rfl)) hHeld (by rintro w' ⟨s0, s1, s2, s3, s4, s5⟩; go_simp; with_reducible rfl) ?_
        refine one_ (i := 8) (N := some 25) (bz 10 511) rfl rfl (one_of HT_.out (by kernel_rfl)) (by decide) (fun K hK => ?_)
        refine goes_ Try.func40 (by kernel_rfl) rfl #[.agg #[.string ((rd_T59 l0 x5_1).f0), .int .i64 ((rd_T59 l0 x5_1).f1), .string ((rd_T59 l0 x5_1).f2)], .agg #[.string ((rd_T59 l1 x5_1).f0), .int .i64 ((rd_T59 l1 x5_1).f1), .string ((rd_T59 l1 x5_1).f2)]] (by rfl) rfl rfl aE ?_
        with_reducible refine (laws_eqValue.calls ((rd_T59 l0 x5_1).f0) ((rd_T59 l0 x5_1).f1) ((rd_T59 l0 x5_1).f2) ((rd_T59 l1 x5_1).f0) ((rd_T59 l1 x5_1).f1) ((rd_T59 l1 x5_1).f2) true _ A7.out).mono ?_
        rintro e w10 ⟨rfl, hb⟩
        refine ⟨_, rfl, ?_⟩
        replace HB := bH (lU) hb
        (try clear hb)
        (try clear hb2)
        (try clear hk)
        (try clear hi)
        refine hK.out _ _ ⟨((HB.out.cell (World.block_lt_of_cell? w _ hw321_0)).trans hw321_0), ((HB.out.cell (World.block_lt_of_cell? w _ hw321_1)).trans hw321_1), ((HB.out.cell (World.block_lt_of_cell? w _ hw321_2)).trans hw321_2), ((HB.out.cell (World.block_lt_of_cell? w _ hw322_0)).trans hw322_0), ((HB.out.cell (World.block_lt_of_cell? w _ hw322_1)).trans hw322_1), ((HB.out.cell (World.block_lt_of_cell? w _ hw322_2)).trans hw322_2)⟩ (fun hHeld => ?_)
        clear hK K
        refine norm_ (a' := ?_) ?_ ?_
        rotate_left
        ·show Act.put _ (some 25) _ = _
         simp only [Act.put, List.setIfInBounds_toArray, List.set_cons_zero, List.set_cons_succ, i64_w, i32_w]
         rfl
        refine pureA 9 26 (bz 10 1023) rfl rfl (any_of HT_.out (by kernel_rfl)) ?_
        refine done_ (done_of HT_.out (by kernel_rfl)) ?_
        try go_wp2
        go_roundg k1
        case measure => have := HK1.out; omega
        case rel => exact ⟨(wrap64 (x5_1 + 1)), tE, H', ⟨by have := HK1.out; omega⟩, ⟨by repeat (first | (with_reducible first | exact HB.out | apply below_alloc | apply pw_below_drewN | apply below_drew1) | exact HB.out)⟩⟩
       ·replace c8 := Bool.eq_false_iff.mpr c8
        subst c8
        have H1 : (some false) = some r := by rw [if_neg (show ¬ (false = true) by decide)] at H; exact H
        clear H
        have H := H1
        clear H1
        obtain rfl := Option.some.inj H
        try go_wp2
        replace HB := Aside0.mk (below_drew1 HB.out)
        have p321 : 0 ≤ (x5_1 : Int) := of_decide_eq_true hE
        have q321 : x5_1 < (l0.length : Int) := of_decide_eq_true hE
        obtain ⟨ad321, e321, hx321_0, hx321_1, hx321_2⟩ := at_T59 HR0.out x5_1 p321 q321
        have hw321_2 := hx321_2
        have hw321_1 := hx321_1
        have hw321_0 := hx321_0
        cases e321
        replace hx321_0 := (HB.out.cell (World.block_lt_of_cell? w _ hx321_0)).trans hx321_0
        replace hx321_1 := (HB.out.cell (World.block_lt_of_cell? w _ hx321_1)).trans hx321_1
        replace hx321_2 := (HB.out.cell (World.block_lt_of_cell? w _ hx321_2)).trans hx321_2
        replace p321 := eq_true p321
        replace q321 := eq_true q321
        have p322 : 0 ≤ (x5_1 : Int) := of_decide_eq_true hE
        have q322 : x5_1 < (l1.length : Int) := of_decide_eq_true hE
        obtain ⟨ad322, e322, hx322_0, hx322_1, hx322_2⟩ := at_T59 HR1.out x5_1 p322 q322
        have hw322_2 := hx322_2
        have hw322_1 := hx322_1
        have hw322_0 := hx322_0
        cases e322
        replace hx322_0 := (HB.out.cell (World.block_lt_of_cell? w _ hx322_0)).trans hx322_0
        replace hx322_1 := (HB.out.cell (World.block_lt_of_cell? w _ hx322_1)).trans hx322_1
        replace hx322_2 := (HB.out.cell (World.block_lt_of_cell? w _ hx322_2)).trans hx322_2
        replace p322 := eq_true p322
        replace q322 := eq_true q322
        refine start_ (n := 10) (S := fun w' => w'.cell? (ad321.add ((x5_1).toNat * 3)) = some (.string ((rd_T59 l0 x5_1).f0)) ∧ w'.cell? ⟨(ad321.add ((x5_1).toNat * 3)).block, (ad321.add ((x5_1).toNat * 3)).off + 1, none⟩ = some (.int .i64 ((rd_T59 l0 x5_1).f1)) ∧ w'.cell? ⟨(ad321.add ((x5_1).toNat * 3)).block, (ad321.add ((x5_1).toNat * 3)).off + 2, none⟩ = some (.string ((rd_T59 l0 x5_1).f2)) ∧ w'.cell? (ad322.add ((x5_1).toNat * 3)) = some (.string ((rd_T59 l1 x5_1).f0)) ∧ w'.cell? ⟨(ad322.add ((x5_1).toNat * 3)).block, (ad322.add ((x5_1).toNat * 3)).off + 1, none⟩ = some (.int .i64 ((rd_T59 l1 x5_1).f1)) ∧ w'.cell? ⟨(ad322.add ((x5_1).toNat * 3)).block, (ad322.add ((x5_1).toNat * 3)).off + 2, none⟩ = some (.string ((rd_T59 l1 x5_1).f2))) (ds := []) #[false, false, false, false, false, false, false, false, false, false] (by kernel_rfl) rfl rfl ⟨((HB.out.cell (World.block_lt_of_cell? w _ hw321_0)).trans hw321_0), ((HB.out.cell (World.block_lt_of_cell? w _ hw321_1)).trans hw321_1), ((HB.out.cell (World.block_lt_of_cell? w _ hw321_2)).trans hw321_2), ((HB.out.cell (World.block_lt_of_cell? w _ hw322_0)).trans hw322_0), ((HB.out.cell (World.block_lt_of_cell? w _ hw322_1)).trans hw322_1), ((HB.out.cell (World.block_lt_of_cell? w _ hw322_2)).trans hw322_2)⟩ (fun hHeld => ?_); refine with_tabW laws_eqValueS.tab6 laws_eqValueS.bits6 (fun HT_ HW_ => ?_)
        generalize wr.drew = w11 at HB hx321_0 hx321_1 hx321_2 hx322_0 hx322_1 hx322_2 hHeld ⊢
        refine pureA 0 17 (bz 10 1) rfl rfl (any_of HT_.out (by kernel_rfl)) ?_
        refine pureA 1 18 (bz 10 3) rfl rfl (any_of HT_.out (by kernel_rfl)) ?_
        refine pureA 2 19 (bz 10 7) rfl rfl (any_of HT_.out (by kernel_rfl)) ?_
        refine pureA 4 21 (bz 10 23) rfl rfl (any_of HT_.out (by kernel_rfl)) ?_
        refine pureA 5 22 (bz 10 55) rfl rfl (any_of HT_.out (by kernel_rfl)) ?_
        refine pureA 6 23 (bz 10 119) rfl rfl (any_of HT_.out (by kernel_rfl)) ?_
        refine takeA 3 20 (bz 10 127) rfl rfl (take_ofW HT_.out HW_.out (by kernel_rfl)) hHeld (by rintro w' ⟨s0, s1, s2, s3, s4, s5⟩; go_simp; with_reducible rfl) ?_
        refine takeA 7 24 (bz 10 255) rfl rfl (take_ofW HT_.out HW_.out (by kernel_rfl)) hHeld (by rintro w' ⟨s0, s1, s2, s3, s4, s5⟩; go_simp; with_reducible rfl) ?_
        refine one_ (i := 8) (N := some 25) (bz 10 511) rfl rfl (one_of HT_.out (by kernel_rfl)) (by decide) (fun K hK => ?_)
        refine goes_ Try.func40 (by kernel_rfl) rfl #[.agg #[.string ((rd_T59 l0 x5_1).f0), .int .i64 ((rd_T59 l0 x5_1).f1), .string ((rd_T59 l0 x5_1).f2)], .agg #[.string ((rd_T59 l1 x5_1).f0), .int .i64 ((rd_T59 l1 x5_1).f1), .string ((rd_T59 l1 x5_1).f2)]] (by rfl) rfl rfl aE ?_
        with_reducible refine (laws_eqValue.calls ((rd_T59 l0 x5_1).f0) ((rd_T59 l0 x5_1).f1) ((rd_T59 l0 x5_1).f2) ((rd_T59 l1 x5_1).f0) ((rd_T59 l1 x5_1).f1) ((rd_T59 l1 x5_1).f2) false _ A7.out).mono ?_
        rintro e w12 ⟨rfl, hb⟩
        refine ⟨_, rfl, ?_⟩
        replace HB := bH (lU) hb
        (try clear hb)
        (try clear hb2)
        (try clear hk)
        (try clear hi)
        refine hK.out _ _ ⟨((HB.out.cell (World.block_lt_of_cell? w _ hw321_0)).trans hw321_0), ((HB.out.cell (World.block_lt_of_cell? w _ hw321_1)).trans hw321_1), ((HB.out.cell (World.block_lt_of_cell? w _ hw321_2)).trans hw321_2), ((HB.out.cell (World.block_lt_of_cell? w _ hw322_0)).trans hw322_0), ((HB.out.cell (World.block_lt_of_cell? w _ hw322_1)).trans hw322_1), ((HB.out.cell (World.block_lt_of_cell? w _ hw322_2)).trans hw322_2)⟩ (fun hHeld => ?_)
        clear hK K
        refine norm_ (a' := ?_) ?_ ?_
        rotate_left
        ·show Act.put _ (some 25) _ = _
         simp only [Act.put, List.setIfInBounds_toArray, List.set_cons_zero, List.set_cons_succ, i64_w, i32_w]
         rfl
        refine pureA 9 26 (bz 10 1023) rfl rfl (any_of HT_.out (by kernel_rfl)) ?_
        refine done_ (done_of HT_.out (by kernel_rfl)) ?_
        try go_wp2
        go_ret
        exact ⟨eE, lU⟩
      ·rw [if_neg c6] at H
       exact absurd H (by simp)
     ·rw [if_neg c5] at H
      exact absurd H (by simp)
    ·rw [if_neg c4] at H
     have c4b0 : decide (x5_1 < (l0.length : Int)) = false := decide_eq_false c4
     clear c4
     obtain rfl := Option.some.inj H
     go_wp2
     go_ret
     exact ⟨eE, lU⟩
 ·rw [if_neg c3] at H
  have c3b0 : ((l0.length : Int) == (l1.length : Int)) = false := beq_eq_false_iff_ne.mpr c3
  have c3b1 : ((l0.length : Int) != (l1.length : Int)) = true := bne_iff_ne.mpr c3
  have c3b2 : (l0.length == l1.length) = false := by first | simpa using c3 | (simp at c3 ⊢; omega)
  obtain rfl := Option.some.inj H
  go_enter Try.func12, Try.ntmps12
  go_wp2
  go_ret
  exact ⟨eE, lU⟩
def laws_eqChange.f (a0_0 : Int) (a0_1 : Int) (a0_2 : ByteArray) (a0_3 : ByteArray) (a0_4 : Int) (a1_0 : Int) (a1_1 : Int) (a1_2 : ByteArray) (a1_3 : ByteArray) (a1_4 : Int) : Option (Bool) := if a0_0 = a1_0 then (if a0_1 = a1_1 then (if a0_2.toList = a1_2.toList then (if a0_3.toList = a1_3.toList then (if a0_4 = a1_4 then (some true) else (some false)) else (some false)) else (some false)) else (some false)) else (some false)
set_option maxHeartbeats 8000000 in
set_option maxRecDepth 100000 in
theorem laws_eqChange.calls (a0_0 : Int) (a0_1 : Int) (a0_2 : ByteArray) (a0_3 : ByteArray) (a0_4 : Int) (a1_0 : Int) (a1_1 : Int) (a1_2 : ByteArray) (a1_3 : ByteArray) (a1_4 : Int) (r : Bool) (w : World) (h : laws_eqChange.f a0_0 a0_1 a0_2 a0_3 a0_4 a1_0 a1_1 a1_2 a1_3 a1_4 = some r) :
  Calls Try.prog 41 #[.agg #[.int .i64 a0_0, .int .i64 a0_1, .string a0_2, .string a0_3, .int .i64 a0_4], .agg #[.int .i64 a1_0, .int .i64 a1_1, .string a1_2, .string a1_3, .int .i64 a1_4]] w fun e w' => e = .returned (.bool r) ∧ Below w.heap.size w w' := by
 have hu56 := Try.underlying56
 have HB := Aside0.mk (Below.refl w.heap.size w)
 have H : (if a0_0 = a1_0 then (if a0_1 = a1_1 then (if a0_2.toList = a1_2.toList then (if a0_3.toList = a1_3.toList then (if a0_4 = a1_4 then (some true) else (some false)) else (some false)) else (some false)) else (some false)) else (some false)) = some r := h
 clear h
 by_cases c3 : a0_0 = a1_0
 ·rw [if_pos c3] at H
  have c3b0 : (a0_0 == a1_0) = true := beq_iff_eq.mpr c3
  have c3b1 : (a0_0 != a1_0) = false := bne_eq_false_iff_eq.mpr c3
  clear c3
  by_cases c4 : a0_1 = a1_1
  ·rw [if_pos c4] at H
   have c4b0 : (a0_1 == a1_1) = true := beq_iff_eq.mpr c4
   have c4b1 : (a0_1 != a1_1) = false := bne_eq_false_iff_eq.mpr c4
   clear c4
   by_cases c5 : a0_2.toList = a1_2.toList
   ·rw [if_pos c5] at H
    have c5b0 : (a0_2.toList == a1_2.toList) = true := beq_iff_eq.mpr c5
    have c5b1 : (a0_2.toList != a1_2.toList) = false := bne_eq_false_iff_eq.mpr c5
    clear c5
    by_cases c6 : a0_3.toList = a1_3.toList
    ·rw [if_pos c6] at H
     have c6b0 : (a0_3.toList == a1_3.toList) = true := beq_iff_eq.mpr c6
     have c6b1 : (a0_3.toList != a1_3.toList) = false := bne_eq_false_iff_eq.mpr c6
     clear c6
     by_cases c7 : a0_4 = a1_4
     ·rw [if_pos c7] at H
      have c7b0 : (a0_4 == a1_4) = true := beq_iff_eq.mpr c7
      have c7b1 : (a0_4 != a1_4) = false := bne_eq_false_iff_eq.mpr c7
      clear c7
      obtain rfl := Option.some.inj H
      go_enter Try.func41, Try.ntmps41
      go_wp2_with (first | ((with_reducible refine gate_dst (N := 2) rfl ?_); refine box_event rfl (N := 2) rfl (cs := #[.int .i64 a0_0, .int .i64 a0_1, .string a0_2, .string a0_3, .int .i64 a0_4]) (t := 56) sE ?_; intro gb324 hg w8 hbox hb; have BK324 := Aside0.mk hbox; have GW324 := gS w hg (lU); have GE324 := gS w hg (lU); replace HB := bH (lU) hb; clear hb hbox hg) | ((with_reducible refine gate_dst (N := 3) rfl ?_); refine box_event rfl (N := 3) rfl (cs := #[.int .i64 a1_0, .int .i64 a1_1, .string a1_2, .string a1_3, .int .i64 a1_4]) (t := 56) sE ?_; intro gb325 hg w9 hbox hb; have BK325 := Aside0.mk hbox; have GW325 := gS w hg (lV1 GE324); have GE325 := gS w hg (lV1 GE324); replace HB := bH (lV1 GE324) hb; have NB324_325 := nL hg (bV BK324); have NB325_324 := nG hg (bV BK324); replace BK324 := bB (bV BK324) hb; clear hb hbox hg; have hnb10 := NB324_325.out; have hnc10 := NB325_324.out; have hcz11_0 := cz BK324 0 (.int .i64 a0_0); have hcz11_1 := cz BK324 1 (.int .i64 a0_1); have hcz11_2 := cz BK324 2 (.string a0_2); have hcz11_3 := cz BK324 3 (.string a0_3); have hcz11_4 := cz BK324 4 (.int .i64 a0_4); have hfz11_0 := fz BK324 0; have hfz11_1 := fz BK324 1; have hfz11_2 := fz BK324 2; have hfz11_3 := fz BK324 3; have hfz11_4 := fz BK324 4; have hcz12_0 := cz BK325 0 (.int .i64 a1_0); have hcz12_1 := cz BK325 1 (.int .i64 a1_1); have hcz12_2 := cz BK325 2 (.string a1_2); have hcz12_3 := cz BK325 3 (.string a1_3); have hcz12_4 := cz BK325 4 (.int .i64 a1_4); have hfz12_0 := fz BK325 0; have hfz12_1 := fz BK325 1; have hfz12_2 := fz BK325 2; have hfz12_3 := fz BK325 3; have hfz12_4 := fz BK325 4))
      go_ret
      exact ⟨eE, lV2 GE324 GE325⟩
     ·rw [if_neg c7] at H
      have c7b0 : (a0_4 == a1_4) = false := beq_eq_false_iff_ne.mpr c7
      have c7b1 : (a0_4 != a1_4) = true := bne_iff_ne.mpr c7
      obtain rfl := Option.some.inj H
      go_enter Try.func41, Try.ntmps41
      go_wp2_with (first | ((with_reducible refine gate_dst (N := 2) rfl ?_); refine box_event rfl (N := 2) rfl (cs := #[.int .i64 a0_0, .int .i64 a0_1, .string a0_2, .string a0_3, .int .i64 a0_4]) (t := 56) sE ?_; intro gb324 hg w13 hbox hb; have BK324 := Aside0.mk hbox; have GW324 := gS w hg (lU); have GE324 := gS w hg (lU); replace HB := bH (lU) hb; clear hb hbox hg) | ((with_reducible refine gate_dst (N := 3) rfl ?_); refine box_event rfl (N := 3) rfl (cs := #[.int .i64 a1_0, .int .i64 a1_1, .string a1_2, .string a1_3, .int .i64 a1_4]) (t := 56) sE ?_; intro gb325 hg w14 hbox hb; have BK325 := Aside0.mk hbox; have GW325 := gS w hg (lV1 GE324); have GE325 := gS w hg (lV1 GE324); replace HB := bH (lV1 GE324) hb; have NB324_325 := nL hg (bV BK324); have NB325_324 := nG hg (bV BK324); replace BK324 := bB (bV BK324) hb; clear hb hbox hg; have hnb15 := NB324_325.out; have hnc15 := NB325_324.out; have hcz16_0 := cz BK324 0 (.int .i64 a0_0); have hcz16_1 := cz BK324 1 (.int .i64 a0_1); have hcz16_2 := cz BK324 2 (.string a0_2); have hcz16_3 := cz BK324 3 (.string a0_3); have hcz16_4 := cz BK324 4 (.int .i64 a0_4); have hfz16_0 := fz BK324 0; have hfz16_1 := fz BK324 1; have hfz16_2 := fz BK324 2; have hfz16_3 := fz BK324 3; have hfz16_4 := fz BK324 4; have hcz17_0 := cz BK325 0 (.int .i64 a1_0); have hcz17_1 := cz BK325 1 (.int .i64 a1_1); have hcz17_2 := cz BK325 2 (.string a1_2); have hcz17_3 := cz BK325 3 (.string a1_3); have hcz17_4 := cz BK325 4 (.int .i64 a1_4); have hfz17_0 := fz BK325 0; have hfz17_1 := fz BK325 1; have hfz17_2 := fz BK325 2; have hfz17_3 := fz BK325 3; have hfz17_4 := fz BK325 4))
      go_ret
      exact ⟨eE, lV2 GE324 GE325⟩
    ·rw [if_neg c6] at H
     have c6b0 : (a0_3.toList == a1_3.toList) = false := beq_eq_false_iff_ne.mpr c6
     have c6b1 : (a0_3.toList != a1_3.toList) = true := bne_iff_ne.mpr c6
     obtain rfl := Option.some.inj H
     go_enter Try.func41, Try.ntmps41
     go_wp2_with (first | ((with_reducible refine gate_dst (N := 2) rfl ?_); refine box_event rfl (N := 2) rfl (cs := #[.int .i64 a0_0, .int .i64 a0_1, .string a0_2, .string a0_3, .int .i64 a0_4]) (t := 56) sE ?_; intro gb324 hg w18 hbox hb; have BK324 := Aside0.mk hbox; have GW324 := gS w hg (lU); have GE324 := gS w hg (lU); replace HB := bH (lU) hb; clear hb hbox hg) | ((with_reducible refine gate_dst (N := 3) rfl ?_); refine box_event rfl (N := 3) rfl (cs := #[.int .i64 a1_0, .int .i64 a1_1, .string a1_2, .string a1_3, .int .i64 a1_4]) (t := 56) sE ?_; intro gb325 hg w19 hbox hb; have BK325 := Aside0.mk hbox; have GW325 := gS w hg (lV1 GE324); have GE325 := gS w hg (lV1 GE324); replace HB := bH (lV1 GE324) hb; have NB324_325 := nL hg (bV BK324); have NB325_324 := nG hg (bV BK324); replace BK324 := bB (bV BK324) hb; clear hb hbox hg; have hnb20 := NB324_325.out; have hnc20 := NB325_324.out; have hcz21_0 := cz BK324 0 (.int .i64 a0_0); have hcz21_1 := cz BK324 1 (.int .i64 a0_1); have hcz21_2 := cz BK324 2 (.string a0_2); have hcz21_3 := cz BK324 3 (.string a0_3); have hcz21_4 := cz BK324 4 (.int .i64 a0_4); have hfz21_0 := fz BK324 0; have hfz21_1 := fz BK324 1; have hfz21_2 := fz BK324 2; have hfz21_3 := fz BK324 3; have hfz21_4 := fz BK324 4; have hcz22_0 := cz BK325 0 (.int .i64 a1_0); have hcz22_1 := cz BK325 1 (.int .i64 a1_1); have hcz22_2 := cz BK325 2 (.string a1_2); have hcz22_3 := cz BK325 3 (.string a1_3); have hcz22_4 := cz BK325 4 (.int .i64 a1_4); have hfz22_0 := fz BK325 0; have hfz22_1 := fz BK325 1; have hfz22_2 := fz BK325 2; have hfz22_3 := fz BK325 3; have hfz22_4 := fz BK325 4))
     go_ret
     exact ⟨eE, lV2 GE324 GE325⟩
   ·rw [if_neg c5] at H
    have c5b0 : (a0_2.toList == a1_2.toList) = false := beq_eq_false_iff_ne.mpr c5
    have c5b1 : (a0_2.toList != a1_2.toList) = true := bne_iff_ne.mpr c5
    obtain rfl := Option.some.inj H
    go_enter Try.func41, Try.ntmps41
    go_wp2_with (first | ((with_reducible refine gate_dst (N := 2) rfl ?_); refine box_event rfl (N := 2) rfl (cs := #[.int .i64 a0_0, .int .i64 a0_1, .string a0_2, .string a0_3, .int .i64 a0_4]) (t := 56) sE ?_; intro gb324 hg w23 hbox hb; have BK324 := Aside0.mk hbox; have GW324 := gS w hg (lU); have GE324 := gS w hg (lU); replace HB := bH (lU) hb; clear hb hbox hg) | ((with_reducible refine gate_dst (N := 3) rfl ?_); refine box_event rfl (N := 3) rfl (cs := #[.int .i64 a1_0, .int .i64 a1_1, .string a1_2, .string a1_3, .int .i64 a1_4]) (t := 56) sE ?_; intro gb325 hg w24 hbox hb; have BK325 := Aside0.mk hbox; have GW325 := gS w hg (lV1 GE324); have GE325 := gS w hg (lV1 GE324); replace HB := bH (lV1 GE324) hb; have NB324_325 := nL hg (bV BK324); have NB325_324 := nG hg (bV BK324); replace BK324 := bB (bV BK324) hb; clear hb hbox hg; have hnb25 := NB324_325.out; have hnc25 := NB325_324.out; have hcz26_0 := cz BK324 0 (.int .i64 a0_0); have hcz26_1 := cz BK324 1 (.int .i64 a0_1); have hcz26_2 := cz BK324 2 (.string a0_2); have hcz26_3 := cz BK324 3 (.string a0_3); have hcz26_4 := cz BK324 4 (.int .i64 a0_4); have hfz26_0 := fz BK324 0; have hfz26_1 := fz BK324 1; have hfz26_2 := fz BK324 2; have hfz26_3 := fz BK324 3; have hfz26_4 := fz BK324 4; have hcz27_0 := cz BK325 0 (.int .i64 a1_0); have hcz27_1 := cz BK325 1 (.int .i64 a1_1); have hcz27_2 := cz BK325 2 (.string a1_2); have hcz27_3 := cz BK325 3 (.string a1_3); have hcz27_4 := cz BK325 4 (.int .i64 a1_4); have hfz27_0 := fz BK325 0; have hfz27_1 := fz BK325 1; have hfz27_2 := fz BK325 2; have hfz27_3 := fz BK325 3; have hfz27_4 := fz BK325 4))
    go_ret
    exact ⟨eE, lV2 GE324 GE325⟩
  ·rw [if_neg c4] at H
   have c4b0 : (a0_1 == a1_1) = false := beq_eq_false_iff_ne.mpr c4
   have c4b1 : (a0_1 != a1_1) = true := bne_iff_ne.mpr c4
   obtain rfl := Option.some.inj H
   go_enter Try.func41, Try.ntmps41
   go_wp2_with (first | ((with_reducible refine gate_dst (N := 2) rfl ?_); refine box_event rfl (N := 2) rfl (cs := #[.int .i64 a0_0, .int .i64 a0_1, .string a0_2, .string a0_3, .int .i64 a0_4]) (t := 56) sE ?_; intro gb324 hg w28 hbox hb; have BK324 := Aside0.mk hbox; have GW324 := gS w hg (lU); have GE324 := gS w hg (lU); replace HB := bH (lU) hb; clear hb hbox hg) | ((with_reducible refine gate_dst (N := 3) rfl ?_); refine box_event rfl (N := 3) rfl (cs := #[.int .i64 a1_0, .int .i64 a1_1, .string a1_2, .string a1_3, .int .i64 a1_4]) (t := 56) sE ?_; intro gb325 hg w29 hbox hb; have BK325 := Aside0.mk hbox; have GW325 := gS w hg (lV1 GE324); have GE325 := gS w hg (lV1 GE324); replace HB := bH (lV1 GE324) hb; have NB324_325 := nL hg (bV BK324); have NB325_324 := nG hg (bV BK324); replace BK324 := bB (bV BK324) hb; clear hb hbox hg; have hnb30 := NB324_325.out; have hnc30 := NB325_324.out; have hcz31_0 := cz BK324 0 (.int .i64 a0_0); have hcz31_1 := cz BK324 1 (.int .i64 a0_1); have hcz31_2 := cz BK324 2 (.string a0_2); have hcz31_3 := cz BK324 3 (.string a0_3); have hcz31_4 := cz BK324 4 (.int .i64 a0_4); have hfz31_0 := fz BK324 0; have hfz31_1 := fz BK324 1; have hfz31_2 := fz BK324 2; have hfz31_3 := fz BK324 3; have hfz31_4 := fz BK324 4; have hcz32_0 := cz BK325 0 (.int .i64 a1_0); have hcz32_1 := cz BK325 1 (.int .i64 a1_1); have hcz32_2 := cz BK325 2 (.string a1_2); have hcz32_3 := cz BK325 3 (.string a1_3); have hcz32_4 := cz BK325 4 (.int .i64 a1_4); have hfz32_0 := fz BK325 0; have hfz32_1 := fz BK325 1; have hfz32_2 := fz BK325 2; have hfz32_3 := fz BK325 3; have hfz32_4 := fz BK325 4))
   go_ret
   exact ⟨eE, lV2 GE324 GE325⟩
 ·rw [if_neg c3] at H
  have c3b0 : (a0_0 == a1_0) = false := beq_eq_false_iff_ne.mpr c3
  have c3b1 : (a0_0 != a1_0) = true := bne_iff_ne.mpr c3
  obtain rfl := Option.some.inj H
  go_enter Try.func41, Try.ntmps41
  go_wp2_with (first | ((with_reducible refine gate_dst (N := 2) rfl ?_); refine box_event rfl (N := 2) rfl (cs := #[.int .i64 a0_0, .int .i64 a0_1, .string a0_2, .string a0_3, .int .i64 a0_4]) (t := 56) sE ?_; intro gb324 hg w33 hbox hb; have BK324 := Aside0.mk hbox; have GW324 := gS w hg (lU); have GE324 := gS w hg (lU); replace HB := bH (lU) hb; clear hb hbox hg) | ((with_reducible refine gate_dst (N := 3) rfl ?_); refine box_event rfl (N := 3) rfl (cs := #[.int .i64 a1_0, .int .i64 a1_1, .string a1_2, .string a1_3, .int .i64 a1_4]) (t := 56) sE ?_; intro gb325 hg w34 hbox hb; have BK325 := Aside0.mk hbox; have GW325 := gS w hg (lV1 GE324); have GE325 := gS w hg (lV1 GE324); replace HB := bH (lV1 GE324) hb; have NB324_325 := nL hg (bV BK324); have NB325_324 := nG hg (bV BK324); replace BK324 := bB (bV BK324) hb; clear hb hbox hg; have hnb35 := NB324_325.out; have hnc35 := NB325_324.out; have hcz36_0 := cz BK324 0 (.int .i64 a0_0); have hcz36_1 := cz BK324 1 (.int .i64 a0_1); have hcz36_2 := cz BK324 2 (.string a0_2); have hcz36_3 := cz BK324 3 (.string a0_3); have hcz36_4 := cz BK324 4 (.int .i64 a0_4); have hfz36_0 := fz BK324 0; have hfz36_1 := fz BK324 1; have hfz36_2 := fz BK324 2; have hfz36_3 := fz BK324 3; have hfz36_4 := fz BK324 4; have hcz37_0 := cz BK325 0 (.int .i64 a1_0); have hcz37_1 := cz BK325 1 (.int .i64 a1_1); have hcz37_2 := cz BK325 2 (.string a1_2); have hcz37_3 := cz BK325 3 (.string a1_3); have hcz37_4 := cz BK325 4 (.int .i64 a1_4); have hfz37_0 := fz BK325 0; have hfz37_1 := fz BK325 1; have hfz37_2 := fz BK325 2; have hfz37_3 := fz BK325 3; have hfz37_4 := fz BK325 4))
  go_ret
  exact ⟨eE, lV2 GE324 GE325⟩
def laws_eqChangeS.l0 : Nat → List (S56) → List (S56) → Int → Option (Bool)
 | 0, _, _, _ => none
 | k + 1, x0, x1, x5 => if x5 < (x0.length : Int) then (if 0 ≤ x5 then (if x5 < (x1.length : Int) then ((laws_eqChange.f ((rd_T56 x0 x5).f0) ((rd_T56 x0 x5).f1) ((rd_T56 x0 x5).f2) ((rd_T56 x0 x5).f3) ((rd_T56 x0 x5).f4) ((rd_T56 x1 x5).f0) ((rd_T56 x1 x5).f1) ((rd_T56 x1 x5).f2) ((rd_T56 x1 x5).f3) ((rd_T56 x1 x5).f4)).bind fun t328 => (if t328 = true then (laws_eqChangeS.l0 k x0 x1 (wrap64 (x5 + 1))) else (some false))) else (none)) else (none)) else (some true)
def laws_eqChangeS.f (k : Nat) (l0 : List (S56)) (l1 : List (S56)) : Option (Bool) := if (l0.length : Int) = (l1.length : Int) then (laws_eqChangeS.l0 k l0 l1 0) else (some false)
theorem laws_eqChangeS.mono_l : ∀ k, (∀ y0 y1 y2, LeO (laws_eqChangeS.l0 k y0 y1 y2) (laws_eqChangeS.l0 (k + 1) y0 y1 y2))
 | 0 => fun _ _ _ r h => by simp [laws_eqChangeS.l0] at h
 | k + 1 => by
  have ih0 := laws_eqChangeS.mono_l k
  ·intro y0 y1 y2
   unfold laws_eqChangeS.l0
   repeat' first
   | (with_reducible exact ih0 _ _ _)
   | (with_reducible first | exact LeO.refl _ | exact LeO.none _ | refine LeO.ite ?_ ?_ | refine LeO.bind ?_ (fun _ => ?_))
   | exact ih0 _ _ _ | exact LeO.none _ | refine LeO.ite ?_ ?_ | refine LeO.bind ?_ (fun _ => ?_)
theorem laws_eqChangeS.mono : ∀ a0 a1 k, LeO (laws_eqChangeS.f k a0 a1) (laws_eqChangeS.f (k + 1) a0 a1) := by
 intro a0 a1 k
 have ih0 := laws_eqChangeS.mono_l k
 unfold laws_eqChangeS.f
 repeat' first
   | (with_reducible exact ih0 _ _ _)
   | (with_reducible first | exact LeO.refl _ | exact LeO.none _ | refine LeO.ite ?_ ?_ | refine LeO.bind ?_ (fun _ => ?_))
   | exact ih0 _ _ _ | exact LeO.none _ | refine LeO.ite ?_ ?_ | refine LeO.bind ?_ (fun _ => ?_)
def laws_eqChangeS.T6 : Bool × List (List Nat × List Nat) := (true, [([], []), ([], []), ([0, 1], [0, 1]), ([2], [2]), ([], []), ([], []), ([4, 5], [4, 5]), ([6], [6]), ([3, 7], [3, 7]), ([8], [8])])
def laws_eqChangeS.B6 : List Nat := [0, 0, 3, 7, 0, 0, 48, 112, 255, 511]
theorem laws_eqChangeS.tab6 : rtab .any (opsOf Try.f13 6) = laws_eqChangeS.T6 := by kernel_rfl
theorem laws_eqChangeS.bits6 : waitsOk laws_eqChangeS.T6.2 laws_eqChangeS.B6 = true := by kernel_rfl
set_option maxHeartbeats 8000000 in
set_option maxRecDepth 100000 in
theorem laws_eqChangeS.calls (k : Nat) (A0 : Option Addr) (c0 : Nat) (l0 : List (S56)) (A1 : Option Addr) (c1 : Nat) (l1 : List (S56)) (r : Bool) (w : World) (hr0 : Kd.C k56 w A0 l0.length l0) (hc0 : l0.length ≤ c0) (hr1 : Kd.C k56 w A1 l1.length l1) (hc1 : l1.length ≤ c1) (h : laws_eqChangeS.f k l0 l1 = some r) :
  Calls Try.prog 13 #[.slice A0 l0.length c0, .slice A1 l1.length c1] w fun e w' => e = .returned (.bool r) ∧ Below w.heap.size w w' := by
 have hu56 := Try.underlying56
 have HR0 := Aside0.mk hr0
 have HC0 := Aside0.mk hc0
 clear hr0 hc0
 have HR1 := Aside0.mk hr1
 have HC1 := Aside0.mk hc1
 clear hr1 hc1
 have HB := Aside0.mk (Below.refl w.heap.size w)
 have H : (if (l0.length : Int) = (l1.length : Int) then (laws_eqChangeS.l0 k l0 l1 0) else (some false)) = some r := h
 clear h
 by_cases c3 : (l0.length : Int) = (l1.length : Int)
 ·rw [if_pos c3] at H
  have c3b0 : ((l0.length : Int) == (l1.length : Int)) = true := beq_iff_eq.mpr c3
  have c3b1 : ((l0.length : Int) != (l1.length : Int)) = false := bne_eq_false_iff_eq.mpr c3
  have c3b2 : (l0.length == l1.length) = true := by first | simpa using c3 | (simp at c3 ⊢; omega)
  clear c3
  have H' := Aside0.mk H
  clear H
  go_enter Try.func13, Try.ntmps13
  go_wp2
  go_loopg [5] k (fun kq v5 w' => ∃ (x5_1 : Int), v5 = .int .i64 x5_1 ∧ Aside0 (laws_eqChangeS.l0 kq l0 l1 x5_1 = some r) ∧ Aside0 (kq ≤ k) ∧ Aside0 (Below w.heap.size w w'))
  case atStart => exact ⟨(0), tE, H', ⟨Nat.le_refl _⟩, ⟨by repeat (first | (with_reducible first | exact HB.out | apply below_alloc | apply pw_below_drewN | apply below_drew1) | exact HB.out)⟩⟩
  case round =>
   clear H'
   try clear c1
   try clear p2
   try clear c3
   try clear c3b0
   try clear c3b1
   try clear c3b2
   obtain ⟨x5_1, rfl, HA, HK1, HB⟩ := hrel
   cases gk with
   | zero => exact absurd HA.out (by simp [laws_eqChangeS.l0])
   | succ k1 =>
    have H := HA.out
    clear HA
    simp only [laws_eqChangeS.l0] at H
    by_cases c4 : x5_1 < (l0.length : Int)
    ·rw [if_pos c4] at H
     have c4b0 : decide (x5_1 < (l0.length : Int)) = true := decide_eq_true c4
     clear c4
     by_cases c5 : 0 ≤ x5_1
     ·rw [if_pos c5] at H
      have c5b0 : decide (0 ≤ x5_1) = true := decide_eq_true c5
      clear c5
      by_cases c6 : x5_1 < (l1.length : Int)
      ·rw [if_pos c6] at H
       have c6b0 : decide (x5_1 < (l1.length : Int)) = true := decide_eq_true c6
       clear c6
       replace H := Option.bind_eq_some_iff.mp H
       obtain ⟨t328, A70, H⟩ := H
       replace H : (if t328 = true then (laws_eqChangeS.l0 k1 l0 l1 (wrap64 (x5_1 + 1))) else (some false)) = some r := H
       have A7 := Aside0.mk A70
       clear A70
       by_cases c8 : t328 = true
       ·subst c8
        have H1 : (laws_eqChangeS.l0 k1 l0 l1 (wrap64 (x5_1 + 1))) = some r := by rw [if_pos rfl] at H; exact H
        clear H
        have H := H1
        clear H1
        have H' := Aside0.mk H
        clear H
        try go_wp2
        replace HB := Aside0.mk (below_drew1 HB.out)
        have p326 : 0 ≤ (x5_1 : Int) := of_decide_eq_true hE
        have q326 : x5_1 < (l0.length : Int) := of_decide_eq_true hE
        obtain ⟨ad326, e326, hx326_0, hx326_1, hx326_2, hx326_3, hx326_4⟩ := at_T56 HR0.out x5_1 p326 q326
        have hw326_4 := hx326_4
        have hw326_3 := hx326_3
        have hw326_2 := hx326_2
        have hw326_1 := hx326_1
        have hw326_0 := hx326_0
        cases e326
        replace hx326_0 := (HB.out.cell (World.block_lt_of_cell? w _ hx326_0)).trans hx326_0
        replace hx326_1 := (HB.out.cell (World.block_lt_of_cell? w _ hx326_1)).trans hx326_1
        replace hx326_2 := (HB.out.cell (World.block_lt_of_cell? w _ hx326_2)).trans hx326_2
        replace hx326_3 := (HB.out.cell (World.block_lt_of_cell? w _ hx326_3)).trans hx326_3
        replace hx326_4 := (HB.out.cell (World.block_lt_of_cell? w _ hx326_4)).trans hx326_4
        replace p326 := eq_true p326
        replace q326 := eq_true q326
        have p327 : 0 ≤ (x5_1 : Int) := of_decide_eq_true hE
        have q327 : x5_1 < (l1.length : Int) := of_decide_eq_true hE
        obtain ⟨ad327, e327, hx327_0, hx327_1, hx327_2, hx327_3, hx327_4⟩ := at_T56 HR1.out x5_1 p327 q327
        have hw327_4 := hx327_4
        have hw327_3 := hx327_3
        have hw327_2 := hx327_2
        have hw327_1 := hx327_1
        have hw327_0 := hx327_0
        cases e327
        replace hx327_0 := (HB.out.cell (World.block_lt_of_cell? w _ hx327_0)).trans hx327_0
        replace hx327_1 := (HB.out.cell (World.block_lt_of_cell? w _ hx327_1)).trans hx327_1
        replace hx327_2 := (HB.out.cell (World.block_lt_of_cell? w _ hx327_2)).trans hx327_2
        replace hx327_3 := (HB.out.cell (World.block_lt_of_cell? w _ hx327_3)).trans hx327_3
        replace hx327_4 := (HB.out.cell (World.block_lt_of_cell? w _ hx327_4)).trans hx327_4
        replace p327 := eq_true p327
        replace q327 := eq_true q327
        refine start_ (n := 10) (S := fun w' => w'.cell? (ad326.add ((x5_1).toNat * 5)) = some (.int .i64 ((rd_T56 l0 x5_1).f0)) ∧ w'.cell? ⟨(ad326.add ((x5_1).toNat * 5)).block, (ad326.add ((x5_1).toNat * 5)).off + 1, none⟩ = some (.int .i64 ((rd_T56 l0 x5_1).f1)) ∧ w'.cell? ⟨(ad326.add ((x5_1).toNat * 5)).block, (ad326.add ((x5_1).toNat * 5)).off + 2, none⟩ = some (.string ((rd_T56 l0 x5_1).f2)) ∧ w'.cell? ⟨(ad326.add ((x5_1).toNat * 5)).block, (ad326.add ((x5_1).toNat * 5)).off + 3, none⟩ = some (.string ((rd_T56 l0 x5_1).f3)) ∧ w'.cell? ⟨(ad326.add ((x5_1).toNat * 5)).block, (ad326.add ((x5_1).toNat * 5)).off + 4, none⟩ = some (.int .i64 ((rd_T56 l0 x5_1).f4)) ∧ w'.cell? (ad327.add ((x5_1).toNat * 5)) = some (.int .i64 ((rd_T56 l1 x5_1).f0)) ∧ w'.cell? ⟨(ad327.add ((x5_1).toNat * 5)).block, (ad327.add ((x5_1).toNat * 5)).off + 1, none⟩ = some (.int .i64 ((rd_T56 l1 x5_1).f1)) ∧ w'.cell? ⟨(ad327.add ((x5_1).toNat * 5)).block, (ad327.add ((x5_1).toNat * 5)).off + 2, none⟩ = some (.string ((rd_T56 l1 x5_1).f2)) ∧ w'.cell? ⟨(ad327.add ((x5_1).toNat * 5)).block, (ad327.add ((x5_1).toNat * 5)).off + 3, none⟩ = some (.string ((rd_T56 l1 x5_1).f3)) ∧ w'.cell? ⟨(ad327.add ((x5_1).toNat * 5)).block, (ad327.add ((x5_1).toNat * 5)).off + 4, none⟩ = some (.int .i64 ((rd_T56 l1 x5_1).f4))) (ds := []) #[false, false, false, false, false, false, false, false, false, false] (by kernel_rfl) rfl rfl ⟨((HB.out.cell (World.block_lt_of_cell? w _ hw326_0)).trans hw326_0), ((HB.out.cell (World.block_lt_of_cell? w _ hw326_1)).trans hw326_1), ((HB.out.cell (World.block_lt_of_cell? w _ hw326_2)).trans hw326_2), ((HB.out.cell (World.block_lt_of_cell? w _ hw326_3)).trans hw326_3), ((HB.out.cell (World.block_lt_of_cell? w _ hw326_4)).trans hw326_4), ((HB.out.cell (World.block_lt_of_cell? w _ hw327_0)).trans hw327_0), ((HB.out.cell (World.block_lt_of_cell? w _ hw327_1)).trans hw327_1), ((HB.out.cell (World.block_lt_of_cell? w _ hw327_2)).trans hw327_2), ((HB.out.cell (World.block_lt_of_cell? w _ hw327_3)).trans hw327_3), ((HB.out.cell (World.block_lt_of_cell? w _ hw327_4)).trans hw327_4)⟩ (fun hHeld => ?_); refine with_tabW laws_eqChangeS.tab6 laws_eqChangeS.bits6 (fun HT_ HW_ => ?_)
        generalize wr.drew = w9 at HB hx326_0 hx326_1 hx326_2 hx326_3 hx326_4 hx327_0 hx327_1 hx327_2 hx327_3 hx327_4 hHeld ⊢
        refine pureA 0 17 (bz 10 1) rfl rfl (any_of HT_.out (by kernel_rfl)) ?_
        refine pureA 1 18 (bz 10 3) rfl rfl (any_of HT_.out (by kernel_rfl)) ?_
        refine pureA 2 19 (bz 10 7) rfl rfl (any_of HT_.out (by kernel_rfl)) ?_
        refine pureA 4 21 (bz 10 23) rfl rfl (any_of HT_.out (by kernel_rfl)) ?_
        refine pureA 5 22 (bz 10 55) rfl rfl (any_of HT_.out (by kernel_rfl)) ?_
        refine pureA 6 23 (bz 10 119) rfl rfl (any_of HT_.out (by kernel_rfl)) ?_
        refine takeA 3 20 (bz 10 127) rfl rfl (take_ofW HT_.out HW_.out (by kernel_rfl)) hHeld (by rintro w' ⟨s0, s1, s2, s3, s4, s5, s6, s7, s8, s9⟩; go_simp; with_reducible rfl) ?_
        refine takeA 7 24 (bz 10 255) rfl rfl (take_ofW HT_.out HW_.out (by kernel_rfl)) hHeld (by rintro w' ⟨s0, s1, s2, s3, s4, s5, s6, s7, s8, s9⟩; go_simp; with_reducible rfl) ?_
        refine one_ (i := 8) (N := some 25) (bz 10 511) rfl rfl (one_of HT_.out (by kernel_rfl)) (by decide) (fun K hK => ?_)
        refine goes_ Try.func41 (by kernel_rfl) rfl #[.agg #[.int .i64 ((rd_T56 l0 x5_1).f0), .int .i64 ((rd_T56 l0 x5_1).f1), .string ((rd_T56 l0 x5_1).f2), .string ((rd_T56 l0 x5_1).f3), .int .i64 ((rd_T56 l0 x5_1).f4)], .agg #[.int .i64 ((rd_T56 l1 x5_1).f0), .int .i64 ((rd_T56 l1 x5_1).f1), .string ((rd_T56 l1 x5_1).f2), .string ((rd_T56 l1 x5_1).f3), .int .i64 ((rd_T56 l1 x5_1).f4)]] (by rfl) rfl rfl aE ?_
        with_reducible refine (laws_eqChange.calls ((rd_T56 l0 x5_1).f0) ((rd_T56 l0 x5_1).f1) ((rd_T56 l0 x5_1).f2) ((rd_T56 l0 x5_1).f3) ((rd_T56 l0 x5_1).f4) ((rd_T56 l1 x5_1).f0) ((rd_T56 l1 x5_1).f1) ((rd_T56 l1 x5_1).f2) ((rd_T56 l1 x5_1).f3) ((rd_T56 l1 x5_1).f4) true _ A7.out).mono ?_
        rintro e w10 ⟨rfl, hb⟩
        refine ⟨_, rfl, ?_⟩
        replace HB := bH (lU) hb
        (try clear hb)
        (try clear hb2)
        (try clear hk)
        (try clear hi)
        refine hK.out _ _ ⟨((HB.out.cell (World.block_lt_of_cell? w _ hw326_0)).trans hw326_0), ((HB.out.cell (World.block_lt_of_cell? w _ hw326_1)).trans hw326_1), ((HB.out.cell (World.block_lt_of_cell? w _ hw326_2)).trans hw326_2), ((HB.out.cell (World.block_lt_of_cell? w _ hw326_3)).trans hw326_3), ((HB.out.cell (World.block_lt_of_cell? w _ hw326_4)).trans hw326_4), ((HB.out.cell (World.block_lt_of_cell? w _ hw327_0)).trans hw327_0), ((HB.out.cell (World.block_lt_of_cell? w _ hw327_1)).trans hw327_1), ((HB.out.cell (World.block_lt_of_cell? w _ hw327_2)).trans hw327_2), ((HB.out.cell (World.block_lt_of_cell? w _ hw327_3)).trans hw327_3), ((HB.out.cell (World.block_lt_of_cell? w _ hw327_4)).trans hw327_4)⟩ (fun hHeld => ?_)
        clear hK K
        refine norm_ (a' := ?_) ?_ ?_
        rotate_left
        ·show Act.put _ (some 25) _ = _
         simp only [Act.put, List.setIfInBounds_toArray, List.set_cons_zero, List.set_cons_succ, i64_w, i32_w]
         rfl
        refine pureA 9 26 (bz 10 1023) rfl rfl (any_of HT_.out (by kernel_rfl)) ?_
        refine done_ (done_of HT_.out (by kernel_rfl)) ?_
        try go_wp2
        go_roundg k1
        case measure => have := HK1.out; omega
        case rel => exact ⟨(wrap64 (x5_1 + 1)), tE, H', ⟨by have := HK1.out; omega⟩, ⟨by repeat (first | (with_reducible first | exact HB.out | apply below_alloc | apply pw_below_drewN | apply below_drew1) | exact HB.out)⟩⟩
       ·replace c8 := Bool.eq_false_iff.mpr c8
        subst c8
        have H1 : (some false) = some r := by rw [if_neg (show ¬ (false = true) by decide)] at H; exact H
        clear H
        have H := H1
        clear H1
        obtain rfl := Option.some.inj H
        try go_wp2
        replace HB := Aside0.mk (below_drew1 HB.out)
        have p326 : 0 ≤ (x5_1 : Int) := of_decide_eq_true hE
        have q326 : x5_1 < (l0.length : Int) := of_decide_eq_true hE
        obtain ⟨ad326, e326, hx326_0, hx326_1, hx326_2, hx326_3, hx326_4⟩ := at_T56 HR0.out x5_1 p326 q326
        have hw326_4 := hx326_4
        have hw326_3 := hx326_3
        have hw326_2 := hx326_2
        have hw326_1 := hx326_1
        have hw326_0 := hx326_0
        cases e326
        replace hx326_0 := (HB.out.cell (World.block_lt_of_cell? w _ hx326_0)).trans hx326_0
        replace hx326_1 := (HB.out.cell (World.block_lt_of_cell? w _ hx326_1)).trans hx326_1
        replace hx326_2 := (HB.out.cell (World.block_lt_of_cell? w _ hx326_2)).trans hx326_2
        replace hx326_3 := (HB.out.cell (World.block_lt_of_cell? w _ hx326_3)).trans hx326_3
        replace hx326_4 := (HB.out.cell (World.block_lt_of_cell? w _ hx326_4)).trans hx326_4
        replace p326 := eq_true p326
        replace q326 := eq_true q326
        have p327 : 0 ≤ (x5_1 : Int) := of_decide_eq_true hE
        have q327 : x5_1 < (l1.length : Int) := of_decide_eq_true hE
        obtain ⟨ad327, e327, hx327_0, hx327_1, hx327_2, hx327_3, hx327_4⟩ := at_T56 HR1.out x5_1 p327 q327
        have hw327_4 := hx327_4
        have hw327_3 := hx327_3
        have hw327_2 := hx327_2
        have hw327_1 := hx327_1
        have hw327_0 := hx327_0
        cases e327
        replace hx327_0 := (HB.out.cell (World.block_lt_of_cell? w _ hx327_0)).trans hx327_0
        replace hx327_1 := (HB.out.cell (World.block_lt_of_cell? w _ hx327_1)).trans hx327_1
        replace hx327_2 := (HB.out.cell (World.block_lt_of_cell? w _ hx327_2)).trans hx327_2
        replace hx327_3 := (HB.out.cell (World.block_lt_of_cell? w _ hx327_3)).trans hx327_3
        replace hx327_4 := (HB.out.cell (World.block_lt_of_cell? w _ hx327_4)).trans hx327_4
        replace p327 := eq_true p327
        replace q327 := eq_true q327
        refine start_ (n := 10) (S := fun w' => w'.cell? (ad326.add ((x5_1).toNat * 5)) = some (.int .i64 ((rd_T56 l0 x5_1).f0)) ∧ w'.cell? ⟨(ad326.add ((x5_1).toNat * 5)).block, (ad326.add ((x5_1).toNat * 5)).off + 1, none⟩ = some (.int .i64 ((rd_T56 l0 x5_1).f1)) ∧ w'.cell? ⟨(ad326.add ((x5_1).toNat * 5)).block, (ad326.add ((x5_1).toNat * 5)).off + 2, none⟩ = some (.string ((rd_T56 l0 x5_1).f2)) ∧ w'.cell? ⟨(ad326.add ((x5_1).toNat * 5)).block, (ad326.add ((x5_1).toNat * 5)).off + 3, none⟩ = some (.string ((rd_T56 l0 x5_1).f3)) ∧ w'.cell? ⟨(ad326.add ((x5_1).toNat * 5)).block, (ad326.add ((x5_1).toNat * 5)).off + 4, none⟩ = some (.int .i64 ((rd_T56 l0 x5_1).f4)) ∧ w'.cell? (ad327.add ((x5_1).toNat * 5)) = some (.int .i64 ((rd_T56 l1 x5_1).f0)) ∧ w'.cell? ⟨(ad327.add ((x5_1).toNat * 5)).block, (ad327.add ((x5_1).toNat * 5)).off + 1, none⟩ = some (.int .i64 ((rd_T56 l1 x5_1).f1)) ∧ w'.cell? ⟨(ad327.add ((x5_1).toNat * 5)).block, (ad327.add ((x5_1).toNat * 5)).off + 2, none⟩ = some (.string ((rd_T56 l1 x5_1).f2)) ∧ w'.cell? ⟨(ad327.add ((x5_1).toNat * 5)).block, (ad327.add ((x5_1).toNat * 5)).off + 3, none⟩ = some (.string ((rd_T56 l1 x5_1).f3)) ∧ w'.cell? ⟨(ad327.add ((x5_1).toNat * 5)).block, (ad327.add ((x5_1).toNat * 5)).off + 4, none⟩ = some (.int .i64 ((rd_T56 l1 x5_1).f4))) (ds := []) #[false, false, false, false, false, false, false, false, false, false] (by kernel_rfl) rfl rfl ⟨((HB.out.cell (World.block_lt_of_cell? w _ hw326_0)).trans hw326_0), ((HB.out.cell (World.block_lt_of_cell? w _ hw326_1)).trans hw326_1), ((HB.out.cell (World.block_lt_of_cell? w _ hw326_2)).trans hw326_2), ((HB.out.cell (World.block_lt_of_cell? w _ hw326_3)).trans hw326_3), ((HB.out.cell (World.block_lt_of_cell? w _ hw326_4)).trans hw326_4), ((HB.out.cell (World.block_lt_of_cell? w _ hw327_0)).trans hw327_0), ((HB.out.cell (World.block_lt_of_cell? w _ hw327_1)).trans hw327_1), ((HB.out.cell (World.block_lt_of_cell? w _ hw327_2)).trans hw327_2), ((HB.out.cell (World.block_lt_of_cell? w _ hw327_3)).trans hw327_3), ((HB.out.cell (World.block_lt_of_cell? w _ hw327_4)).trans hw327_4)⟩ (fun hHeld => ?_); refine with_tabW laws_eqChangeS.tab6 laws_eqChangeS.bits6 (fun HT_ HW_ => ?_)
        generalize wr.drew = w11 at HB hx326_0 hx326_1 hx326_2 hx326_3 hx326_4 hx327_0 hx327_1 hx327_2 hx327_3 hx327_4 hHeld ⊢
        refine pureA 0 17 (bz 10 1) rfl rfl (any_of HT_.out (by kernel_rfl)) ?_
        refine pureA 1 18 (bz 10 3) rfl rfl (any_of HT_.out (by kernel_rfl)) ?_
        refine pureA 2 19 (bz 10 7) rfl rfl (any_of HT_.out (by kernel_rfl)) ?_
        refine pureA 4 21 (bz 10 23) rfl rfl (any_of HT_.out (by kernel_rfl)) ?_
        refine pureA 5 22 (bz 10 55) rfl rfl (any_of HT_.out (by kernel_rfl)) ?_
        refine pureA 6 23 (bz 10 119) rfl rfl (any_of HT_.out (by kernel_rfl)) ?_
        refine takeA 3 20 (bz 10 127) rfl rfl (take_ofW HT_.out HW_.out (by kernel_rfl)) hHeld (by rintro w' ⟨s0, s1, s2, s3, s4, s5, s6, s7, s8, s9⟩; go_simp; with_reducible rfl) ?_
        refine takeA 7 24 (bz 10 255) rfl rfl (take_ofW HT_.out HW_.out (by kernel_rfl)) hHeld (by rintro w' ⟨s0, s1, s2, s3, s4, s5, s6, s7, s8, s9⟩; go_simp; with_reducible rfl) ?_
        refine one_ (i := 8) (N := some 25) (bz 10 511) rfl rfl (one_of HT_.out (by kernel_rfl)) (by decide) (fun K hK => ?_)
        refine goes_ Try.func41 (by kernel_rfl) rfl #[.agg #[.int .i64 ((rd_T56 l0 x5_1).f0), .int .i64 ((rd_T56 l0 x5_1).f1), .string ((rd_T56 l0 x5_1).f2), .string ((rd_T56 l0 x5_1).f3), .int .i64 ((rd_T56 l0 x5_1).f4)], .agg #[.int .i64 ((rd_T56 l1 x5_1).f0), .int .i64 ((rd_T56 l1 x5_1).f1), .string ((rd_T56 l1 x5_1).f2), .string ((rd_T56 l1 x5_1).f3), .int .i64 ((rd_T56 l1 x5_1).f4)]] (by rfl) rfl rfl aE ?_
        with_reducible refine (laws_eqChange.calls ((rd_T56 l0 x5_1).f0) ((rd_T56 l0 x5_1).f1) ((rd_T56 l0 x5_1).f2) ((rd_T56 l0 x5_1).f3) ((rd_T56 l0 x5_1).f4) ((rd_T56 l1 x5_1).f0) ((rd_T56 l1 x5_1).f1) ((rd_T56 l1 x5_1).f2) ((rd_T56 l1 x5_1).f3) ((rd_T56 l1 x5_1).f4) false _ A7.out).mono ?_
        rintro e w12 ⟨rfl, hb⟩
        refine ⟨_, rfl, ?_⟩
        replace HB := bH (lU) hb
        (try clear hb)
        (try clear hb2)
        (try clear hk)
        (try clear hi)
        refine hK.out _ _ ⟨((HB.out.cell (World.block_lt_of_cell? w _ hw326_0)).trans hw326_0), ((HB.out.cell (World.block_lt_of_cell? w _ hw326_1)).trans hw326_1), ((HB.out.cell (World.block_lt_of_cell? w _ hw326_2)).trans hw326_2), ((HB.out.cell (World.block_lt_of_cell? w _ hw326_3)).trans hw326_3), ((HB.out.cell (World.block_lt_of_cell? w _ hw326_4)).trans hw326_4), ((HB.out.cell (World.block_lt_of_cell? w _ hw327_0)).trans hw327_0), ((HB.out.cell (World.block_lt_of_cell? w _ hw327_1)).trans hw327_1), ((HB.out.cell (World.block_lt_of_cell? w _ hw327_2)).trans hw327_2), ((HB.out.cell (World.block_lt_of_cell? w _ hw327_3)).trans hw327_3), ((HB.out.cell (World.block_lt_of_cell? w _ hw327_4)).trans hw327_4)⟩ (fun hHeld => ?_)
        clear hK K
        refine norm_ (a' := ?_) ?_ ?_
        rotate_left
        ·show Act.put _ (some 25) _ = _
         simp only [Act.put, List.setIfInBounds_toArray, List.set_cons_zero, List.set_cons_succ, i64_w, i32_w]
         rfl
        refine pureA 9 26 (bz 10 1023) rfl rfl (any_of HT_.out (by kernel_rfl)) ?_
        refine done_ (done_of HT_.out (by kernel_rfl)) ?_
        try go_wp2
        go_ret
        exact ⟨eE, lU⟩
      ·rw [if_neg c6] at H
       exact absurd H (by simp)
     ·rw [if_neg c5] at H
      exact absurd H (by simp)
    ·rw [if_neg c4] at H
     have c4b0 : decide (x5_1 < (l0.length : Int)) = false := decide_eq_false c4
     clear c4
     obtain rfl := Option.some.inj H
     go_wp2
     go_ret
     exact ⟨eE, lU⟩
 ·rw [if_neg c3] at H
  have c3b0 : ((l0.length : Int) == (l1.length : Int)) = false := beq_eq_false_iff_ne.mpr c3
  have c3b1 : ((l0.length : Int) != (l1.length : Int)) = true := bne_iff_ne.mpr c3
  have c3b2 : (l0.length == l1.length) = false := by first | simpa using c3 | (simp at c3 ⊢; omega)
  obtain rfl := Option.some.inj H
  go_enter Try.func13, Try.ntmps13
  go_wp2
  go_ret
  exact ⟨eE, lU⟩
end Go.Proofs.Ytdgaphefgpjbfaa.PFnExactMigrateSave
namespace Go.Proofs.Ytdgaphefgpjbfaa.PFnExactMigrateSave
open Go.RowKit Go.Proofs.YtdgaphefgpjbfaaW.PrintWords Go.Proofs.YtdgaphefgpjbfaaW.PrintLast Go.Proofs.YtdgaphefgpjbfaaW.PrintMore
attribute [local go_sem] max2_int min2_int max_two min_two max_three min_three max_four min_four   -- for this text's walks alone
set_option linter.unusedVariables false
set_option linter.unusedSimpArgs false
def laws_markText.l0 : Nat → Int → ByteArray → Option (ByteArray)
 | 0, _, _ => none
 | k + 1, x0, x3 => if x0 > 0 then ((some (([(wrap64 (48 + (Int.tmod x0 10))) % 256] : List Int) : List Int)).bind fun y329 => (if (strOfNums y329).size + x3.size ≤ 9223372036854775807 then (laws_markText.l0 k (wrap64 (Int.tdiv x0 10)) ((strOfNums y329) ++ x3)) else (none))) else (if 1 + x3.size ≤ 9223372036854775807 then (some ((⟨#[109]⟩ : ByteArray) ++ x3)) else (none))
def laws_markText.f (k : Nat) (a0 : Int) : Option (ByteArray) := if a0 ≤ 0 then (some (⟨#[109, 48]⟩ : ByteArray)) else (laws_markText.l0 k a0 (⟨#[]⟩ : ByteArray))
theorem laws_markText.mono_l : ∀ k, (∀ y0 y1, LeO (laws_markText.l0 k y0 y1) (laws_markText.l0 (k + 1) y0 y1))
 | 0 => fun _ _ r h => by simp [laws_markText.l0] at h
 | k + 1 => by
  have ih0 := laws_markText.mono_l k
  ·intro y0 y1
   unfold laws_markText.l0
   repeat' first
   | (with_reducible exact ih0 _ _)
   | (with_reducible first | exact LeO.refl _ | exact LeO.none _ | refine LeO.ite ?_ ?_ | refine LeO.bind ?_ (fun _ => ?_))
   | exact ih0 _ _ | exact LeO.none _ | refine LeO.ite ?_ ?_ | refine LeO.bind ?_ (fun _ => ?_)
theorem laws_markText.mono : ∀ a0 k, LeO (laws_markText.f k a0) (laws_markText.f (k + 1) a0) := by
 intro a0 k
 have ih0 := laws_markText.mono_l k
 unfold laws_markText.f
 repeat' first
   | (with_reducible exact ih0 _ _)
   | (with_reducible first | exact LeO.refl _ | exact LeO.none _ | refine LeO.ite ?_ ?_ | refine LeO.bind ?_ (fun _ => ?_))
   | exact ih0 _ _ | exact LeO.none _ | refine LeO.ite ?_ ?_ | refine LeO.bind ?_ (fun _ => ?_)
set_option maxHeartbeats 8000000 in
set_option maxRecDepth 100000 in
theorem laws_markText.calls (k : Nat) (a0 : Int) (r : ByteArray) (w : World) (h : laws_markText.f k a0 = some r) :
  Calls Try.prog 42 #[.int .i64 a0] w fun e w' => e = .returned (.string r) ∧ Below w.heap.size w w' := by
 have HB := Aside0.mk (Below.refl w.heap.size w)
 have H : (if a0 ≤ 0 then (some (⟨#[109, 48]⟩ : ByteArray)) else (laws_markText.l0 k a0 (⟨#[]⟩ : ByteArray))) = some r := h
 clear h
 by_cases c2 : a0 ≤ 0
 ·rw [if_pos c2] at H
  have c2b0 : decide (a0 ≤ 0) = true := decide_eq_true c2
  clear c2
  obtain rfl := Option.some.inj H
  go_enter Try.func42, Try.ntmps42
  go_wp2
  go_ret
  exact ⟨eE, lU⟩
 ·rw [if_neg c2] at H
  have c2b0 : decide (a0 ≤ 0) = false := decide_eq_false c2
  clear c2
  have H' := Aside0.mk H
  clear H
  go_enter Try.func42, Try.ntmps42
  go_wp2
  go_loopg [0, 3] k (fun kq v0 v3 w' => ∃ (x0_1 : Int) (x3_1 : ByteArray), v0 = .int .i64 x0_1 ∧ v3 = .string x3_1 ∧ Aside0 (laws_markText.l0 kq x0_1 x3_1 = some r) ∧ Aside0 (kq ≤ k) ∧ Aside0 (Below w.heap.size w w'))
  case atStart => exact ⟨(a0), ((⟨#[]⟩ : ByteArray)), tE, tE, H', ⟨Nat.le_refl _⟩, ⟨by repeat (first | (with_reducible first | exact HB.out | apply below_alloc | apply pw_below_drewN | apply below_drew1) | exact HB.out)⟩⟩
  case round =>
   clear H'
   try clear c2
   try clear c2b0
   try clear p2
   obtain ⟨x0_1, x3_1, rfl, rfl, HA, HK1, HB⟩ := hrel
   cases gk with
   | zero => exact absurd HA.out (by simp [laws_markText.l0])
   | succ k1 =>
    have H := HA.out
    clear HA
    simp only [laws_markText.l0] at H
    by_cases c3 : x0_1 > 0
    ·rw [if_pos c3] at H
     have c3b0 : decide (0 < x0_1) = true := decide_eq_true c3
     clear c3
     obtain ⟨y329, hy329⟩ : ∃ y_ : List Int, y_ = (([(wrap64 (48 + (Int.tmod x0_1 10))) % 256] : List Int)) := ⟨_, rfl⟩
     replace H : (if (strOfNums y329).size + x3_1.size ≤ 9223372036854775807 then (laws_markText.l0 k1 (wrap64 (Int.tdiv x0_1 10)) ((strOfNums y329) ++ x3_1)) else (none)) = some r := by first | (rw [hy329]; with_reducible exact H) | (have H2_ := (Option.bind_some _ _).symm.trans H; rw [hy329]; with_reducible exact H2_) | (have H2_ := (Option.bind_some _ _).symm.trans H; with_reducible exact H2_) | with_reducible exact H | (rw [hy329]; exact H) | exact H
     have Ny329 := Aside0.mk hy329
     clear hy329
     by_cases c4 : (strOfNums y329).size + x3_1.size ≤ 9223372036854775807
     ·rw [if_pos c4] at H
      have c4b0 := eq_true c4
      have c4b1 : decide ((strOfNums y329).size + x3_1.size ≤ 9223372036854775807) = true := decide_eq_true c4
      try have c4b2 : (9223372036854775807 < (strOfNums y329).size + x3_1.size) = False := eq_false (Nat.not_lt.2 c4)
      have H' := Aside0.mk H
      clear H
      go_wp2_with (first | ((with_reducible refine gate_dst (N := 12) rfl ?_); refine Kd.R_lit (Kd.int .u8) _ 5 ?hg (N := 12) ?hd (xs := ([(wrap64 (48 + (Int.tmod x0_1 10))) % 256] : List Int)) (inner := [.int .u8 ((wrap64 (48 + (Int.tmod x0_1 10))) % 256)]) (ok := fun _ => True) (okp := fun _ => True) ?hr ?hp (fun _ hk => hk) trivial (Below.refl _ _) (Nat.le_refl _) (by simp) ?_; (case hd => rfl); (case hg => rfl); (case hr => exact sE); (case hp => exact (Reps.one (show Kd.M (Kd.int .u8) _ _ _ ((wrap64 (48 + (Int.tmod x0_1 10))) % 256) [.int .u8 ((wrap64 (48 + (Int.tmod x0_1 10))) % 256)] from rfl) (Reps.none _ _))); intro v330 w5 ho6 hb hg_ hnew_; clear hg_ hnew_; (first | rw [← Ny329.out] at ho6 | (simp only [Int.reduceToNat] at ho6; rw [← Ny329.out] at ho6)); have HO331 := Aside0.mk (Kd.R_lower ho6 (below_size (lU))); replace HB := bH (lU) hb; clear hb ho6; have hcv7 := own_string (P := Try.prog) Try.underlying37 Try.underlying5 Try.underlying9 (Kd.own_of_R HO331.out)))
      go_roundg k1
      case measure => have := HK1.out; omega
      case rel => exact ⟨(wrap64 (Int.tdiv x0_1 10)), ((strOfNums y329) ++ x3_1), tE, tE, H', ⟨by have := HK1.out; omega⟩, ⟨by repeat (first | (with_reducible first | exact HB.out | apply below_alloc | apply pw_below_drewN | apply below_drew1) | exact HB.out)⟩⟩
     ·rw [if_neg c4] at H
      exact absurd H (by simp)
    ·rw [if_neg c3] at H
     have c3b0 : decide (0 < x0_1) = false := decide_eq_false c3
     clear c3
     by_cases c8 : 1 + x3_1.size ≤ 9223372036854775807
     ·rw [if_pos c8] at H
      have c8b0 := eq_true c8
      have c8b1 : decide (1 + x3_1.size ≤ 9223372036854775807) = true := decide_eq_true c8
      try have c8b2 : (9223372036854775807 < 1 + x3_1.size) = False := eq_false (Nat.not_lt.2 c8)
      obtain rfl := Option.some.inj H
      go_wp2
      go_ret
      exact ⟨eE, lU⟩
     ·rw [if_neg c8] at H
      exact absurd H (by simp)
def laws_markValueS.l0 : Nat → List (S59) → Int → Int → Option (Int × (List (S59)))
 | 0, _, _, _ => none
 | k + 1, x0, x1, x5 => if x5 < (x0.length : Int) then ((laws_markText.f k x1).bind fun t332 => (if 0 ≤ x5 then ((some (x0.set (x5 : Int).toNat (⟨t332, (rd_T59 x0 x5).f1, (rd_T59 x0 x5).f2⟩ : S59) : List (S59))).bind fun y333 => ((some (y333.set (x5 : Int).toNat (⟨(rd_T59 y333 x5).f0, wrap64 (x1 + 1), (rd_T59 y333 x5).f2⟩ : S59) : List (S59))).bind fun y334 => ((laws_markText.f k (wrap64 ((wrap64 (x1 + 1)) + 1))).bind fun t335 => (laws_markValueS.l0 k (y334.set (x5 : Int).toNat (⟨(rd_T59 y334 x5).f0, (rd_T59 y334 x5).f1, t335⟩ : S59)) (wrap64 ((wrap64 ((wrap64 (x1 + 1)) + 1)) + 1)) (wrap64 (x5 + 1)))))) else (none))) else (some (x1, x0))
def laws_markValueS.f (k : Nat) (l0 : List (S59)) (a1 : Int) : Option (Int × (List (S59))) := laws_markValueS.l0 k l0 a1 0
theorem laws_markValueS.mono_l : ∀ k, (∀ y0 y1 y2, LeO (laws_markValueS.l0 k y0 y1 y2) (laws_markValueS.l0 (k + 1) y0 y1 y2))
 | 0 => fun _ _ _ r h => by simp [laws_markValueS.l0] at h
 | k + 1 => by
  have ih0 := laws_markValueS.mono_l k
  ·intro y0 y1 y2
   unfold laws_markValueS.l0
   repeat' first
   | (with_reducible exact ih0 _ _ _)
   | (with_reducible exact laws_markText.mono _ _)
   | (with_reducible first | exact LeO.refl _ | exact LeO.none _ | refine LeO.ite ?_ ?_ | refine LeO.bind ?_ (fun _ => ?_))
   | exact ih0 _ _ _
   | exact laws_markText.mono _ _ | exact LeO.none _ | refine LeO.ite ?_ ?_ | refine LeO.bind ?_ (fun _ => ?_)
theorem laws_markValueS.mono : ∀ a0 a1 k, LeO (laws_markValueS.f k a0 a1) (laws_markValueS.f (k + 1) a0 a1) := by
 intro a0 a1 k
 have ih0 := laws_markValueS.mono_l k
 unfold laws_markValueS.f
 repeat' first
   | (with_reducible exact ih0 _ _ _)
   | (with_reducible exact laws_markText.mono _ _)
   | (with_reducible first | exact LeO.refl _ | exact LeO.none _ | refine LeO.ite ?_ ?_ | refine LeO.bind ?_ (fun _ => ?_))
   | exact ih0 _ _ _
   | exact laws_markText.mono _ _ | exact LeO.none _ | refine LeO.ite ?_ ?_ | refine LeO.bind ?_ (fun _ => ?_)
set_option maxHeartbeats 8000000 in
set_option maxRecDepth 100000 in
theorem laws_markValueS.calls (k : Nat) (P0_ : Nat → Prop) (u9000_ : Value) (l0 : List (S59)) (a1 : Int) (r1 : Int) (r2 : List (S59)) (w0 w : World) (hB : Below w0.heap.size w0 w) (ho0 : Kd.R k59 59 w w0.heap.size P0_ u9000_ l0) (h : laws_markValueS.f k l0 a1 = some (r1, r2)) :
  Calls Try.prog 14 #[u9000_, .int .i64 a1] w fun e w' => e = .returned (.int .i64 r1) ∧ Kd.R k59 59 w' w0.heap.size (fun k_ => (P0_ k_ ∨ w.heap.size ≤ k_)) u9000_ r2 ∧ Below w0.heap.size w0 w' ∧ Kept w w' (fun k_ => P0_ k_) := by
 have HO0 := Aside0.mk (show Kd.R k59 59 w w0.heap.size (fun k_ => (P0_ k_ ∨ w.heap.size ≤ k_)) u9000_ l0 from Kd.R_mono ho0 (fun k_ hk => (.inl hk)))
 have HK := Aside0.mk (Kept.refl w (fun k_ => P0_ k_))
 have HW0 := Aside0.mk hB.size
 have HB := Aside0.mk hB
 clear hB
 have H : (laws_markValueS.l0 k l0 a1 0) = some (r1, r2) := h
 clear h
 have H' := Aside0.mk H
 clear H
 go_enter Try.func14, Try.ntmps14
 go_wp2
 go_loopg [1, 5] k (fun kq v1 v5 w' => ∃ (x0_1 : List (S59)) (x1_1 : Int) (x5_1 : Int), v1 = .int .i64 x1_1 ∧ v5 = .int .i64 x5_1 ∧ Aside0 (laws_markValueS.l0 kq x0_1 x1_1 x5_1 = some (r1, r2)) ∧ Aside0 (kq ≤ k) ∧ Aside0 (Kd.R k59 59 w' w0.heap.size (fun k_ => (P0_ k_ ∨ w.heap.size ≤ k_)) u9000_ x0_1) ∧ Aside0 (Kept w w' (fun k_ => P0_ k_)) ∧ Aside0 (Below w0.heap.size w0 w'))
 case atStart => exact ⟨(l0), (a1), (0), tE, tE, H', ⟨Nat.le_refl _⟩, ⟨by (with_reducible repeat (first | apply Kd.R_alloc | apply Kd.R_drewN | apply Kd.R_drew)); exact HO0.out⟩, ⟨by repeat (first | (with_reducible first | exact HK.out | apply Kept.alloc | apply Kept.drewN | apply Kept.drew) | exact HK.out)⟩, ⟨by repeat (first | (with_reducible first | exact HB.out | apply below_alloc | apply pw_below_drewN | apply below_drew1) | exact HB.out)⟩⟩
 case round =>
  clear H'
  try clear c1
  try clear p2
  obtain ⟨x0_1, x1_1, x5_1, rfl, rfl, HA, HK1, HO_0, HK, HB⟩ := hrel
  cases gk with
  | zero => exact absurd HA.out (by simp [laws_markValueS.l0])
  | succ k1 =>
   have H := HA.out
   clear HA
   simp only [laws_markValueS.l0] at H
   by_cases c3 : x5_1 < (x0_1.length : Int)
   ·rw [if_pos c3] at H
    have c3b0 : decide (x5_1 < (x0_1.length : Int)) = true := decide_eq_true c3
    clear c3
    replace H := Option.bind_eq_some_iff.mp H
    obtain ⟨t332, A40, H⟩ := H
    replace H : (if 0 ≤ x5_1 then ((some (x0_1.set (x5_1 : Int).toNat (⟨t332, (rd_T59 x0_1 x5_1).f1, (rd_T59 x0_1 x5_1).f2⟩ : S59) : List (S59))).bind fun y333 => ((some (y333.set (x5_1 : Int).toNat (⟨(rd_T59 y333 x5_1).f0, wrap64 (x1_1 + 1), (rd_T59 y333 x5_1).f2⟩ : S59) : List (S59))).bind fun y334 => ((laws_markText.f k1 (wrap64 ((wrap64 (x1_1 + 1)) + 1))).bind fun t335 => (laws_markValueS.l0 k1 (y334.set (x5_1 : Int).toNat (⟨(rd_T59 y334 x5_1).f0, (rd_T59 y334 x5_1).f1, t335⟩ : S59)) (wrap64 ((wrap64 ((wrap64 (x1_1 + 1)) + 1)) + 1)) (wrap64 (x5_1 + 1)))))) else (none)) = some (r1, r2) := H
    have A4 := Aside0.mk A40
    clear A40
    by_cases c5 : 0 ≤ x5_1
    ·rw [if_pos c5] at H
     have c5b0 : decide (0 ≤ x5_1) = true := decide_eq_true c5
     clear c5
     obtain ⟨y333, hy333⟩ : ∃ y_ : List (S59), y_ = (x0_1.set (x5_1 : Int).toNat (⟨t332, (rd_T59 x0_1 x5_1).f1, (rd_T59 x0_1 x5_1).f2⟩ : S59)) := ⟨_, rfl⟩
     replace H : ((some (y333.set (x5_1 : Int).toNat (⟨(rd_T59 y333 x5_1).f0, wrap64 (x1_1 + 1), (rd_T59 y333 x5_1).f2⟩ : S59) : List (S59))).bind fun y334 => ((laws_markText.f k1 (wrap64 ((wrap64 (x1_1 + 1)) + 1))).bind fun t335 => (laws_markValueS.l0 k1 (y334.set (x5_1 : Int).toNat (⟨(rd_T59 y334 x5_1).f0, (rd_T59 y334 x5_1).f1, t335⟩ : S59)) (wrap64 ((wrap64 ((wrap64 (x1_1 + 1)) + 1)) + 1)) (wrap64 (x5_1 + 1))))) = some (r1, r2) := by first | (rw [hy333]; with_reducible exact H) | (have H2_ := (Option.bind_some _ _).symm.trans H; rw [hy333]; with_reducible exact H2_) | (have H2_ := (Option.bind_some _ _).symm.trans H; with_reducible exact H2_) | with_reducible exact H | (rw [hy333]; exact H) | exact H
     have Ny333 := Aside0.mk hy333
     clear hy333
     obtain ⟨y334, hy334⟩ : ∃ y_ : List (S59), y_ = (y333.set (x5_1 : Int).toNat (⟨(rd_T59 y333 x5_1).f0, wrap64 (x1_1 + 1), (rd_T59 y333 x5_1).f2⟩ : S59)) := ⟨_, rfl⟩
     replace H : ((laws_markText.f k1 (wrap64 ((wrap64 (x1_1 + 1)) + 1))).bind fun t335 => (laws_markValueS.l0 k1 (y334.set (x5_1 : Int).toNat (⟨(rd_T59 y334 x5_1).f0, (rd_T59 y334 x5_1).f1, t335⟩ : S59)) (wrap64 ((wrap64 ((wrap64 (x1_1 + 1)) + 1)) + 1)) (wrap64 (x5_1 + 1)))) = some (r1, r2) := by first | (rw [hy334]; with_reducible exact H) | (have H2_ := (Option.bind_some _ _).symm.trans H; rw [hy334]; with_reducible exact H2_) | (have H2_ := (Option.bind_some _ _).symm.trans H; with_reducible exact H2_) | with_reducible exact H | (rw [hy334]; exact H) | exact H
     have Ny334 := Aside0.mk hy334
     clear hy334
     replace H := Option.bind_eq_some_iff.mp H
     obtain ⟨t335, A80, H⟩ := H
     replace H : (laws_markValueS.l0 k1 (y334.set (x5_1 : Int).toNat (⟨(rd_T59 y334 x5_1).f0, (rd_T59 y334 x5_1).f1, t335⟩ : S59)) (wrap64 ((wrap64 ((wrap64 (x1_1 + 1)) + 1)) + 1)) (wrap64 (x5_1 + 1))) = some (r1, r2) := H
     have A8 := Aside0.mk A80
     clear A80
     obtain ⟨y336, hy336⟩ : ∃ y_ : List (S59), y_ = (y334.set (x5_1 : Int).toNat (⟨(rd_T59 y334 x5_1).f0, (rd_T59 y334 x5_1).f1, t335⟩ : S59)) := ⟨_, rfl⟩
     replace H : (laws_markValueS.l0 k1 y336 (wrap64 ((wrap64 ((wrap64 (x1_1 + 1)) + 1)) + 1)) (wrap64 (x5_1 + 1))) = some (r1, r2) := by first | (rw [hy336]; with_reducible exact H) | (have H2_ := (Option.bind_some _ _).symm.trans H; rw [hy336]; with_reducible exact H2_) | (have H2_ := (Option.bind_some _ _).symm.trans H; with_reducible exact H2_) | with_reducible exact H | (rw [hy336]; exact H) | exact H
     have Ny336 := Aside0.mk hy336
     clear hy336
     have H' := Aside0.mk H
     clear H
     obtain ⟨Ao10, co10, eo10⟩ := Kd.R_slice HO_0.out
     subst eo10
     go_wp2_with (first | ((with_reducible refine gate_callee (f := 42) rfl ?_); refine goesL_ (some 15) rfl rfl Try.func42 (by kernel_rfl) rfl #[.int .i64 x1_1] rfl aE ?_; (with_reducible refine (laws_markText.calls k1 x1_1 t332 _ A4.out).mono ?_); rintro e w11 ⟨rfl, hb⟩; refine ⟨_, rfl, ?_⟩; replace HO_0 := Aside0.mk (Kd.R_below (rU HO_0.out) hb); replace HK := Aside0.mk (Kept.below (S := (fun k_ => P0_ k_)) (by repeat (first | (with_reducible first | exact HK.out | apply Kept.alloc | apply Kept.drewN | apply Kept.drew) | exact HK.out)) hb); replace HB := bH (lU) hb; (try clear hb); have p6 : 0 ≤ (x5_1 : Int) := of_decide_eq_true hE; have q6 : (x5_1 : Int) < ((x0_1.length : Int) : Int) := of_decide_eq_true hE; obtain ⟨go6, co6, eo6, gb6, gl6, cl6, HG6⟩ := Kd.R_form HO_0.out (by omega); (first | cases eo6 | (injection eo6 with ea_ en_ ec_; (first | subst ea_ | (injection ea_ with ea_; subst ea_)); subst ec_; clear en_)); have GB6 := Aside0.mk gb6; have GG6 := Aside0.mk HG6; clear gb6 gl6 HG6; have HMgo6 := Aside0.mk (show (P0_ go6 ∨ w.heap.size ≤ go6) from (HO_0.out.1 _ rfl)); obtain ⟨ce6, hcl6, hM6, hcc6, hfr6⟩ := Kd.R_elem HO_0.out z59 (x5_1 : Int) p6 q6; obtain rfl := k59_openM hM6; have hx6_0 : w11.cell? ⟨go6, (x5_1 : Int).toNat * 3, none⟩ = some (.string ((rd_T59 x0_1 x5_1).f0)) := hcc6 0 _ rfl; have hx6_1 : w11.cell? ⟨go6, (x5_1 : Int).toNat * 3 + 1, none⟩ = some (.int .i64 ((rd_T59 x0_1 x5_1).f1)) := hcc6 1 _ rfl; have hx6_2 : w11.cell? ⟨go6, (x5_1 : Int).toNat * 3 + 2, none⟩ = some (.string ((rd_T59 x0_1 x5_1).f2)) := hcc6 2 _ rfl; have hf6_0 : w11.frozen? ⟨go6, (x5_1 : Int).toNat * 3, none⟩ = false := hfr6 0; have hf6_1 : w11.frozen? ⟨go6, (x5_1 : Int).toNat * 3 + 1, none⟩ = false := hfr6 1; have hf6_2 : w11.frozen? ⟨go6, (x5_1 : Int).toNat * 3 + 2, none⟩ = false := hfr6 2; (try clear hcl6); (try clear hcc6); (try clear hfr6); (try clear hM6); replace p6 := eq_true p6; replace q6 := eq_true q6; have HX12 := Aside0.mk (show Kd.R k59 59 w11 w0.heap.size (fun k_ => (P0_ k_ ∨ w.heap.size ≤ k_)) (.slice (some ⟨go6, 0, none⟩) x0_1.length co10) x0_1 from (rU HO_0.out)); obtain ⟨ce12, hcl12, hM12, hcc12, hfr12⟩ := Kd.R_elem HX12.out z59 (x5_1 : Int) (of_decide_eq_true hE) (by have h_ : (x5_1 : Int) < ((x0_1.length : Int) : Int) := of_decide_eq_true hE; first | exact h_ | (have e_ := (Kd.R_reads' HO_0.out).1; omega) | simpa using h_); obtain rfl := k59_openM hM12; have HP12 := Kd.R_seg HX12.out (x5_1 : Int) (of_decide_eq_true hE) (by have h_ : (x5_1 : Int) < ((x0_1.length : Int) : Int) := of_decide_eq_true hE; first | exact h_ | (have e_ := (Kd.R_reads' HO_0.out).1; omega) | simpa using h_) (seg := [.string t332]) (j := 0) hcl12 hcc12 (show 1 ≤ 3 from by decide) (x' := (⟨t332, (rd_T59 x0_1 x5_1).f1, (rd_T59 x0_1 x5_1).f2⟩ : S59)) (k59_mkM _ _ _ (⟨t332, (rd_T59 x0_1 x5_1).f1, (rd_T59 x0_1 x5_1).f2⟩ : S59) ) (fun _ hk => hk); have hx12_0 := hcc12 0 _ rfl; (try simp only [show (k59).sz = 3 from rfl, Nat.mul_one, Nat.add_zero] at hx12_0); have hf12_0 := hfr12 0; (try simp only [show (k59).sz = 3 from rfl, Nat.mul_one, Nat.add_zero] at hf12_0); (try clear hcl12); (try clear hcc12); (try clear hfr12); (try clear hM12)) | ((with_reducible refine gate_store (t := 9) (p := 17) rfl ?_); refine store_event (t := 9) (p := 17) (v := ?vo_w13) (w1 := (w11.setCell ⟨go6, (x5_1 : Int).toNat * 3, none⟩ (.string t332))) ?hg ?ho ?hn ?hr ?_; (case ho => rfl); (case hg => rfl); (case hn => rfl); (case hr => exact sE); intro w13 hw; have hg : w11.grownBy w13 (some go6) := (by rw [hw]; exact HP12.2); have hp_ : Kd.R k59 59 w13 w0.heap.size (fun k_ => (P0_ k_ ∨ w.heap.size ≤ k_)) (.slice (some ⟨go6, 0, none⟩) x0_1.length co10) y333 := (by rw [hw, Ny333.out]; exact HP12.1); clear HP12; replace HB := Aside0.mk ((by rw [hw]; exact below_set (HB.out) GB6.out : Below w0.heap.size w0 w13)); replace HK := Aside0.mk (Kept.of_grown (S := (fun k_ => P0_ k_)) hg (by repeat (first | (with_reducible first | exact HK.out | apply Kept.alloc | apply Kept.drewN | apply Kept.drew) | exact HK.out)) (fun k_ e_ => (HO_0.out.1 k_ e_))); replace HO_0 := Aside0.mk hp_; clear hg hw hp_; have p7 : 0 ≤ (x5_1 : Int) := of_decide_eq_true hE; have q7 : (x5_1 : Int) < ((x0_1.length : Int) : Int) := of_decide_eq_true hE; obtain ⟨ce7, hcl7, hM7, hcc7, hfr7⟩ := Kd.R_elem HO_0.out z59 (x5_1 : Int) p7 q7; obtain rfl := k59_openM hM7; have hx7_0 : w13.cell? ⟨go6, (x5_1 : Int).toNat * 3, none⟩ = some (.string ((rd_T59 y333 x5_1).f0)) := hcc7 0 _ rfl; have hx7_1 : w13.cell? ⟨go6, (x5_1 : Int).toNat * 3 + 1, none⟩ = some (.int .i64 ((rd_T59 y333 x5_1).f1)) := hcc7 1 _ rfl; have hx7_2 : w13.cell? ⟨go6, (x5_1 : Int).toNat * 3 + 2, none⟩ = some (.string ((rd_T59 y333 x5_1).f2)) := hcc7 2 _ rfl; have hf7_0 : w13.frozen? ⟨go6, (x5_1 : Int).toNat * 3, none⟩ = false := hfr7 0; have hf7_1 : w13.frozen? ⟨go6, (x5_1 : Int).toNat * 3 + 1, none⟩ = false := hfr7 1; have hf7_2 : w13.frozen? ⟨go6, (x5_1 : Int).toNat * 3 + 2, none⟩ = false := hfr7 2; (try clear hcl7); (try clear hcc7); (try clear hfr7); (try clear hM7); replace p7 := eq_true p7; replace q7 := eq_true q7; have HX14 := Aside0.mk (show Kd.R k59 59 w13 w0.heap.size (fun k_ => (P0_ k_ ∨ w.heap.size ≤ k_)) (.slice (some ⟨go6, 0, none⟩) x0_1.length co10) y333 from (rU HO_0.out)); obtain ⟨ce14, hcl14, hM14, hcc14, hfr14⟩ := Kd.R_elem HX14.out z59 (x5_1 : Int) (of_decide_eq_true hE) (by have h_ : (x5_1 : Int) < ((x0_1.length : Int) : Int) := of_decide_eq_true hE; first | exact h_ | (have e_ := (Kd.R_reads' HO_0.out).1; omega) | simpa using h_); obtain rfl := k59_openM hM14; have HP14 := Kd.R_seg HX14.out (x5_1 : Int) (of_decide_eq_true hE) (by have h_ : (x5_1 : Int) < ((x0_1.length : Int) : Int) := of_decide_eq_true hE; first | exact h_ | (have e_ := (Kd.R_reads' HO_0.out).1; omega) | simpa using h_) (seg := [.int .i64 (wrap64 (x1_1 + 1))]) (j := 1) hcl14 hcc14 (show 2 ≤ 3 from by decide) (x' := (⟨(rd_T59 y333 x5_1).f0, wrap64 (x1_1 + 1), (rd_T59 y333 x5_1).f2⟩ : S59)) (k59_mkM _ _ _ (⟨(rd_T59 y333 x5_1).f0, wrap64 (x1_1 + 1), (rd_T59 y333 x5_1).f2⟩ : S59) ) (fun _ hk => hk); have hx14_1 := hcc14 1 _ rfl; (try simp only [show (k59).sz = 3 from rfl, Nat.mul_one, Nat.add_zero] at hx14_1); have hf14_1 := hfr14 1; (try simp only [show (k59).sz = 3 from rfl, Nat.mul_one, Nat.add_zero] at hf14_1); (try clear hcl14); (try clear hcc14); (try clear hfr14); (try clear hM14)) | ((with_reducible refine gate_store (t := 3) (p := 24) rfl ?_); refine store_event (t := 3) (p := 24) (v := ?vo_w15) (w1 := (w13.setCell ⟨go6, (x5_1 : Int).toNat * 3 + 1, none⟩ (.int .i64 (wrap64 (x1_1 + 1))))) ?hg ?ho ?hn ?hr ?_; (case ho => rfl); (case hg => rfl); (case hn => rfl); (case hr => exact sE); intro w15 hw; have hg : w13.grownBy w15 (some go6) := (by rw [hw]; exact HP14.2); have hp_ : Kd.R k59 59 w15 w0.heap.size (fun k_ => (P0_ k_ ∨ w.heap.size ≤ k_)) (.slice (some ⟨go6, 0, none⟩) x0_1.length co10) y334 := (by rw [hw, Ny334.out]; exact HP14.1); clear HP14; replace HB := Aside0.mk ((by rw [hw]; exact below_set (HB.out) GB6.out : Below w0.heap.size w0 w15)); replace HK := Aside0.mk (Kept.of_grown (S := (fun k_ => P0_ k_)) hg (by repeat (first | (with_reducible first | exact HK.out | apply Kept.alloc | apply Kept.drewN | apply Kept.drew) | exact HK.out)) (fun k_ e_ => (HO_0.out.1 k_ e_))); replace HO_0 := Aside0.mk hp_; clear hg hw hp_) | ((with_reducible refine gate_callee (f := 42) rfl ?_); refine goesL_ (some 30) rfl rfl Try.func42 (by kernel_rfl) rfl #[.int .i64 (wrap64 ((wrap64 (x1_1 + 1)) + 1))] rfl aE ?_; (with_reducible refine (laws_markText.calls k1 (wrap64 ((wrap64 (x1_1 + 1)) + 1)) t335 _ A8.out).mono ?_); rintro e w16 ⟨rfl, hb⟩; refine ⟨_, rfl, ?_⟩; replace HO_0 := Aside0.mk (Kd.R_below (rU HO_0.out) hb); replace HK := Aside0.mk (Kept.below (S := (fun k_ => P0_ k_)) (by repeat (first | (with_reducible first | exact HK.out | apply Kept.alloc | apply Kept.drewN | apply Kept.drew) | exact HK.out)) hb); replace HB := bH (lU) hb; (try clear hb); have p9 : 0 ≤ (x5_1 : Int) := of_decide_eq_true hE; have q9 : (x5_1 : Int) < ((x0_1.length : Int) : Int) := of_decide_eq_true hE; obtain ⟨ce9, hcl9, hM9, hcc9, hfr9⟩ := Kd.R_elem HO_0.out z59 (x5_1 : Int) p9 q9; obtain rfl := k59_openM hM9; have hx9_0 : w16.cell? ⟨go6, (x5_1 : Int).toNat * 3, none⟩ = some (.string ((rd_T59 y334 x5_1).f0)) := hcc9 0 _ rfl; have hx9_1 : w16.cell? ⟨go6, (x5_1 : Int).toNat * 3 + 1, none⟩ = some (.int .i64 ((rd_T59 y334 x5_1).f1)) := hcc9 1 _ rfl; have hx9_2 : w16.cell? ⟨go6, (x5_1 : Int).toNat * 3 + 2, none⟩ = some (.string ((rd_T59 y334 x5_1).f2)) := hcc9 2 _ rfl; have hf9_0 : w16.frozen? ⟨go6, (x5_1 : Int).toNat * 3, none⟩ = false := hfr9 0; have hf9_1 : w16.frozen? ⟨go6, (x5_1 : Int).toNat * 3 + 1, none⟩ = false := hfr9 1; have hf9_2 : w16.frozen? ⟨go6, (x5_1 : Int).toNat * 3 + 2, none⟩ = false := hfr9 2; (try clear hcl9); (try clear hcc9); (try clear hfr9); (try clear hM9); replace p9 := eq_true p9; replace q9 := eq_true q9; have HX17 := Aside0.mk (show Kd.R k59 59 w16 w0.heap.size (fun k_ => (P0_ k_ ∨ w.heap.size ≤ k_)) (.slice (some ⟨go6, 0, none⟩) x0_1.length co10) y334 from (rU HO_0.out)); obtain ⟨ce17, hcl17, hM17, hcc17, hfr17⟩ := Kd.R_elem HX17.out z59 (x5_1 : Int) (of_decide_eq_true hE) (by have h_ : (x5_1 : Int) < ((x0_1.length : Int) : Int) := of_decide_eq_true hE; first | exact h_ | (have e_ := (Kd.R_reads' HO_0.out).1; omega) | simpa using h_); obtain rfl := k59_openM hM17; have HP17 := Kd.R_seg HX17.out (x5_1 : Int) (of_decide_eq_true hE) (by have h_ : (x5_1 : Int) < ((x0_1.length : Int) : Int) := of_decide_eq_true hE; first | exact h_ | (have e_ := (Kd.R_reads' HO_0.out).1; omega) | simpa using h_) (seg := [.string t335]) (j := 2) hcl17 hcc17 (show 3 ≤ 3 from by decide) (x' := (⟨(rd_T59 y334 x5_1).f0, (rd_T59 y334 x5_1).f1, t335⟩ : S59)) (k59_mkM _ _ _ (⟨(rd_T59 y334 x5_1).f0, (rd_T59 y334 x5_1).f1, t335⟩ : S59) ) (fun _ hk => hk); have hx17_2 := hcc17 2 _ rfl; (try simp only [show (k59).sz = 3 from rfl, Nat.mul_one, Nat.add_zero] at hx17_2); have hf17_2 := hfr17 2; (try simp only [show (k59).sz = 3 from rfl, Nat.mul_one, Nat.add_zero] at hf17_2); (try clear hcl17); (try clear hcc17); (try clear hfr17); (try clear hM17)) | ((with_reducible refine gate_store (t := 9) (p := 32) rfl ?_); refine store_event (t := 9) (p := 32) (v := ?vo_w18) (w1 := (w16.setCell ⟨go6, (x5_1 : Int).toNat * 3 + 2, none⟩ (.string t335))) ?hg ?ho ?hn ?hr ?_; (case ho => rfl); (case hg => rfl); (case hn => rfl); (case hr => exact sE); intro w18 hw; have hg : w16.grownBy w18 (some go6) := (by rw [hw]; exact HP17.2); have hp_ : Kd.R k59 59 w18 w0.heap.size (fun k_ => (P0_ k_ ∨ w.heap.size ≤ k_)) (.slice (some ⟨go6, 0, none⟩) x0_1.length co10) y336 := (by rw [hw, Ny336.out]; exact HP17.1); clear HP17; replace HB := Aside0.mk ((by rw [hw]; exact below_set (HB.out) GB6.out : Below w0.heap.size w0 w18)); replace HK := Aside0.mk (Kept.of_grown (S := (fun k_ => P0_ k_)) hg (by repeat (first | (with_reducible first | exact HK.out | apply Kept.alloc | apply Kept.drewN | apply Kept.drew) | exact HK.out)) (fun k_ e_ => (HO_0.out.1 k_ e_))); replace HO_0 := Aside0.mk hp_; clear hg hw hp_))
     go_roundg k1
     case measure => have := HK1.out; omega
     case rel => exact ⟨(y336), (wrap64 ((wrap64 ((wrap64 (x1_1 + 1)) + 1)) + 1)), (wrap64 (x5_1 + 1)), tE, tE, H', ⟨by have := HK1.out; omega⟩, ⟨by (with_reducible repeat (first | apply Kd.R_alloc | apply Kd.R_drewN | apply Kd.R_drew)); exact HO_0.out⟩, ⟨by repeat (first | (with_reducible first | exact HK.out | apply Kept.alloc | apply Kept.drewN | apply Kept.drew) | exact HK.out)⟩, ⟨by repeat (first | (with_reducible first | exact HB.out | apply below_alloc | apply pw_below_drewN | apply below_drew1) | exact HB.out)⟩⟩
    ·rw [if_neg c5] at H
     exact absurd H (by simp)
   ·rw [if_neg c3] at H
    have c3b0 : decide (x5_1 < (x0_1.length : Int)) = false := decide_eq_false c3
    clear c3
    simp only [Option.some.injEq, Prod.mk.injEq] at H
    obtain ⟨rfl, rfl⟩ := H
    obtain ⟨Ao19, co19, eo19⟩ := Kd.R_slice HO_0.out
    subst eo19
    go_wp2
    go_ret
    exact ⟨eE, by (with_reducible repeat (first | apply Kd.R_alloc | apply Kd.R_drewN | apply Kd.R_drew)); exact HO_0.out, lU, by repeat (first | (with_reducible first | exact HK.out | apply Kept.alloc | apply Kept.drewN | apply Kept.drew) | exact HK.out)⟩
def laws_markChangeS.l0 : Nat → List (S56) → Int → Int → Option (Int × (List (S56)))
 | 0, _, _, _ => none
 | k + 1, x0, x1, x5 => if x5 < (x0.length : Int) then (if 0 ≤ x5 then ((some (x0.set (x5 : Int).toNat (⟨x1, (rd_T56 x0 x5).f1, (rd_T56 x0 x5).f2, (rd_T56 x0 x5).f3, (rd_T56 x0 x5).f4⟩ : S56) : List (S56))).bind fun y337 => ((some (y337.set (x5 : Int).toNat (⟨(rd_T56 y337 x5).f0, wrap64 (x1 + 1), (rd_T56 y337 x5).f2, (rd_T56 y337 x5).f3, (rd_T56 y337 x5).f4⟩ : S56) : List (S56))).bind fun y338 => ((laws_markText.f k (wrap64 ((wrap64 (x1 + 1)) + 1))).bind fun t339 => ((some (y338.set (x5 : Int).toNat (⟨(rd_T56 y338 x5).f0, (rd_T56 y338 x5).f1, t339, (rd_T56 y338 x5).f3, (rd_T56 y338 x5).f4⟩ : S56) : List (S56))).bind fun y340 => ((laws_markText.f k (wrap64 ((wrap64 ((wrap64 (x1 + 1)) + 1)) + 1))).bind fun t341 => ((some (y340.set (x5 : Int).toNat (⟨(rd_T56 y340 x5).f0, (rd_T56 y340 x5).f1, (rd_T56 y340 x5).f2, t341, (rd_T56 y340 x5).f4⟩ : S56) : List (S56))).bind fun y342 => (laws_markChangeS.l0 k (y342.set (x5 : Int).toNat (⟨(rd_T56 y342 x5).f0, (rd_T56 y342 x5).f1, (rd_T56 y342 x5).f2, (rd_T56 y342 x5).f3, wrap64 ((wrap64 ((wrap64 ((wrap64 (x1 + 1)) + 1)) + 1)) + 1)⟩ : S56)) (wrap64 ((wrap64 ((wrap64 ((wrap64 ((wrap64 (x1 + 1)) + 1)) + 1)) + 1)) + 1)) (wrap64 (x5 + 1))))))))) else (none)) else (some (x1, x0))
def laws_markChangeS.f (k : Nat) (l0 : List (S56)) (a1 : Int) : Option (Int × (List (S56))) := laws_markChangeS.l0 k l0 a1 0
theorem laws_markChangeS.mono_l : ∀ k, (∀ y0 y1 y2, LeO (laws_markChangeS.l0 k y0 y1 y2) (laws_markChangeS.l0 (k + 1) y0 y1 y2))
 | 0 => fun _ _ _ r h => by simp [laws_markChangeS.l0] at h
 | k + 1 => by
  have ih0 := laws_markChangeS.mono_l k
  ·intro y0 y1 y2
   unfold laws_markChangeS.l0
   repeat' first
   | (with_reducible exact ih0 _ _ _)
   | (with_reducible exact laws_markText.mono _ _)
   | (with_reducible first | exact LeO.refl _ | exact LeO.none _ | refine LeO.ite ?_ ?_ | refine LeO.bind ?_ (fun _ => ?_))
   | exact ih0 _ _ _
   | exact laws_markText.mono _ _ | exact LeO.none _ | refine LeO.ite ?_ ?_ | refine LeO.bind ?_ (fun _ => ?_)
theorem laws_markChangeS.mono : ∀ a0 a1 k, LeO (laws_markChangeS.f k a0 a1) (laws_markChangeS.f (k + 1) a0 a1) := by
 intro a0 a1 k
 have ih0 := laws_markChangeS.mono_l k
 unfold laws_markChangeS.f
 repeat' first
   | (with_reducible exact ih0 _ _ _)
   | (with_reducible exact laws_markText.mono _ _)
   | (with_reducible first | exact LeO.refl _ | exact LeO.none _ | refine LeO.ite ?_ ?_ | refine LeO.bind ?_ (fun _ => ?_))
   | exact ih0 _ _ _
   | exact laws_markText.mono _ _ | exact LeO.none _ | refine LeO.ite ?_ ?_ | refine LeO.bind ?_ (fun _ => ?_)
set_option maxHeartbeats 8000000 in
set_option maxRecDepth 100000 in
theorem laws_markChangeS.calls (k : Nat) (P0_ : Nat → Prop) (u9000_ : Value) (l0 : List (S56)) (a1 : Int) (r1 : Int) (r2 : List (S56)) (w0 w : World) (hB : Below w0.heap.size w0 w) (ho0 : Kd.R k56 56 w w0.heap.size P0_ u9000_ l0) (h : laws_markChangeS.f k l0 a1 = some (r1, r2)) :
  Calls Try.prog 15 #[u9000_, .int .i64 a1] w fun e w' => e = .returned (.int .i64 r1) ∧ Kd.R k56 56 w' w0.heap.size (fun k_ => (P0_ k_ ∨ w.heap.size ≤ k_)) u9000_ r2 ∧ Below w0.heap.size w0 w' ∧ Kept w w' (fun k_ => P0_ k_) := by
 have HO0 := Aside0.mk (show Kd.R k56 56 w w0.heap.size (fun k_ => (P0_ k_ ∨ w.heap.size ≤ k_)) u9000_ l0 from Kd.R_mono ho0 (fun k_ hk => (.inl hk)))
 have HK := Aside0.mk (Kept.refl w (fun k_ => P0_ k_))
 have HW0 := Aside0.mk hB.size
 have HB := Aside0.mk hB
 clear hB
 have H : (laws_markChangeS.l0 k l0 a1 0) = some (r1, r2) := h
 clear h
 have H' := Aside0.mk H
 clear H
 go_enter Try.func15, Try.ntmps15
 go_wp2
 go_loopg [1, 5] k (fun kq v1 v5 w' => ∃ (x0_1 : List (S56)) (x1_1 : Int) (x5_1 : Int), v1 = .int .i64 x1_1 ∧ v5 = .int .i64 x5_1 ∧ Aside0 (laws_markChangeS.l0 kq x0_1 x1_1 x5_1 = some (r1, r2)) ∧ Aside0 (kq ≤ k) ∧ Aside0 (Kd.R k56 56 w' w0.heap.size (fun k_ => (P0_ k_ ∨ w.heap.size ≤ k_)) u9000_ x0_1) ∧ Aside0 (Kept w w' (fun k_ => P0_ k_)) ∧ Aside0 (Below w0.heap.size w0 w'))
 case atStart => exact ⟨(l0), (a1), (0), tE, tE, H', ⟨Nat.le_refl _⟩, ⟨by (with_reducible repeat (first | apply Kd.R_alloc | apply Kd.R_drewN | apply Kd.R_drew)); exact HO0.out⟩, ⟨by repeat (first | (with_reducible first | exact HK.out | apply Kept.alloc | apply Kept.drewN | apply Kept.drew) | exact HK.out)⟩, ⟨by repeat (first | (with_reducible first | exact HB.out | apply below_alloc | apply pw_below_drewN | apply below_drew1) | exact HB.out)⟩⟩
 case round =>
  clear H'
  try clear c1
  try clear p2
  obtain ⟨x0_1, x1_1, x5_1, rfl, rfl, HA, HK1, HO_0, HK, HB⟩ := hrel
  cases gk with
  | zero => exact absurd HA.out (by simp [laws_markChangeS.l0])
  | succ k1 =>
   have H := HA.out
   clear HA
   simp only [laws_markChangeS.l0] at H
   by_cases c3 : x5_1 < (x0_1.length : Int)
   ·rw [if_pos c3] at H
    have c3b0 : decide (x5_1 < (x0_1.length : Int)) = true := decide_eq_true c3
    clear c3
    by_cases c4 : 0 ≤ x5_1
    ·rw [if_pos c4] at H
     have c4b0 : decide (0 ≤ x5_1) = true := decide_eq_true c4
     clear c4
     obtain ⟨y337, hy337⟩ : ∃ y_ : List (S56), y_ = (x0_1.set (x5_1 : Int).toNat (⟨x1_1, (rd_T56 x0_1 x5_1).f1, (rd_T56 x0_1 x5_1).f2, (rd_T56 x0_1 x5_1).f3, (rd_T56 x0_1 x5_1).f4⟩ : S56)) := ⟨_, rfl⟩
     replace H : ((some (y337.set (x5_1 : Int).toNat (⟨(rd_T56 y337 x5_1).f0, wrap64 (x1_1 + 1), (rd_T56 y337 x5_1).f2, (rd_T56 y337 x5_1).f3, (rd_T56 y337 x5_1).f4⟩ : S56) : List (S56))).bind fun y338 => ((laws_markText.f k1 (wrap64 ((wrap64 (x1_1 + 1)) + 1))).bind fun t339 => ((some (y338.set (x5_1 : Int).toNat (⟨(rd_T56 y338 x5_1).f0, (rd_T56 y338 x5_1).f1, t339, (rd_T56 y338 x5_1).f3, (rd_T56 y338 x5_1).f4⟩ : S56) : List (S56))).bind fun y340 => ((laws_markText.f k1 (wrap64 ((wrap64 ((wrap64 (x1_1 + 1)) + 1)) + 1))).bind fun t341 => ((some (y340.set (x5_1 : Int).toNat (⟨(rd_T56 y340 x5_1).f0, (rd_T56 y340 x5_1).f1, (rd_T56 y340 x5_1).f2, t341, (rd_T56 y340 x5_1).f4⟩ : S56) : List (S56))).bind fun y342 => (laws_markChangeS.l0 k1 (y342.set (x5_1 : Int).toNat (⟨(rd_T56 y342 x5_1).f0, (rd_T56 y342 x5_1).f1, (rd_T56 y342 x5_1).f2, (rd_T56 y342 x5_1).f3, wrap64 ((wrap64 ((wrap64 ((wrap64 (x1_1 + 1)) + 1)) + 1)) + 1)⟩ : S56)) (wrap64 ((wrap64 ((wrap64 ((wrap64 ((wrap64 (x1_1 + 1)) + 1)) + 1)) + 1)) + 1)) (wrap64 (x5_1 + 1)))))))) = some (r1, r2) := by first | (rw [hy337]; with_reducible exact H) | (have H2_ := (Option.bind_some _ _).symm.trans H; rw [hy337]; with_reducible exact H2_) | (have H2_ := (Option.bind_some _ _).symm.trans H; with_reducible exact H2_) | with_reducible exact H | (rw [hy337]; exact H) | exact H
     have Ny337 := Aside0.mk hy337
     clear hy337
     obtain ⟨y338, hy338⟩ : ∃ y_ : List (S56), y_ = (y337.set (x5_1 : Int).toNat (⟨(rd_T56 y337 x5_1).f0, wrap64 (x1_1 + 1), (rd_T56 y337 x5_1).f2, (rd_T56 y337 x5_1).f3, (rd_T56 y337 x5_1).f4⟩ : S56)) := ⟨_, rfl⟩
     replace H : ((laws_markText.f k1 (wrap64 ((wrap64 (x1_1 + 1)) + 1))).bind fun t339 => ((some (y338.set (x5_1 : Int).toNat (⟨(rd_T56 y338 x5_1).f0, (rd_T56 y338 x5_1).f1, t339, (rd_T56 y338 x5_1).f3, (rd_T56 y338 x5_1).f4⟩ : S56) : List (S56))).bind fun y340 => ((laws_markText.f k1 (wrap64 ((wrap64 ((wrap64 (x1_1 + 1)) + 1)) + 1))).bind fun t341 => ((some (y340.set (x5_1 : Int).toNat (⟨(rd_T56 y340 x5_1).f0, (rd_T56 y340 x5_1).f1, (rd_T56 y340 x5_1).f2, t341, (rd_T56 y340 x5_1).f4⟩ : S56) : List (S56))).bind fun y342 => (laws_markChangeS.l0 k1 (y342.set (x5_1 : Int).toNat (⟨(rd_T56 y342 x5_1).f0, (rd_T56 y342 x5_1).f1, (rd_T56 y342 x5_1).f2, (rd_T56 y342 x5_1).f3, wrap64 ((wrap64 ((wrap64 ((wrap64 (x1_1 + 1)) + 1)) + 1)) + 1)⟩ : S56)) (wrap64 ((wrap64 ((wrap64 ((wrap64 ((wrap64 (x1_1 + 1)) + 1)) + 1)) + 1)) + 1)) (wrap64 (x5_1 + 1))))))) = some (r1, r2) := by first | (rw [hy338]; with_reducible exact H) | (have H2_ := (Option.bind_some _ _).symm.trans H; rw [hy338]; with_reducible exact H2_) | (have H2_ := (Option.bind_some _ _).symm.trans H; with_reducible exact H2_) | with_reducible exact H | (rw [hy338]; exact H) | exact H
     have Ny338 := Aside0.mk hy338
     clear hy338
     replace H := Option.bind_eq_some_iff.mp H
     obtain ⟨t339, A70, H⟩ := H
     replace H : ((some (y338.set (x5_1 : Int).toNat (⟨(rd_T56 y338 x5_1).f0, (rd_T56 y338 x5_1).f1, t339, (rd_T56 y338 x5_1).f3, (rd_T56 y338 x5_1).f4⟩ : S56) : List (S56))).bind fun y340 => ((laws_markText.f k1 (wrap64 ((wrap64 ((wrap64 (x1_1 + 1)) + 1)) + 1))).bind fun t341 => ((some (y340.set (x5_1 : Int).toNat (⟨(rd_T56 y340 x5_1).f0, (rd_T56 y340 x5_1).f1, (rd_T56 y340 x5_1).f2, t341, (rd_T56 y340 x5_1).f4⟩ : S56) : List (S56))).bind fun y342 => (laws_markChangeS.l0 k1 (y342.set (x5_1 : Int).toNat (⟨(rd_T56 y342 x5_1).f0, (rd_T56 y342 x5_1).f1, (rd_T56 y342 x5_1).f2, (rd_T56 y342 x5_1).f3, wrap64 ((wrap64 ((wrap64 ((wrap64 (x1_1 + 1)) + 1)) + 1)) + 1)⟩ : S56)) (wrap64 ((wrap64 ((wrap64 ((wrap64 ((wrap64 (x1_1 + 1)) + 1)) + 1)) + 1)) + 1)) (wrap64 (x5_1 + 1)))))) = some (r1, r2) := H
     have A7 := Aside0.mk A70
     clear A70
     obtain ⟨y340, hy340⟩ : ∃ y_ : List (S56), y_ = (y338.set (x5_1 : Int).toNat (⟨(rd_T56 y338 x5_1).f0, (rd_T56 y338 x5_1).f1, t339, (rd_T56 y338 x5_1).f3, (rd_T56 y338 x5_1).f4⟩ : S56)) := ⟨_, rfl⟩
     replace H : ((laws_markText.f k1 (wrap64 ((wrap64 ((wrap64 (x1_1 + 1)) + 1)) + 1))).bind fun t341 => ((some (y340.set (x5_1 : Int).toNat (⟨(rd_T56 y340 x5_1).f0, (rd_T56 y340 x5_1).f1, (rd_T56 y340 x5_1).f2, t341, (rd_T56 y340 x5_1).f4⟩ : S56) : List (S56))).bind fun y342 => (laws_markChangeS.l0 k1 (y342.set (x5_1 : Int).toNat (⟨(rd_T56 y342 x5_1).f0, (rd_T56 y342 x5_1).f1, (rd_T56 y342 x5_1).f2, (rd_T56 y342 x5_1).f3, wrap64 ((wrap64 ((wrap64 ((wrap64 (x1_1 + 1)) + 1)) + 1)) + 1)⟩ : S56)) (wrap64 ((wrap64 ((wrap64 ((wrap64 ((wrap64 (x1_1 + 1)) + 1)) + 1)) + 1)) + 1)) (wrap64 (x5_1 + 1))))) = some (r1, r2) := by first | (rw [hy340]; with_reducible exact H) | (have H2_ := (Option.bind_some _ _).symm.trans H; rw [hy340]; with_reducible exact H2_) | (have H2_ := (Option.bind_some _ _).symm.trans H; with_reducible exact H2_) | with_reducible exact H | (rw [hy340]; exact H) | exact H
     have Ny340 := Aside0.mk hy340
     clear hy340
     replace H := Option.bind_eq_some_iff.mp H
     obtain ⟨t341, A90, H⟩ := H
     replace H : ((some (y340.set (x5_1 : Int).toNat (⟨(rd_T56 y340 x5_1).f0, (rd_T56 y340 x5_1).f1, (rd_T56 y340 x5_1).f2, t341, (rd_T56 y340 x5_1).f4⟩ : S56) : List (S56))).bind fun y342 => (laws_markChangeS.l0 k1 (y342.set (x5_1 : Int).toNat (⟨(rd_T56 y342 x5_1).f0, (rd_T56 y342 x5_1).f1, (rd_T56 y342 x5_1).f2, (rd_T56 y342 x5_1).f3, wrap64 ((wrap64 ((wrap64 ((wrap64 (x1_1 + 1)) + 1)) + 1)) + 1)⟩ : S56)) (wrap64 ((wrap64 ((wrap64 ((wrap64 ((wrap64 (x1_1 + 1)) + 1)) + 1)) + 1)) + 1)) (wrap64 (x5_1 + 1)))) = some (r1, r2) := H
     have A9 := Aside0.mk A90
     clear A90
     obtain ⟨y342, hy342⟩ : ∃ y_ : List (S56), y_ = (y340.set (x5_1 : Int).toNat (⟨(rd_T56 y340 x5_1).f0, (rd_T56 y340 x5_1).f1, (rd_T56 y340 x5_1).f2, t341, (rd_T56 y340 x5_1).f4⟩ : S56)) := ⟨_, rfl⟩
     replace H : (laws_markChangeS.l0 k1 (y342.set (x5_1 : Int).toNat (⟨(rd_T56 y342 x5_1).f0, (rd_T56 y342 x5_1).f1, (rd_T56 y342 x5_1).f2, (rd_T56 y342 x5_1).f3, wrap64 ((wrap64 ((wrap64 ((wrap64 (x1_1 + 1)) + 1)) + 1)) + 1)⟩ : S56)) (wrap64 ((wrap64 ((wrap64 ((wrap64 ((wrap64 (x1_1 + 1)) + 1)) + 1)) + 1)) + 1)) (wrap64 (x5_1 + 1))) = some (r1, r2) := by first | (rw [hy342]; with_reducible exact H) | (have H2_ := (Option.bind_some _ _).symm.trans H; rw [hy342]; with_reducible exact H2_) | (have H2_ := (Option.bind_some _ _).symm.trans H; with_reducible exact H2_) | with_reducible exact H | (rw [hy342]; exact H) | exact H
     have Ny342 := Aside0.mk hy342
     clear hy342
     obtain ⟨y343, hy343⟩ : ∃ y_ : List (S56), y_ = (y342.set (x5_1 : Int).toNat (⟨(rd_T56 y342 x5_1).f0, (rd_T56 y342 x5_1).f1, (rd_T56 y342 x5_1).f2, (rd_T56 y342 x5_1).f3, wrap64 ((wrap64 ((wrap64 ((wrap64 (x1_1 + 1)) + 1)) + 1)) + 1)⟩ : S56)) := ⟨_, rfl⟩
     replace H : (laws_markChangeS.l0 k1 y343 (wrap64 ((wrap64 ((wrap64 ((wrap64 ((wrap64 (x1_1 + 1)) + 1)) + 1)) + 1)) + 1)) (wrap64 (x5_1 + 1))) = some (r1, r2) := by first | (rw [hy343]; with_reducible exact H) | (have H2_ := (Option.bind_some _ _).symm.trans H; rw [hy343]; with_reducible exact H2_) | (have H2_ := (Option.bind_some _ _).symm.trans H; with_reducible exact H2_) | with_reducible exact H | (rw [hy343]; exact H) | exact H
     have Ny343 := Aside0.mk hy343
     clear hy343
     have H' := Aside0.mk H
     clear H
     obtain ⟨Ao12, co12, eo12⟩ := Kd.R_slice HO_0.out
     subst eo12
     have p5 : 0 ≤ (x5_1 : Int) := of_decide_eq_true hE
     have q5 : (x5_1 : Int) < ((x0_1.length : Int) : Int) := of_decide_eq_true hE
     obtain ⟨go5, co5, eo5, gb5, gl5, cl5, HG5⟩ := Kd.R_form HO_0.out (by omega)
     (first | cases eo5 | (injection eo5 with ea_ en_ ec_; (first | subst ea_ | (injection ea_ with ea_; subst ea_)); subst ec_; clear en_))
     have GB5 := Aside0.mk gb5
     have GG5 := Aside0.mk HG5
     clear gb5 gl5 HG5
     have HMgo5 := Aside0.mk (show (P0_ go5 ∨ w.heap.size ≤ go5) from (HO_0.out.1 _ rfl))
     obtain ⟨ce5, hcl5, hM5, hcc5, hfr5⟩ := Kd.R_elem HO_0.out z56 (x5_1 : Int) p5 q5
     obtain rfl := k56_openM hM5
     have hx5_0 : wr.cell? ⟨go5, (x5_1 : Int).toNat * 5, none⟩ = some (.int .i64 ((rd_T56 x0_1 x5_1).f0)) := hcc5 0 _ rfl
     have hx5_1 : wr.cell? ⟨go5, (x5_1 : Int).toNat * 5 + 1, none⟩ = some (.int .i64 ((rd_T56 x0_1 x5_1).f1)) := hcc5 1 _ rfl
     have hx5_2 : wr.cell? ⟨go5, (x5_1 : Int).toNat * 5 + 2, none⟩ = some (.string ((rd_T56 x0_1 x5_1).f2)) := hcc5 2 _ rfl
     have hx5_3 : wr.cell? ⟨go5, (x5_1 : Int).toNat * 5 + 3, none⟩ = some (.string ((rd_T56 x0_1 x5_1).f3)) := hcc5 3 _ rfl
     have hx5_4 : wr.cell? ⟨go5, (x5_1 : Int).toNat * 5 + 4, none⟩ = some (.int .i64 ((rd_T56 x0_1 x5_1).f4)) := hcc5 4 _ rfl
     have hf5_0 : wr.frozen? ⟨go5, (x5_1 : Int).toNat * 5, none⟩ = false := hfr5 0
     have hf5_1 : wr.frozen? ⟨go5, (x5_1 : Int).toNat * 5 + 1, none⟩ = false := hfr5 1
     have hf5_2 : wr.frozen? ⟨go5, (x5_1 : Int).toNat * 5 + 2, none⟩ = false := hfr5 2
     have hf5_3 : wr.frozen? ⟨go5, (x5_1 : Int).toNat * 5 + 3, none⟩ = false := hfr5 3
     have hf5_4 : wr.frozen? ⟨go5, (x5_1 : Int).toNat * 5 + 4, none⟩ = false := hfr5 4
     (try clear hcl5)
     (try clear hcc5)
     (try clear hfr5)
     (try clear hM5)
     replace p5 := eq_true p5
     replace q5 := eq_true q5
     have HX13 := Aside0.mk (show Kd.R k56 56 wr w0.heap.size (fun k_ => (P0_ k_ ∨ w.heap.size ≤ k_)) (.slice (some ⟨go5, 0, none⟩) x0_1.length co12) x0_1 from (rU HO_0.out))
     obtain ⟨ce13, hcl13, hM13, hcc13, hfr13⟩ := Kd.R_elem HX13.out z56 (x5_1 : Int) (of_decide_eq_true hE) (by have h_ : (x5_1 : Int) < ((x0_1.length : Int) : Int) := of_decide_eq_true hE; first | exact h_ | (have e_ := (Kd.R_reads' HO_0.out).1; omega) | simpa using h_)
     obtain rfl := k56_openM hM13
     have HP13 := Kd.R_seg HX13.out (x5_1 : Int) (of_decide_eq_true hE) (by have h_ : (x5_1 : Int) < ((x0_1.length : Int) : Int) := of_decide_eq_true hE; first | exact h_ | (have e_ := (Kd.R_reads' HO_0.out).1; omega) | simpa using h_) (seg := [.int .i64 x1_1]) (j := 0) hcl13 hcc13 (show 1 ≤ 5 from by decide) (x' := (⟨x1_1, (rd_T56 x0_1 x5_1).f1, (rd_T56 x0_1 x5_1).f2, (rd_T56 x0_1 x5_1).f3, (rd_T56 x0_1 x5_1).f4⟩ : S56)) (k56_mkM _ _ _ (⟨x1_1, (rd_T56 x0_1 x5_1).f1, (rd_T56 x0_1 x5_1).f2, (rd_T56 x0_1 x5_1).f3, (rd_T56 x0_1 x5_1).f4⟩ : S56) ) (fun _ hk => hk)
     have hx13_0 := hcc13 0 _ rfl
     (try simp only [show (k56).sz = 5 from rfl, Nat.mul_one, Nat.add_zero] at hx13_0)
     have hf13_0 := hfr13 0
     (try simp only [show (k56).sz = 5 from rfl, Nat.mul_one, Nat.add_zero] at hf13_0)
     (try clear hcl13)
     (try clear hcc13)
     (try clear hfr13)
     (try clear hM13)
     go_wp2_with (first | ((with_reducible refine gate_store (t := 3) (p := 16) rfl ?_); refine store_event (t := 3) (p := 16) (v := ?vo_w14) (w1 := (wr.setCell ⟨go5, (x5_1 : Int).toNat * 5, none⟩ (.int .i64 x1_1))) ?hg ?ho ?hn ?hr ?_; (case ho => rfl); (case hg => rfl); (case hn => rfl); (case hr => exact sE); intro w14 hw; have hg : wr.grownBy w14 (some go5) := (by rw [hw]; exact HP13.2); have hp_ : Kd.R k56 56 w14 w0.heap.size (fun k_ => (P0_ k_ ∨ w.heap.size ≤ k_)) (.slice (some ⟨go5, 0, none⟩) x0_1.length co12) y337 := (by rw [hw, Ny337.out]; exact HP13.1); clear HP13; replace HB := Aside0.mk ((by rw [hw]; exact below_set (HB.out) GB5.out : Below w0.heap.size w0 w14)); replace HK := Aside0.mk (Kept.of_grown (S := (fun k_ => P0_ k_)) hg (by repeat (first | (with_reducible first | exact HK.out | apply Kept.alloc | apply Kept.drewN | apply Kept.drew) | exact HK.out)) (fun k_ e_ => (HO_0.out.1 k_ e_))); replace HO_0 := Aside0.mk hp_; clear hg hw hp_; have p6 : 0 ≤ (x5_1 : Int) := of_decide_eq_true hE; have q6 : (x5_1 : Int) < ((x0_1.length : Int) : Int) := of_decide_eq_true hE; obtain ⟨ce6, hcl6, hM6, hcc6, hfr6⟩ := Kd.R_elem HO_0.out z56 (x5_1 : Int) p6 q6; obtain rfl := k56_openM hM6; have hx6_0 : w14.cell? ⟨go5, (x5_1 : Int).toNat * 5, none⟩ = some (.int .i64 ((rd_T56 y337 x5_1).f0)) := hcc6 0 _ rfl; have hx6_1 : w14.cell? ⟨go5, (x5_1 : Int).toNat * 5 + 1, none⟩ = some (.int .i64 ((rd_T56 y337 x5_1).f1)) := hcc6 1 _ rfl; have hx6_2 : w14.cell? ⟨go5, (x5_1 : Int).toNat * 5 + 2, none⟩ = some (.string ((rd_T56 y337 x5_1).f2)) := hcc6 2 _ rfl; have hx6_3 : w14.cell? ⟨go5, (x5_1 : Int).toNat * 5 + 3, none⟩ = some (.string ((rd_T56 y337 x5_1).f3)) := hcc6 3 _ rfl; have hx6_4 : w14.cell? ⟨go5, (x5_1 : Int).toNat * 5 + 4, none⟩ = some (.int .i64 ((rd_T56 y337 x5_1).f4)) := hcc6 4 _ rfl; have hf6_0 : w14.frozen? ⟨go5, (x5_1 : Int).toNat * 5, none⟩ = false := hfr6 0; have hf6_1 : w14.frozen? ⟨go5, (x5_1 : Int).toNat * 5 + 1, none⟩ = false := hfr6 1; have hf6_2 : w14.frozen? ⟨go5, (x5_1 : Int).toNat * 5 + 2, none⟩ = false := hfr6 2; have hf6_3 : w14.frozen? ⟨go5, (x5_1 : Int).toNat * 5 + 3, none⟩ = false := hfr6 3; have hf6_4 : w14.frozen? ⟨go5, (x5_1 : Int).toNat * 5 + 4, none⟩ = false := hfr6 4; (try clear hcl6); (try clear hcc6); (try clear hfr6); (try clear hM6); replace p6 := eq_true p6; replace q6 := eq_true q6; have HX15 := Aside0.mk (show Kd.R k56 56 w14 w0.heap.size (fun k_ => (P0_ k_ ∨ w.heap.size ≤ k_)) (.slice (some ⟨go5, 0, none⟩) x0_1.length co12) y337 from (rU HO_0.out)); obtain ⟨ce15, hcl15, hM15, hcc15, hfr15⟩ := Kd.R_elem HX15.out z56 (x5_1 : Int) (of_decide_eq_true hE) (by have h_ : (x5_1 : Int) < ((x0_1.length : Int) : Int) := of_decide_eq_true hE; first | exact h_ | (have e_ := (Kd.R_reads' HO_0.out).1; omega) | simpa using h_); obtain rfl := k56_openM hM15; have HP15 := Kd.R_seg HX15.out (x5_1 : Int) (of_decide_eq_true hE) (by have h_ : (x5_1 : Int) < ((x0_1.length : Int) : Int) := of_decide_eq_true hE; first | exact h_ | (have e_ := (Kd.R_reads' HO_0.out).1; omega) | simpa using h_) (seg := [.int .i64 (wrap64 (x1_1 + 1))]) (j := 1) hcl15 hcc15 (show 2 ≤ 5 from by decide) (x' := (⟨(rd_T56 y337 x5_1).f0, wrap64 (x1_1 + 1), (rd_T56 y337 x5_1).f2, (rd_T56 y337 x5_1).f3, (rd_T56 y337 x5_1).f4⟩ : S56)) (k56_mkM _ _ _ (⟨(rd_T56 y337 x5_1).f0, wrap64 (x1_1 + 1), (rd_T56 y337 x5_1).f2, (rd_T56 y337 x5_1).f3, (rd_T56 y337 x5_1).f4⟩ : S56) ) (fun _ hk => hk); have hx15_1 := hcc15 1 _ rfl; (try simp only [show (k56).sz = 5 from rfl, Nat.mul_one, Nat.add_zero] at hx15_1); have hf15_1 := hfr15 1; (try simp only [show (k56).sz = 5 from rfl, Nat.mul_one, Nat.add_zero] at hf15_1); (try clear hcl15); (try clear hcc15); (try clear hfr15); (try clear hM15)) | ((with_reducible refine gate_store (t := 3) (p := 23) rfl ?_); refine store_event (t := 3) (p := 23) (v := ?vo_w16) (w1 := (w14.setCell ⟨go5, (x5_1 : Int).toNat * 5 + 1, none⟩ (.int .i64 (wrap64 (x1_1 + 1))))) ?hg ?ho ?hn ?hr ?_; (case ho => rfl); (case hg => rfl); (case hn => rfl); (case hr => exact sE); intro w16 hw; have hg : w14.grownBy w16 (some go5) := (by rw [hw]; exact HP15.2); have hp_ : Kd.R k56 56 w16 w0.heap.size (fun k_ => (P0_ k_ ∨ w.heap.size ≤ k_)) (.slice (some ⟨go5, 0, none⟩) x0_1.length co12) y338 := (by rw [hw, Ny338.out]; exact HP15.1); clear HP15; replace HB := Aside0.mk ((by rw [hw]; exact below_set (HB.out) GB5.out : Below w0.heap.size w0 w16)); replace HK := Aside0.mk (Kept.of_grown (S := (fun k_ => P0_ k_)) hg (by repeat (first | (with_reducible first | exact HK.out | apply Kept.alloc | apply Kept.drewN | apply Kept.drew) | exact HK.out)) (fun k_ e_ => (HO_0.out.1 k_ e_))); replace HO_0 := Aside0.mk hp_; clear hg hw hp_) | ((with_reducible refine gate_callee (f := 42) rfl ?_); refine goesL_ (some 29) rfl rfl Try.func42 (by kernel_rfl) rfl #[.int .i64 (wrap64 ((wrap64 (x1_1 + 1)) + 1))] rfl aE ?_; (with_reducible refine (laws_markText.calls k1 (wrap64 ((wrap64 (x1_1 + 1)) + 1)) t339 _ A7.out).mono ?_); rintro e w17 ⟨rfl, hb⟩; refine ⟨_, rfl, ?_⟩; replace HO_0 := Aside0.mk (Kd.R_below (rU HO_0.out) hb); replace HK := Aside0.mk (Kept.below (S := (fun k_ => P0_ k_)) (by repeat (first | (with_reducible first | exact HK.out | apply Kept.alloc | apply Kept.drewN | apply Kept.drew) | exact HK.out)) hb); replace HB := bH (lU) hb; (try clear hb); have p8 : 0 ≤ (x5_1 : Int) := of_decide_eq_true hE; have q8 : (x5_1 : Int) < ((x0_1.length : Int) : Int) := of_decide_eq_true hE; obtain ⟨ce8, hcl8, hM8, hcc8, hfr8⟩ := Kd.R_elem HO_0.out z56 (x5_1 : Int) p8 q8; obtain rfl := k56_openM hM8; have hx8_0 : w17.cell? ⟨go5, (x5_1 : Int).toNat * 5, none⟩ = some (.int .i64 ((rd_T56 y338 x5_1).f0)) := hcc8 0 _ rfl; have hx8_1 : w17.cell? ⟨go5, (x5_1 : Int).toNat * 5 + 1, none⟩ = some (.int .i64 ((rd_T56 y338 x5_1).f1)) := hcc8 1 _ rfl; have hx8_2 : w17.cell? ⟨go5, (x5_1 : Int).toNat * 5 + 2, none⟩ = some (.string ((rd_T56 y338 x5_1).f2)) := hcc8 2 _ rfl; have hx8_3 : w17.cell? ⟨go5, (x5_1 : Int).toNat * 5 + 3, none⟩ = some (.string ((rd_T56 y338 x5_1).f3)) := hcc8 3 _ rfl; have hx8_4 : w17.cell? ⟨go5, (x5_1 : Int).toNat * 5 + 4, none⟩ = some (.int .i64 ((rd_T56 y338 x5_1).f4)) := hcc8 4 _ rfl; have hf8_0 : w17.frozen? ⟨go5, (x5_1 : Int).toNat * 5, none⟩ = false := hfr8 0; have hf8_1 : w17.frozen? ⟨go5, (x5_1 : Int).toNat * 5 + 1, none⟩ = false := hfr8 1; have hf8_2 : w17.frozen? ⟨go5, (x5_1 : Int).toNat * 5 + 2, none⟩ = false := hfr8 2; have hf8_3 : w17.frozen? ⟨go5, (x5_1 : Int).toNat * 5 + 3, none⟩ = false := hfr8 3; have hf8_4 : w17.frozen? ⟨go5, (x5_1 : Int).toNat * 5 + 4, none⟩ = false := hfr8 4; (try clear hcl8); (try clear hcc8); (try clear hfr8); (try clear hM8); replace p8 := eq_true p8; replace q8 := eq_true q8; have HX18 := Aside0.mk (show Kd.R k56 56 w17 w0.heap.size (fun k_ => (P0_ k_ ∨ w.heap.size ≤ k_)) (.slice (some ⟨go5, 0, none⟩) x0_1.length co12) y338 from (rU HO_0.out)); obtain ⟨ce18, hcl18, hM18, hcc18, hfr18⟩ := Kd.R_elem HX18.out z56 (x5_1 : Int) (of_decide_eq_true hE) (by have h_ : (x5_1 : Int) < ((x0_1.length : Int) : Int) := of_decide_eq_true hE; first | exact h_ | (have e_ := (Kd.R_reads' HO_0.out).1; omega) | simpa using h_); obtain rfl := k56_openM hM18; have HP18 := Kd.R_seg HX18.out (x5_1 : Int) (of_decide_eq_true hE) (by have h_ : (x5_1 : Int) < ((x0_1.length : Int) : Int) := of_decide_eq_true hE; first | exact h_ | (have e_ := (Kd.R_reads' HO_0.out).1; omega) | simpa using h_) (seg := [.string t339]) (j := 2) hcl18 hcc18 (show 3 ≤ 5 from by decide) (x' := (⟨(rd_T56 y338 x5_1).f0, (rd_T56 y338 x5_1).f1, t339, (rd_T56 y338 x5_1).f3, (rd_T56 y338 x5_1).f4⟩ : S56)) (k56_mkM _ _ _ (⟨(rd_T56 y338 x5_1).f0, (rd_T56 y338 x5_1).f1, t339, (rd_T56 y338 x5_1).f3, (rd_T56 y338 x5_1).f4⟩ : S56) ) (fun _ hk => hk); have hx18_2 := hcc18 2 _ rfl; (try simp only [show (k56).sz = 5 from rfl, Nat.mul_one, Nat.add_zero] at hx18_2); have hf18_2 := hfr18 2; (try simp only [show (k56).sz = 5 from rfl, Nat.mul_one, Nat.add_zero] at hf18_2); (try clear hcl18); (try clear hcc18); (try clear hfr18); (try clear hM18)) | ((with_reducible refine gate_store (t := 9) (p := 31) rfl ?_); refine store_event (t := 9) (p := 31) (v := ?vo_w19) (w1 := (w17.setCell ⟨go5, (x5_1 : Int).toNat * 5 + 2, none⟩ (.string t339))) ?hg ?ho ?hn ?hr ?_; (case ho => rfl); (case hg => rfl); (case hn => rfl); (case hr => exact sE); intro w19 hw; have hg : w17.grownBy w19 (some go5) := (by rw [hw]; exact HP18.2); have hp_ : Kd.R k56 56 w19 w0.heap.size (fun k_ => (P0_ k_ ∨ w.heap.size ≤ k_)) (.slice (some ⟨go5, 0, none⟩) x0_1.length co12) y340 := (by rw [hw, Ny340.out]; exact HP18.1); clear HP18; replace HB := Aside0.mk ((by rw [hw]; exact below_set (HB.out) GB5.out : Below w0.heap.size w0 w19)); replace HK := Aside0.mk (Kept.of_grown (S := (fun k_ => P0_ k_)) hg (by repeat (first | (with_reducible first | exact HK.out | apply Kept.alloc | apply Kept.drewN | apply Kept.drew) | exact HK.out)) (fun k_ e_ => (HO_0.out.1 k_ e_))); replace HO_0 := Aside0.mk hp_; clear hg hw hp_) | ((with_reducible refine gate_callee (f := 42) rfl ?_); refine goesL_ (some 37) rfl rfl Try.func42 (by kernel_rfl) rfl #[.int .i64 (wrap64 ((wrap64 ((wrap64 (x1_1 + 1)) + 1)) + 1))] rfl aE ?_; (with_reducible refine (laws_markText.calls k1 (wrap64 ((wrap64 ((wrap64 (x1_1 + 1)) + 1)) + 1)) t341 _ A9.out).mono ?_); rintro e w20 ⟨rfl, hb⟩; refine ⟨_, rfl, ?_⟩; replace HO_0 := Aside0.mk (Kd.R_below (rU HO_0.out) hb); replace HK := Aside0.mk (Kept.below (S := (fun k_ => P0_ k_)) (by repeat (first | (with_reducible first | exact HK.out | apply Kept.alloc | apply Kept.drewN | apply Kept.drew) | exact HK.out)) hb); replace HB := bH (lU) hb; (try clear hb); have p10 : 0 ≤ (x5_1 : Int) := of_decide_eq_true hE; have q10 : (x5_1 : Int) < ((x0_1.length : Int) : Int) := of_decide_eq_true hE; obtain ⟨ce10, hcl10, hM10, hcc10, hfr10⟩ := Kd.R_elem HO_0.out z56 (x5_1 : Int) p10 q10; obtain rfl := k56_openM hM10; have hx10_0 : w20.cell? ⟨go5, (x5_1 : Int).toNat * 5, none⟩ = some (.int .i64 ((rd_T56 y340 x5_1).f0)) := hcc10 0 _ rfl; have hx10_1 : w20.cell? ⟨go5, (x5_1 : Int).toNat * 5 + 1, none⟩ = some (.int .i64 ((rd_T56 y340 x5_1).f1)) := hcc10 1 _ rfl; have hx10_2 : w20.cell? ⟨go5, (x5_1 : Int).toNat * 5 + 2, none⟩ = some (.string ((rd_T56 y340 x5_1).f2)) := hcc10 2 _ rfl; have hx10_3 : w20.cell? ⟨go5, (x5_1 : Int).toNat * 5 + 3, none⟩ = some (.string ((rd_T56 y340 x5_1).f3)) := hcc10 3 _ rfl; have hx10_4 : w20.cell? ⟨go5, (x5_1 : Int).toNat * 5 + 4, none⟩ = some (.int .i64 ((rd_T56 y340 x5_1).f4)) := hcc10 4 _ rfl; have hf10_0 : w20.frozen? ⟨go5, (x5_1 : Int).toNat * 5, none⟩ = false := hfr10 0; have hf10_1 : w20.frozen? ⟨go5, (x5_1 : Int).toNat * 5 + 1, none⟩ = false := hfr10 1; have hf10_2 : w20.frozen? ⟨go5, (x5_1 : Int).toNat * 5 + 2, none⟩ = false := hfr10 2; have hf10_3 : w20.frozen? ⟨go5, (x5_1 : Int).toNat * 5 + 3, none⟩ = false := hfr10 3; have hf10_4 : w20.frozen? ⟨go5, (x5_1 : Int).toNat * 5 + 4, none⟩ = false := hfr10 4; (try clear hcl10); (try clear hcc10); (try clear hfr10); (try clear hM10); replace p10 := eq_true p10; replace q10 := eq_true q10; have HX21 := Aside0.mk (show Kd.R k56 56 w20 w0.heap.size (fun k_ => (P0_ k_ ∨ w.heap.size ≤ k_)) (.slice (some ⟨go5, 0, none⟩) x0_1.length co12) y340 from (rU HO_0.out)); obtain ⟨ce21, hcl21, hM21, hcc21, hfr21⟩ := Kd.R_elem HX21.out z56 (x5_1 : Int) (of_decide_eq_true hE) (by have h_ : (x5_1 : Int) < ((x0_1.length : Int) : Int) := of_decide_eq_true hE; first | exact h_ | (have e_ := (Kd.R_reads' HO_0.out).1; omega) | simpa using h_); obtain rfl := k56_openM hM21; have HP21 := Kd.R_seg HX21.out (x5_1 : Int) (of_decide_eq_true hE) (by have h_ : (x5_1 : Int) < ((x0_1.length : Int) : Int) := of_decide_eq_true hE; first | exact h_ | (have e_ := (Kd.R_reads' HO_0.out).1; omega) | simpa using h_) (seg := [.string t341]) (j := 3) hcl21 hcc21 (show 4 ≤ 5 from by decide) (x' := (⟨(rd_T56 y340 x5_1).f0, (rd_T56 y340 x5_1).f1, (rd_T56 y340 x5_1).f2, t341, (rd_T56 y340 x5_1).f4⟩ : S56)) (k56_mkM _ _ _ (⟨(rd_T56 y340 x5_1).f0, (rd_T56 y340 x5_1).f1, (rd_T56 y340 x5_1).f2, t341, (rd_T56 y340 x5_1).f4⟩ : S56) ) (fun _ hk => hk); have hx21_3 := hcc21 3 _ rfl; (try simp only [show (k56).sz = 5 from rfl, Nat.mul_one, Nat.add_zero] at hx21_3); have hf21_3 := hfr21 3; (try simp only [show (k56).sz = 5 from rfl, Nat.mul_one, Nat.add_zero] at hf21_3); (try clear hcl21); (try clear hcc21); (try clear hfr21); (try clear hM21)) | ((with_reducible refine gate_store (t := 9) (p := 39) rfl ?_); refine store_event (t := 9) (p := 39) (v := ?vo_w22) (w1 := (w20.setCell ⟨go5, (x5_1 : Int).toNat * 5 + 3, none⟩ (.string t341))) ?hg ?ho ?hn ?hr ?_; (case ho => rfl); (case hg => rfl); (case hn => rfl); (case hr => exact sE); intro w22 hw; have hg : w20.grownBy w22 (some go5) := (by rw [hw]; exact HP21.2); have hp_ : Kd.R k56 56 w22 w0.heap.size (fun k_ => (P0_ k_ ∨ w.heap.size ≤ k_)) (.slice (some ⟨go5, 0, none⟩) x0_1.length co12) y342 := (by rw [hw, Ny342.out]; exact HP21.1); clear HP21; replace HB := Aside0.mk ((by rw [hw]; exact below_set (HB.out) GB5.out : Below w0.heap.size w0 w22)); replace HK := Aside0.mk (Kept.of_grown (S := (fun k_ => P0_ k_)) hg (by repeat (first | (with_reducible first | exact HK.out | apply Kept.alloc | apply Kept.drewN | apply Kept.drew) | exact HK.out)) (fun k_ e_ => (HO_0.out.1 k_ e_))); replace HO_0 := Aside0.mk hp_; clear hg hw hp_; have p11 : 0 ≤ (x5_1 : Int) := of_decide_eq_true hE; have q11 : (x5_1 : Int) < ((x0_1.length : Int) : Int) := of_decide_eq_true hE; obtain ⟨ce11, hcl11, hM11, hcc11, hfr11⟩ := Kd.R_elem HO_0.out z56 (x5_1 : Int) p11 q11; obtain rfl := k56_openM hM11; have hx11_0 : w22.cell? ⟨go5, (x5_1 : Int).toNat * 5, none⟩ = some (.int .i64 ((rd_T56 y342 x5_1).f0)) := hcc11 0 _ rfl; have hx11_1 : w22.cell? ⟨go5, (x5_1 : Int).toNat * 5 + 1, none⟩ = some (.int .i64 ((rd_T56 y342 x5_1).f1)) := hcc11 1 _ rfl; have hx11_2 : w22.cell? ⟨go5, (x5_1 : Int).toNat * 5 + 2, none⟩ = some (.string ((rd_T56 y342 x5_1).f2)) := hcc11 2 _ rfl; have hx11_3 : w22.cell? ⟨go5, (x5_1 : Int).toNat * 5 + 3, none⟩ = some (.string ((rd_T56 y342 x5_1).f3)) := hcc11 3 _ rfl; have hx11_4 : w22.cell? ⟨go5, (x5_1 : Int).toNat * 5 + 4, none⟩ = some (.int .i64 ((rd_T56 y342 x5_1).f4)) := hcc11 4 _ rfl; have hf11_0 : w22.frozen? ⟨go5, (x5_1 : Int).toNat * 5, none⟩ = false := hfr11 0; have hf11_1 : w22.frozen? ⟨go5, (x5_1 : Int).toNat * 5 + 1, none⟩ = false := hfr11 1; have hf11_2 : w22.frozen? ⟨go5, (x5_1 : Int).toNat * 5 + 2, none⟩ = false := hfr11 2; have hf11_3 : w22.frozen? ⟨go5, (x5_1 : Int).toNat * 5 + 3, none⟩ = false := hfr11 3; have hf11_4 : w22.frozen? ⟨go5, (x5_1 : Int).toNat * 5 + 4, none⟩ = false := hfr11 4; (try clear hcl11); (try clear hcc11); (try clear hfr11); (try clear hM11); replace p11 := eq_true p11; replace q11 := eq_true q11; have HX23 := Aside0.mk (show Kd.R k56 56 w22 w0.heap.size (fun k_ => (P0_ k_ ∨ w.heap.size ≤ k_)) (.slice (some ⟨go5, 0, none⟩) x0_1.length co12) y342 from (rU HO_0.out)); obtain ⟨ce23, hcl23, hM23, hcc23, hfr23⟩ := Kd.R_elem HX23.out z56 (x5_1 : Int) (of_decide_eq_true hE) (by have h_ : (x5_1 : Int) < ((x0_1.length : Int) : Int) := of_decide_eq_true hE; first | exact h_ | (have e_ := (Kd.R_reads' HO_0.out).1; omega) | simpa using h_); obtain rfl := k56_openM hM23; have HP23 := Kd.R_seg HX23.out (x5_1 : Int) (of_decide_eq_true hE) (by have h_ : (x5_1 : Int) < ((x0_1.length : Int) : Int) := of_decide_eq_true hE; first | exact h_ | (have e_ := (Kd.R_reads' HO_0.out).1; omega) | simpa using h_) (seg := [.int .i64 (wrap64 ((wrap64 ((wrap64 ((wrap64 (x1_1 + 1)) + 1)) + 1)) + 1))]) (j := 4) hcl23 hcc23 (show 5 ≤ 5 from by decide) (x' := (⟨(rd_T56 y342 x5_1).f0, (rd_T56 y342 x5_1).f1, (rd_T56 y342 x5_1).f2, (rd_T56 y342 x5_1).f3, wrap64 ((wrap64 ((wrap64 ((wrap64 (x1_1 + 1)) + 1)) + 1)) + 1)⟩ : S56)) (k56_mkM _ _ _ (⟨(rd_T56 y342 x5_1).f0, (rd_T56 y342 x5_1).f1, (rd_T56 y342 x5_1).f2, (rd_T56 y342 x5_1).f3, wrap64 ((wrap64 ((wrap64 ((wrap64 (x1_1 + 1)) + 1)) + 1)) + 1)⟩ : S56) ) (fun _ hk => hk); have hx23_4 := hcc23 4 _ rfl; (try simp only [show (k56).sz = 5 from rfl, Nat.mul_one, Nat.add_zero] at hx23_4); have hf23_4 := hfr23 4; (try simp only [show (k56).sz = 5 from rfl, Nat.mul_one, Nat.add_zero] at hf23_4); (try clear hcl23); (try clear hcc23); (try clear hfr23); (try clear hM23)) | ((with_reducible refine gate_store (t := 3) (p := 46) rfl ?_); refine store_event (t := 3) (p := 46) (v := ?vo_w24) (w1 := (w22.setCell ⟨go5, (x5_1 : Int).toNat * 5 + 4, none⟩ (.int .i64 (wrap64 ((wrap64 ((wrap64 ((wrap64 (x1_1 + 1)) + 1)) + 1)) + 1))))) ?hg ?ho ?hn ?hr ?_; (case ho => rfl); (case hg => rfl); (case hn => rfl); (case hr => exact sE); intro w24 hw; have hg : w22.grownBy w24 (some go5) := (by rw [hw]; exact HP23.2); have hp_ : Kd.R k56 56 w24 w0.heap.size (fun k_ => (P0_ k_ ∨ w.heap.size ≤ k_)) (.slice (some ⟨go5, 0, none⟩) x0_1.length co12) y343 := (by rw [hw, Ny343.out]; exact HP23.1); clear HP23; replace HB := Aside0.mk ((by rw [hw]; exact below_set (HB.out) GB5.out : Below w0.heap.size w0 w24)); replace HK := Aside0.mk (Kept.of_grown (S := (fun k_ => P0_ k_)) hg (by repeat (first | (with_reducible first | exact HK.out | apply Kept.alloc | apply Kept.drewN | apply Kept.drew) | exact HK.out)) (fun k_ e_ => (HO_0.out.1 k_ e_))); replace HO_0 := Aside0.mk hp_; clear hg hw hp_))
     go_roundg k1
     case measure => have := HK1.out; omega
     case rel => exact ⟨(y343), (wrap64 ((wrap64 ((wrap64 ((wrap64 ((wrap64 (x1_1 + 1)) + 1)) + 1)) + 1)) + 1)), (wrap64 (x5_1 + 1)), tE, tE, H', ⟨by have := HK1.out; omega⟩, ⟨by (with_reducible repeat (first | apply Kd.R_alloc | apply Kd.R_drewN | apply Kd.R_drew)); exact HO_0.out⟩, ⟨by repeat (first | (with_reducible first | exact HK.out | apply Kept.alloc | apply Kept.drewN | apply Kept.drew) | exact HK.out)⟩, ⟨by repeat (first | (with_reducible first | exact HB.out | apply below_alloc | apply pw_below_drewN | apply below_drew1) | exact HB.out)⟩⟩
    ·rw [if_neg c4] at H
     exact absurd H (by simp)
   ·rw [if_neg c3] at H
    have c3b0 : decide (x5_1 < (x0_1.length : Int)) = false := decide_eq_false c3
    clear c3
    simp only [Option.some.injEq, Prod.mk.injEq] at H
    obtain ⟨rfl, rfl⟩ := H
    obtain ⟨Ao25, co25, eo25⟩ := Kd.R_slice HO_0.out
    subst eo25
    go_wp2
    go_ret
    exact ⟨eE, by (with_reducible repeat (first | apply Kd.R_alloc | apply Kd.R_drewN | apply Kd.R_drew)); exact HO_0.out, lU, by repeat (first | (with_reducible first | exact HK.out | apply Kept.alloc | apply Kept.drewN | apply Kept.drew) | exact HK.out)⟩
end Go.Proofs.Ytdgaphefgpjbfaa.PFnExactMigrateSave
