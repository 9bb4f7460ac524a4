/- Texts of a row. -/
import Derived.Test.YtjjbkebodkjnkaaZFnExactLoadSave3
import Derived.Test.YtjjbkebodkjnkaaZFnExactLoadSave5
namespace Go.Proofs.Ytjjbkebodkjnkaa.PFnExactLoadSave
open Go.RowKit Go.Proofs.YtjjbkebodkjnkaaW.PrintWords Go.Proofs.YtjjbkebodkjnkaaW.PrintLast Go.Proofs.YtjjbkebodkjnkaaW.PrintMore
attribute [local go_sem] max2_int min2_int max_two min_two max_three min_three max_four min_four
set_option linter.unusedVariables false
set_option linter.unusedSimpArgs false
mutual
def impl_Change_changed.j0 : Nat → Int → Bool → Int → Int → ByteArray → ByteArray → Int → Option (Int × Bool)
 | 0, _, _, _, _, _, _, _ => none
 | k + 1, x1, x6, x276000, x276001, x276002, x276003, x276004 => if x6 = true then ((impl_inRange.f (wrap64 (x1 + x276004)) (-1000000000000000) 1000000000000000).bind fun t277 => (some (wrap64 (x1 + x276004), t277))) else (if x276001 = 3 then (impl_Change_changed.j1 k x1 (x276004 == 0) x276000 x276001 x276002 x276003 x276004) else (impl_Change_changed.j1 k x1 false x276000 x276001 x276002 x276003 x276004))
def impl_Change_changed.j1 : Nat → Int → Bool → Int → Int → ByteArray → ByteArray → Int → Option (Int × Bool)
 | 0, _, _, _, _, _, _, _ => none
 | k + 1, x1, x18, x276000, x276001, x276002, x276003, x276004 => if x18 = true then ((impl_inRange.f 0 (-1000000000000000) 1000000000000000).bind fun t278 => (some (0, t278))) else (if x276001 = 3 then ((impl_inRange.f x1 (-1000000000000000) 1000000000000000).bind fun t279 => (if t279 = true then ((impl_size.f x1).bind fun t280 => ((impl_size.f x276004).bind fun t281 => (if t281 = 0 then (none) else (if t280 ≤ (wrap64 (Int.tdiv (1000000000000000 : Int) t281)) then ((impl_inRange.f (wrap64 (x1 * x276004)) (-1000000000000000) 1000000000000000).bind fun t282 => (some (wrap64 (x1 * x276004), t282))) else (some (0, false)))))) else (some (0, false)))) else (some (0, false)))
end
def impl_Change_changed.f (k : Nat) (a0_0 : Int) (a0_1 : Int) (a0_2 : ByteArray) (a0_3 : ByteArray) (a0_4 : Int) (a1 : Int) : Option (Int × Bool) := if a0_1 = 2 then ((impl_inRange.f a1 (-2000000000000000) 2000000000000000).bind fun t276 => (impl_Change_changed.j0 k a1 t276 a0_0 a0_1 a0_2 a0_3 a0_4)) else (impl_Change_changed.j0 k a1 false a0_0 a0_1 a0_2 a0_3 a0_4)
theorem impl_Change_changed.mono_l : ∀ k, (∀ y0 y1 y2 y3 y4 y5 y6, LeO (impl_Change_changed.j0 k y0 y1 y2 y3 y4 y5 y6) (impl_Change_changed.j0 (k + 1) y0 y1 y2 y3 y4 y5 y6)) ∧ (∀ y0 y1 y2 y3 y4 y5 y6, LeO (impl_Change_changed.j1 k y0 y1 y2 y3 y4 y5 y6) (impl_Change_changed.j1 (k + 1) y0 y1 y2 y3 y4 y5 y6))
 | 0 => ⟨fun _ _ _ _ _ _ _ r h => by simp [impl_Change_changed.j0] at h, fun _ _ _ _ _ _ _ r h => by simp [impl_Change_changed.j1] at h⟩
 | k + 1 => by
  obtain ⟨ih0, ih1⟩ := impl_Change_changed.mono_l k
  refine ⟨?_, ?_⟩
  ·intro y0 y1 y2 y3 y4 y5 y6
   unfold impl_Change_changed.j0
   repeat' first
   | (with_reducible exact ih0 _ _ _ _ _ _ _)
   | (with_reducible exact ih1 _ _ _ _ _ _ _)
   | (with_reducible first | exact LeO.refl _ | exact LeO.none _ | refine LeO.ite ?_ ?_ | refine LeO.bind ?_ (fun _ => ?_))
   | exact ih0 _ _ _ _ _ _ _
   | exact ih1 _ _ _ _ _ _ _ | exact LeO.none _ | refine LeO.ite ?_ ?_ | refine LeO.bind ?_ (fun _ => ?_)
  ·intro y0 y1 y2 y3 y4 y5 y6
   unfold impl_Change_changed.j1
   repeat' first
   | (with_reducible exact ih0 _ _ _ _ _ _ _)
   | (with_reducible exact ih1 _ _ _ _ _ _ _)
   | (with_reducible first | exact LeO.refl _ | exact LeO.none _ | refine LeO.ite ?_ ?_ | refine LeO.bind ?_ (fun _ => ?_))
   | exact ih0 _ _ _ _ _ _ _
   | exact ih1 _ _ _ _ _ _ _ | exact LeO.none _ | refine LeO.ite ?_ ?_ | refine LeO.bind ?_ (fun _ => ?_)
theorem impl_Change_changed.mono : ∀ a0 a1 a2 a3 a4 a5 k, LeO (impl_Change_changed.f k a0 a1 a2 a3 a4 a5) (impl_Change_changed.f (k + 1) a0 a1 a2 a3 a4 a5) := by
 intro a0 a1 a2 a3 a4 a5 k
 obtain ⟨ih0, ih1⟩ := impl_Change_changed.mono_l k
 unfold impl_Change_changed.f
 repeat' first
   | (with_reducible exact ih0 _ _ _ _ _ _ _)
   | (with_reducible exact ih1 _ _ _ _ _ _ _)
   | (with_reducible first | exact LeO.refl _ | exact LeO.none _ | refine LeO.ite ?_ ?_ | refine LeO.bind ?_ (fun _ => ?_))
   | exact ih0 _ _ _ _ _ _ _
   | exact ih1 _ _ _ _ _ _ _ | exact LeO.none _ | refine LeO.ite ?_ ?_ | refine LeO.bind ?_ (fun _ => ?_)
def impl_Change_changed.T6 : Bool × List (List Nat × List Nat) := (true, [([], []), ([0], [0]), ([1], [1]), ([2], [2]), ([3], [3]), ([4, 3, 3], [3, 4]), ([3, 5], [3, 5]), ([6, 5], [6]), ([7], [7]), ([8, 7, 7], [7, 8]), ([7], [7]), ([10, 7], [7, 10]), ([11, 9, 7], [7, 11]), ([12, 7], [7, 12]), ([9, 13, 7], [7, 9, 13]), ([7, 14], [7, 14]), ([15, 12], [15])])
def impl_Change_changed.B6 : List Nat := [0, 1, 3, 7, 15, 31, 63, 127, 255, 511, 255, 1279, 4095, 8191, 16383, 32767, 65535]
theorem impl_Change_changed.tab6 : rtab .any (opsOf Try.f54 6) = impl_Change_changed.T6 := by kernel_rfl
theorem impl_Change_changed.bits6 : waitsOk impl_Change_changed.T6.2 impl_Change_changed.B6 = true := by kernel_rfl
set_option maxHeartbeats 8000000 in
set_option maxRecDepth 100000 in
theorem impl_Change_changed.calls (k : Nat) (a0_0 : Int) (a0_1 : Int) (a0_2 : ByteArray) (a0_3 : ByteArray) (a0_4 : Int) (a1 : Int) (r1 : Int) (r2 : Bool) (w : World) (h : impl_Change_changed.f k a0_0 a0_1 a0_2 a0_3 a0_4 a1 = some (r1, r2)) :
  Calls Try.prog 54 #[.agg #[.int .i64 a0_0, .int .i64 a0_1, .string a0_2, .string a0_3, .int .i64 a0_4], .int .i64 a1] w fun e w' => e = .returned (.tuple #[.int .i64 r1, .bool r2]) ∧ Below w.heap.size w w' := by
 have hu45 := Try.underlying45
 have HB := Aside0.mk (Below.refl w.heap.size w)
 have H : (if a0_1 = 2 then ((impl_inRange.f a1 (-2000000000000000) 2000000000000000).bind fun t276 => (impl_Change_changed.j0 k a1 t276 a0_0 a0_1 a0_2 a0_3 a0_4)) else (impl_Change_changed.j0 k a1 false a0_0 a0_1 a0_2 a0_3 a0_4)) = some (r1, r2) := h
 clear h
 have HC3 := Aside0.mk H
 clear H
 go_enter Try.func54, Try.ntmps54
 go_upto_region 2 with (first | ((with_reducible refine gate_dst (N := 2) rfl ?_); refine box_event rfl (N := 2) rfl (cs := #[.int .i64 a0_0, .int .i64 a0_1, .string a0_2, .string a0_3, .int .i64 a0_4]) (t := 45) sE ?_; intro gb275 hg w4 hbox hb; have BK275 := Aside0.mk hbox; have GW275 := gS w hg (lU); have GE275 := gS w hg (lU); replace HB := bH (lU) hb; clear hb hbox hg))
 (try simp only [Act.put, List.setIfInBounds_toArray, List.set_cons_zero, List.set_cons_succ])
 go_cut [6] (fun v6 wc => ∃ (kq : Nat) (x6_2 : Bool), v6 = .bool x6_2 ∧ Aside0 (impl_Change_changed.j0 kq a1 x6_2 a0_0 a0_1 a0_2 a0_3 a0_4 = some (r1, r2)) ∧ Aside0 (kq ≤ k) ∧ Aside0 (wc.heap[gb275]? = some (.cells #[.int .i64 a0_0, .int .i64 a0_1, .string a0_2, .string a0_3, .int .i64 a0_4] 45 (0, 0))) ∧ Aside0 (Below w.heap.size w wc))
 case first =>
  have H := HC3.out
  clear HC3
  by_cases c5 : a0_1 = 2
  ·rw [if_pos c5] at H
   have c5b0 : (a0_1 == 2) = true := beq_iff_eq.mpr c5
   have c5b1 : (a0_1 != 2) = false := bne_eq_false_iff_eq.mpr c5
   clear c5
   (first | rw [c5b0] | (simp only [i64_w, i32_w]; rw [c5b0]) | (rw [c5b2]; simp only [Bool.not_false, Bool.not_true]) | skip)
   replace H := Option.bind_eq_some_iff.mp H
   obtain ⟨t276, A60, H⟩ := H
   replace H : (impl_Change_changed.j0 k a1 t276 a0_0 a0_1 a0_2 a0_3 a0_4) = some (r1, r2) := H
   have A6 := Aside0.mk A60
   clear A60
   have H' := Aside0.mk H
   clear H
   have hcz7_0 := cz BK275 0 (.int .i64 a0_0)
   have hcz7_1 := cz BK275 1 (.int .i64 a0_1)
   have hcz7_2 := cz BK275 2 (.string a0_2)
   have hcz7_3 := cz BK275 3 (.string a0_3)
   have hcz7_4 := cz BK275 4 (.int .i64 a0_4)
   have hfz7_0 := fz BK275 0
   have hfz7_1 := fz BK275 1
   have hfz7_2 := fz BK275 2
   have hfz7_3 := fz BK275 3
   have hfz7_4 := fz BK275 4
   go_wp2_with (first | (go_at_call 40; (with_reducible refine (impl_inRange.calls a1 (-2000000000000000) 2000000000000000 t276 _ A6.out).mono ?_); rintro e w' ⟨rfl, ⟨nd, rfl⟩⟩))
   go_meet
   case rel => exact ⟨_, (t276), tE, H', ⟨by first | omega | exact Nat.le_refl _⟩, ⟨by refine bU ?_; exact BK275.out⟩, ⟨by repeat (first | (with_reducible first | exact HB.out | apply below_alloc | apply pw_below_drewN | apply below_drew1 | refine below_set ?_ GE275.out) | exact HB.out)⟩⟩
  ·rw [if_neg c5] at H
   have c5b0 : (a0_1 == 2) = false := beq_eq_false_iff_ne.mpr c5
   have c5b1 : (a0_1 != 2) = true := bne_iff_ne.mpr c5
   (first | rw [c5b0] | (simp only [i64_w, i32_w]; rw [c5b0]) | (rw [c5b2]; simp only [Bool.not_false, Bool.not_true]) | skip)
   have H' := Aside0.mk H
   clear H
   have hcz8_0 := cz BK275 0 (.int .i64 a0_0)
   have hcz8_1 := cz BK275 1 (.int .i64 a0_1)
   have hcz8_2 := cz BK275 2 (.string a0_2)
   have hcz8_3 := cz BK275 3 (.string a0_3)
   have hcz8_4 := cz BK275 4 (.int .i64 a0_4)
   have hfz8_0 := fz BK275 0
   have hfz8_1 := fz BK275 1
   have hfz8_2 := fz BK275 2
   have hfz8_3 := fz BK275 3
   have hfz8_4 := fz BK275 4
   go_wp2
   go_meet
   case rel => exact ⟨_, (false), tE, H', ⟨by first | omega | exact Nat.le_refl _⟩, ⟨by refine bU ?_; exact BK275.out⟩, ⟨by repeat (first | (with_reducible first | exact HB.out | apply below_alloc | apply pw_below_drewN | apply below_drew1 | refine below_set ?_ GE275.out) | exact HB.out)⟩⟩
 case rest =>
  clear HC3
  obtain ⟨kq, x6_2, rfl, HA, HJ2, BK275, HB⟩ := hcut
  cases kq with
  | zero => exact absurd HA.out (by simp [impl_Change_changed.j0])
  | succ kj2 =>
   have H := HA.out
   clear HA
   simp only [impl_Change_changed.j0] at H
   by_cases c9 : x6_2 = true
   ·subst c9
    have H1 : ((impl_inRange.f (wrap64 (a1 + a0_4)) (-1000000000000000) 1000000000000000).bind fun t277 => (some (wrap64 (a1 + a0_4), t277))) = some (r1, r2) := by rw [if_pos rfl] at H; exact H
    clear H
    have H := H1
    clear H1
    replace H := Option.bind_eq_some_iff.mp H
    obtain ⟨t277, A100, H⟩ := H
    replace H : (some (wrap64 (a1 + a0_4), t277)) = some (r1, r2) := H
    have A10 := Aside0.mk A100
    clear A100
    simp only [Option.some.injEq, Prod.mk.injEq] at H
    obtain ⟨rfl, rfl⟩ := H
    have hcz11_0 := cz BK275 0 (.int .i64 a0_0)
    have hcz11_1 := cz BK275 1 (.int .i64 a0_1)
    have hcz11_2 := cz BK275 2 (.string a0_2)
    have hcz11_3 := cz BK275 3 (.string a0_3)
    have hcz11_4 := cz BK275 4 (.int .i64 a0_4)
    have hfz11_0 := fz BK275 0
    have hfz11_1 := fz BK275 1
    have hfz11_2 := fz BK275 2
    have hfz11_3 := fz BK275 3
    have hfz11_4 := fz BK275 4
    go_wp2_with (first | ((with_reducible refine gate_callee (f := 40) rfl ?_); refine goesL_ (some 50) rfl rfl Try.func40 (by kernel_rfl) rfl #[.int .i64 (wrap64 (a1 + a0_4)), .int .i64 (-1000000000000000), .int .i64 1000000000000000] rfl aE ?_; (with_reducible refine (impl_inRange.calls (wrap64 (a1 + a0_4)) (-1000000000000000) 1000000000000000 t277 _ A10.out).mono ?_); rintro e w' ⟨rfl, ⟨nd, rfl⟩⟩; refine ⟨_, rfl, ?_⟩))
    go_ret2
    exact ⟨eE, lV1 GE275⟩
   ·replace c9 := Bool.eq_false_iff.mpr c9
    subst c9
    have H1 : (if a0_1 = 3 then (impl_Change_changed.j1 kj2 a1 (a0_4 == 0) a0_0 a0_1 a0_2 a0_3 a0_4) else (impl_Change_changed.j1 kj2 a1 false a0_0 a0_1 a0_2 a0_3 a0_4)) = some (r1, r2) := by rw [if_neg (show ¬ (false = true) by decide)] at H; exact H
    clear H
    have H := H1
    clear H1
    have HC12 := Aside0.mk H
    clear H
    go_upto_region 4 with (fail)
    go_cut [18] (fun v18 wc => ∃ (kq : Nat) (x18_11 : Bool), v18 = .bool x18_11 ∧ Aside0 (impl_Change_changed.j1 kq a1 x18_11 a0_0 a0_1 a0_2 a0_3 a0_4 = some (r1, r2)) ∧ Aside0 (kq ≤ kj2) ∧ Aside0 (wc.heap[gb275]? = some (.cells #[.int .i64 a0_0, .int .i64 a0_1, .string a0_2, .string a0_3, .int .i64 a0_4] 45 (0, 0))) ∧ Aside0 (Below w.heap.size w wc))
    case first =>
     have H := HC12.out
     clear HC12
     by_cases c13 : a0_1 = 3
     ·rw [if_pos c13] at H
      have c13b0 : (a0_1 == 3) = true := beq_iff_eq.mpr c13
      have c13b1 : (a0_1 != 3) = false := bne_eq_false_iff_eq.mpr c13
      clear c13
      (first | rw [c13b0] | (simp only [i64_w, i32_w]; rw [c13b0]) | (rw [c13b2]; simp only [Bool.not_false, Bool.not_true]) | skip)
      have H' := Aside0.mk H
      clear H
      have hcz14_0 := cz BK275 0 (.int .i64 a0_0)
      have hcz14_1 := cz BK275 1 (.int .i64 a0_1)
      have hcz14_2 := cz BK275 2 (.string a0_2)
      have hcz14_3 := cz BK275 3 (.string a0_3)
      have hcz14_4 := cz BK275 4 (.int .i64 a0_4)
      have hfz14_0 := fz BK275 0
      have hfz14_1 := fz BK275 1
      have hfz14_2 := fz BK275 2
      have hfz14_3 := fz BK275 3
      have hfz14_4 := fz BK275 4
      go_wp2
      go_meet
      case rel => exact ⟨_, ((a0_4 == 0)), tE, H', ⟨by have := HJ2.out; first | omega | exact Nat.le_refl _⟩, ⟨by refine bU ?_; exact BK275.out⟩, ⟨by repeat (first | (with_reducible first | exact HB.out | apply below_alloc | apply pw_below_drewN | apply below_drew1 | refine below_set ?_ GE275.out) | exact HB.out)⟩⟩
     ·rw [if_neg c13] at H
      have c13b0 : (a0_1 == 3) = false := beq_eq_false_iff_ne.mpr c13
      have c13b1 : (a0_1 != 3) = true := bne_iff_ne.mpr c13
      (first | rw [c13b0] | (simp only [i64_w, i32_w]; rw [c13b0]) | (rw [c13b2]; simp only [Bool.not_false, Bool.not_true]) | skip)
      have H' := Aside0.mk H
      clear H
      have hcz15_0 := cz BK275 0 (.int .i64 a0_0)
      have hcz15_1 := cz BK275 1 (.int .i64 a0_1)
      have hcz15_2 := cz BK275 2 (.string a0_2)
      have hcz15_3 := cz BK275 3 (.string a0_3)
      have hcz15_4 := cz BK275 4 (.int .i64 a0_4)
      have hfz15_0 := fz BK275 0
      have hfz15_1 := fz BK275 1
      have hfz15_2 := fz BK275 2
      have hfz15_3 := fz BK275 3
      have hfz15_4 := fz BK275 4
      go_wp2
      go_meet
      case rel => exact ⟨_, (false), tE, H', ⟨by have := HJ2.out; first | omega | exact Nat.le_refl _⟩, ⟨by refine bU ?_; exact BK275.out⟩, ⟨by repeat (first | (with_reducible first | exact HB.out | apply below_alloc | apply pw_below_drewN | apply below_drew1 | refine below_set ?_ GE275.out) | exact HB.out)⟩⟩
    case rest =>
     clear HC12
     try clear c9
     obtain ⟨kq, x18_11, rfl, HA, HJ11, BK275, HB⟩ := hcut
     cases kq with
     | zero => exact absurd HA.out (by simp [impl_Change_changed.j1])
     | succ kj11 =>
      have H := HA.out
      clear HA
      simp only [impl_Change_changed.j1] at H
      by_cases c16 : x18_11 = true
      ·subst c16
       have H1 : ((impl_inRange.f 0 (-1000000000000000) 1000000000000000).bind fun t278 => (some (0, t278))) = some (r1, r2) := by rw [if_pos rfl] at H; exact H
       clear H
       have H := H1
       clear H1
       replace H := Option.bind_eq_some_iff.mp H
       obtain ⟨t278, A170, H⟩ := H
       replace H : (some (0, t278)) = some (r1, r2) := H
       have A17 := Aside0.mk A170
       clear A170
       simp only [Option.some.injEq, Prod.mk.injEq] at H
       obtain ⟨rfl, rfl⟩ := H
       go_wp2_with (first | ((with_reducible refine gate_callee (f := 40) rfl ?_); refine goesL_ (some 50) rfl rfl Try.func40 (by kernel_rfl) rfl #[.int .i64 0, .int .i64 (-1000000000000000), .int .i64 1000000000000000] rfl aE ?_; (with_reducible refine (impl_inRange.calls 0 (-1000000000000000) 1000000000000000 t278 _ A17.out).mono ?_); rintro e w' ⟨rfl, ⟨nd, rfl⟩⟩; refine ⟨_, rfl, ?_⟩))
       go_ret2
       exact ⟨eE, lV1 GE275⟩
      ·replace c16 := Bool.eq_false_iff.mpr c16
       subst c16
       have H1 : (if a0_1 = 3 then ((impl_inRange.f a1 (-1000000000000000) 1000000000000000).bind fun t279 => (if t279 = true then ((impl_size.f a1).bind fun t280 => ((impl_size.f a0_4).bind fun t281 => (if t281 = 0 then (none) else (if t280 ≤ (wrap64 (Int.tdiv (1000000000000000 : Int) t281)) then ((impl_inRange.f (wrap64 (a1 * a0_4)) (-1000000000000000) 1000000000000000).bind fun t282 => (some (wrap64 (a1 * a0_4), t282))) else (some (0, false)))))) else (some (0, false)))) else (some (0, false))) = some (r1, r2) := by rw [if_neg (show ¬ (false = true) by decide)] at H; exact H
       clear H
       have H := H1
       clear H1
       by_cases c18 : a0_1 = 3
       ·rw [if_pos c18] at H
        have c18b0 : (a0_1 == 3) = true := beq_iff_eq.mpr c18
        have c18b1 : (a0_1 != 3) = false := bne_eq_false_iff_eq.mpr c18
        clear c18
        replace H := Option.bind_eq_some_iff.mp H
        obtain ⟨t279, A190, H⟩ := H
        replace H : (if t279 = true then ((impl_size.f a1).bind fun t280 => ((impl_size.f a0_4).bind fun t281 => (if t281 = 0 then (none) else (if t280 ≤ (wrap64 (Int.tdiv (1000000000000000 : Int) t281)) then ((impl_inRange.f (wrap64 (a1 * a0_4)) (-1000000000000000) 1000000000000000).bind fun t282 => (some (wrap64 (a1 * a0_4), t282))) else (some (0, false)))))) else (some (0, false))) = some (r1, r2) := H
        have A19 := Aside0.mk A190
        clear A190
        by_cases c20 : t279 = true
        ·subst c20
         have H1 : ((impl_size.f a1).bind fun t280 => ((impl_size.f a0_4).bind fun t281 => (if t281 = 0 then (none) else (if t280 ≤ (wrap64 (Int.tdiv (1000000000000000 : Int) t281)) then ((impl_inRange.f (wrap64 (a1 * a0_4)) (-1000000000000000) 1000000000000000).bind fun t282 => (some (wrap64 (a1 * a0_4), t282))) else (some (0, false)))))) = some (r1, r2) := by rw [if_pos rfl] at H; exact H
         clear H
         have H := H1
         clear H1
         replace H := Option.bind_eq_some_iff.mp H
         obtain ⟨t280, A210, H⟩ := H
         replace H : ((impl_size.f a0_4).bind fun t281 => (if t281 = 0 then (none) else (if t280 ≤ (wrap64 (Int.tdiv (1000000000000000 : Int) t281)) then ((impl_inRange.f (wrap64 (a1 * a0_4)) (-1000000000000000) 1000000000000000).bind fun t282 => (some (wrap64 (a1 * a0_4), t282))) else (some (0, false))))) = some (r1, r2) := H
         have A21 := Aside0.mk A210
         clear A210
         replace H := Option.bind_eq_some_iff.mp H
         obtain ⟨t281, A220, H⟩ := H
         replace H : (if t281 = 0 then (none) else (if t280 ≤ (wrap64 (Int.tdiv (1000000000000000 : Int) t281)) then ((impl_inRange.f (wrap64 (a1 * a0_4)) (-1000000000000000) 1000000000000000).bind fun t282 => (some (wrap64 (a1 * a0_4), t282))) else (some (0, false)))) = some (r1, r2) := H
         have A22 := Aside0.mk A220
         clear A220
         by_cases c23 : t281 = 0
         ·rw [if_pos c23] at H
          exact absurd H (by simp)
         ·rw [if_neg c23] at H
          have c23b0 : (t281 == 0) = false := beq_eq_false_iff_ne.mpr c23
          have c23b1 : (t281 != 0) = true := bne_iff_ne.mpr c23
          by_cases c24 : t280 ≤ (wrap64 (Int.tdiv (1000000000000000 : Int) t281))
          ·rw [if_pos c24] at H
           have c24b0 : decide (t280 ≤ (wrap64 (Int.tdiv (1000000000000000 : Int) t281))) = true := decide_eq_true c24
           clear c24
           replace H := Option.bind_eq_some_iff.mp H
           obtain ⟨t282, A250, H⟩ := H
           replace H : (some (wrap64 (a1 * a0_4), t282)) = some (r1, r2) := H
           have A25 := Aside0.mk A250
           clear A250
           simp only [Option.some.injEq, Prod.mk.injEq] at H
           obtain ⟨rfl, rfl⟩ := H
           try go_wp2
           replace BK275 := Aside0.mk (blk_drew BK275.out)
           replace HB := Aside0.mk (below_drew1 HB.out)
           refine start_ (n := 17) (S := fun w' => w'.cell? ⟨gb275, 0, none⟩ = some (.int .i64 a0_0) ∧ w'.cell? ⟨gb275, 1, none⟩ = some (.int .i64 a0_1) ∧ w'.cell? ⟨gb275, 2, none⟩ = some (.string a0_2) ∧ w'.cell? ⟨gb275, 3, none⟩ = some (.string a0_3) ∧ w'.cell? ⟨gb275, 4, none⟩ = some (.int .i64 a0_4)) (ds := []) #[false, false, false, false, false, false, false, false, false, false, false, false, false, false, false, false, false] (by kernel_rfl) rfl rfl ⟨cz BK275 0 _, cz BK275 1 _, cz BK275 2 _, cz BK275 3 _, cz BK275 4 _⟩ (fun hHeld => ?_); refine with_tabW impl_Change_changed.tab6 impl_Change_changed.bits6 (fun HT_ HW_ => ?_)
           generalize wc.drew = w26 at BK275 HB hHeld ⊢
           refine pureA 0 28 (bz 17 1) rfl rfl (any_of HT_.out (by kernel_rfl)) ?_
           refine takeA 1 29 (bz 17 3) rfl rfl (take_ofW HT_.out HW_.out (by kernel_rfl)) hHeld (by rintro w' ⟨s0, s1, s2, s3, s4⟩; go_simp; with_reducible rfl) ?_
           refine pureA 2 30 (bz 17 7) rfl rfl (any_of HT_.out (by kernel_rfl)) ?_
           refine pureA 3 31 (bz 17 15) rfl rfl (any_of HT_.out (by kernel_rfl)) ?_
           refine pureA 4 32 (bz 17 31) rfl rfl (any_of HT_.out (by kernel_rfl)) ?_
           refine one_ (i := 5) (N := some 33) (bz 17 63) rfl rfl (one_of HT_.out (by kernel_rfl)) (by decide) (fun K hK => ?_)
           refine goes_ Try.func40 (by kernel_rfl) rfl #[.int .i64 a1, .int .i64 (-1000000000000000), .int .i64 1000000000000000] (by rfl) rfl rfl aE ?_
           with_reducible refine (impl_inRange.calls a1 (-1000000000000000) 1000000000000000 true _ A19.out).mono ?_
           rintro e w' ⟨rfl, ⟨nd, rfl⟩⟩
           refine ⟨_, rfl, ?_⟩
           refine hK.out _ _ ⟨cz BK275 0 _, cz BK275 1 _, cz BK275 2 _, cz BK275 3 _, cz BK275 4 _⟩ (fun hHeld => ?_)
           clear hK K
           refine norm_ (a' := ?_) ?_ ?_
           rotate_left
           ·show Act.put _ (some 33) _ = _
            simp only [Act.put, List.setIfInBounds_toArray, List.set_cons_zero, List.set_cons_succ, i64_w, i32_w]
            rfl
           refine pureA 6 34 (bz 17 127) rfl rfl (any_of HT_.out (by kernel_rfl)) ?_
           refine pureA 7 35 (bz 17 255) rfl rfl (any_of HT_.out (by kernel_rfl)) ?_
           refine pureA 8 36 (bz 17 511) rfl rfl (any_of HT_.out (by kernel_rfl)) ?_
           refine pureA 10 38 (bz 17 1535) rfl rfl (any_of HT_.out (by kernel_rfl)) ?_
           refine takeA 11 39 (bz 17 3583) rfl rfl (take_ofW HT_.out HW_.out (by kernel_rfl)) hHeld (by rintro w' ⟨s0, s1, s2, s3, s4⟩; go_simp; with_reducible rfl) ?_
           refine one_ (i := 9) (N := some 37) (bz 17 4095) rfl rfl (one_of HT_.out (by kernel_rfl)) (by decide) (fun K hK => ?_)
           refine goes_ Try.func65 (by kernel_rfl) rfl #[.int .i64 a1] (by rfl) rfl rfl aE ?_
           with_reducible refine (impl_size.calls a1 t280 _ A21.out).mono ?_
           rintro e w27 ⟨rfl, hb⟩
           refine ⟨_, rfl, ?_⟩
           replace BK275 := bB (bV BK275) hb
           replace HB := bH (lV1 GE275) hb
           (try clear hb)
           (try clear hb2)
           (try clear hk)
           (try clear hi)
           refine hK.out _ _ ⟨cz BK275 0 _, cz BK275 1 _, cz BK275 2 _, cz BK275 3 _, cz BK275 4 _⟩ (fun hHeld => ?_)
           clear hK K
           refine norm_ (a' := ?_) ?_ ?_
           rotate_left
           ·show Act.put _ (some 37) _ = _
            simp only [Act.put, List.setIfInBounds_toArray, List.set_cons_zero, List.set_cons_succ, i64_w, i32_w]
            rfl
           refine one_ (i := 12) (N := some 40) (bz 17 8191) rfl rfl (one_of HT_.out (by kernel_rfl)) (by decide) (fun K hK => ?_)
           refine goes_ Try.func65 (by kernel_rfl) rfl #[.int .i64 a0_4] (by rfl) rfl rfl aE ?_
           with_reducible refine (impl_size.calls a0_4 t281 _ A22.out).mono ?_
           rintro e w28 ⟨rfl, hb⟩
           refine ⟨_, rfl, ?_⟩
           replace BK275 := bB (bV BK275) hb
           replace HB := bH (lV1 GE275) hb
           (try clear hb)
           (try clear hb2)
           (try clear hk)
           (try clear hi)
           refine hK.out _ _ ⟨cz BK275 0 _, cz BK275 1 _, cz BK275 2 _, cz BK275 3 _, cz BK275 4 _⟩ (fun hHeld => ?_)
           clear hK K
           refine norm_ (a' := ?_) ?_ ?_
           rotate_left
           ·show Act.put _ (some 40) _ = _
            simp only [Act.put, List.setIfInBounds_toArray, List.set_cons_zero, List.set_cons_succ, i64_w, i32_w]
            rfl
           refine pureA 13 41 (bz 17 16383) rfl rfl (any_of HT_.out (by kernel_rfl)) ?_
           refine pureA 14 42 (bz 17 32767) rfl rfl (any_of HT_.out (by kernel_rfl)) ?_
           refine pureA 15 43 (bz 17 65535) rfl rfl (any_of HT_.out (by kernel_rfl)) ?_
           refine pureA 16 27 (bz 17 131071) rfl rfl (any_of HT_.out (by kernel_rfl)) ?_
           refine done_ (done_of HT_.out (by kernel_rfl)) ?_
           have hcz29_0 := cz BK275 0 (.int .i64 a0_0)
           have hcz29_1 := cz BK275 1 (.int .i64 a0_1)
           have hcz29_2 := cz BK275 2 (.string a0_2)
           have hcz29_3 := cz BK275 3 (.string a0_3)
           have hcz29_4 := cz BK275 4 (.int .i64 a0_4)
           have hfz29_0 := fz BK275 0
           have hfz29_1 := fz BK275 1
           have hfz29_2 := fz BK275 2
           have hfz29_3 := fz BK275 3
           have hfz29_4 := fz BK275 4
           try go_wp2_with (first | ((with_reducible refine gate_callee (f := 40) rfl ?_); refine goesL_ (some 50) rfl rfl Try.func40 (by kernel_rfl) rfl #[.int .i64 (wrap64 (a1 * a0_4)), .int .i64 (-1000000000000000), .int .i64 1000000000000000] rfl aE ?_; (with_reducible refine (impl_inRange.calls (wrap64 (a1 * a0_4)) (-1000000000000000) 1000000000000000 t282 _ A25.out).mono ?_); rintro e w' ⟨rfl, ⟨nd, rfl⟩⟩; refine ⟨_, rfl, ?_⟩))
           go_ret2
           exact ⟨eE, lV1 GE275⟩
          ·rw [if_neg c24] at H
           have c24b0 : decide (t280 ≤ (wrap64 (Int.tdiv (1000000000000000 : Int) t281))) = false := decide_eq_false c24
           clear c24
           simp only [Option.some.injEq, Prod.mk.injEq] at H
           obtain ⟨rfl, rfl⟩ := H
           try go_wp2
           replace BK275 := Aside0.mk (blk_drew BK275.out)
           replace HB := Aside0.mk (below_drew1 HB.out)
           refine start_ (n := 17) (S := fun w' => w'.cell? ⟨gb275, 0, none⟩ = some (.int .i64 a0_0) ∧ w'.cell? ⟨gb275, 1, none⟩ = some (.int .i64 a0_1) ∧ w'.cell? ⟨gb275, 2, none⟩ = some (.string a0_2) ∧ w'.cell? ⟨gb275, 3, none⟩ = some (.string a0_3) ∧ w'.cell? ⟨gb275, 4, none⟩ = some (.int .i64 a0_4)) (ds := []) #[false, false, false, false, false, false, false, false, false, false, false, false, false, false, false, false, false] (by kernel_rfl) rfl rfl ⟨cz BK275 0 _, cz BK275 1 _, cz BK275 2 _, cz BK275 3 _, cz BK275 4 _⟩ (fun hHeld => ?_); refine with_tabW impl_Change_changed.tab6 impl_Change_changed.bits6 (fun HT_ HW_ => ?_)
           generalize wc.drew = w30 at BK275 HB hHeld ⊢
           refine pureA 0 28 (bz 17 1) rfl rfl (any_of HT_.out (by kernel_rfl)) ?_
           refine takeA 1 29 (bz 17 3) rfl rfl (take_ofW HT_.out HW_.out (by kernel_rfl)) hHeld (by rintro w' ⟨s0, s1, s2, s3, s4⟩; go_simp; with_reducible rfl) ?_
           refine pureA 2 30 (bz 17 7) rfl rfl (any_of HT_.out (by kernel_rfl)) ?_
           refine pureA 3 31 (bz 17 15) rfl rfl (any_of HT_.out (by kernel_rfl)) ?_
           refine pureA 4 32 (bz 17 31) rfl rfl (any_of HT_.out (by kernel_rfl)) ?_
           refine one_ (i := 5) (N := some 33) (bz 17 63) rfl rfl (one_of HT_.out (by kernel_rfl)) (by decide) (fun K hK => ?_)
           refine goes_ Try.func40 (by kernel_rfl) rfl #[.int .i64 a1, .int .i64 (-1000000000000000), .int .i64 1000000000000000] (by rfl) rfl rfl aE ?_
           with_reducible refine (impl_inRange.calls a1 (-1000000000000000) 1000000000000000 true _ A19.out).mono ?_
           rintro e w' ⟨rfl, ⟨nd, rfl⟩⟩
           refine ⟨_, rfl, ?_⟩
           refine hK.out _ _ ⟨cz BK275 0 _, cz BK275 1 _, cz BK275 2 _, cz BK275 3 _, cz BK275 4 _⟩ (fun hHeld => ?_)
           clear hK K
           refine norm_ (a' := ?_) ?_ ?_
           rotate_left
           ·show Act.put _ (some 33) _ = _
            simp only [Act.put, List.setIfInBounds_toArray, List.set_cons_zero, List.set_cons_succ, i64_w, i32_w]
            rfl
           refine pureA 6 34 (bz 17 127) rfl rfl (any_of HT_.out (by kernel_rfl)) ?_
           refine pureA 7 35 (bz 17 255) rfl rfl (any_of HT_.out (by kernel_rfl)) ?_
           refine pureA 8 36 (bz 17 511) rfl rfl (any_of HT_.out (by kernel_rfl)) ?_
           refine pureA 10 38 (bz 17 1535) rfl rfl (any_of HT_.out (by kernel_rfl)) ?_
           refine takeA 11 39 (bz 17 3583) rfl rfl (take_ofW HT_.out HW_.out (by kernel_rfl)) hHeld (by rintro w' ⟨s0, s1, s2, s3, s4⟩; go_simp; with_reducible rfl) ?_
           refine one_ (i := 9) (N := some 37) (bz 17 4095) rfl rfl (one_of HT_.out (by kernel_rfl)) (by decide) (fun K hK => ?_)
           refine goes_ Try.func65 (by kernel_rfl) rfl #[.int .i64 a1] (by rfl) rfl rfl aE ?_
           with_reducible refine (impl_size.calls a1 t280 _ A21.out).mono ?_
           rintro e w31 ⟨rfl, hb⟩
           refine ⟨_, rfl, ?_⟩
           replace BK275 := bB (bV BK275) hb
           replace HB := bH (lV1 GE275) hb
           (try clear hb)
           (try clear hb2)
           (try clear hk)
           (try clear hi)
           refine hK.out _ _ ⟨cz BK275 0 _, cz BK275 1 _, cz BK275 2 _, cz BK275 3 _, cz BK275 4 _⟩ (fun hHeld => ?_)
           clear hK K
           refine norm_ (a' := ?_) ?_ ?_
           rotate_left
           ·show Act.put _ (some 37) _ = _
            simp only [Act.put, List.setIfInBounds_toArray, List.set_cons_zero, List.set_cons_succ, i64_w, i32_w]
            rfl
           refine one_ (i := 12) (N := some 40) (bz 17 8191) rfl rfl (one_of HT_.out (by kernel_rfl)) (by decide) (fun K hK => ?_)
           refine goes_ Try.func65 (by kernel_rfl) rfl #[.int .i64 a0_4] (by rfl) rfl rfl aE ?_
           with_reducible refine (impl_size.calls a0_4 t281 _ A22.out).mono ?_
           rintro e w32 ⟨rfl, hb⟩
           refine ⟨_, rfl, ?_⟩
           replace BK275 := bB (bV BK275) hb
           replace HB := bH (lV1 GE275) hb
           (try clear hb)
           (try clear hb2)
           (try clear hk)
           (try clear hi)
           refine hK.out _ _ ⟨cz BK275 0 _, cz BK275 1 _, cz BK275 2 _, cz BK275 3 _, cz BK275 4 _⟩ (fun hHeld => ?_)
           clear hK K
           refine norm_ (a' := ?_) ?_ ?_
           rotate_left
           ·show Act.put _ (some 40) _ = _
            simp only [Act.put, List.setIfInBounds_toArray, List.set_cons_zero, List.set_cons_succ, i64_w, i32_w]
            rfl
           refine pureA 13 41 (bz 17 16383) rfl rfl (any_of HT_.out (by kernel_rfl)) ?_
           refine pureA 14 42 (bz 17 32767) rfl rfl (any_of HT_.out (by kernel_rfl)) ?_
           refine pureA 15 43 (bz 17 65535) rfl rfl (any_of HT_.out (by kernel_rfl)) ?_
           refine pureA 16 27 (bz 17 131071) rfl rfl (any_of HT_.out (by kernel_rfl)) ?_
           refine done_ (done_of HT_.out (by kernel_rfl)) ?_
           try go_wp2
           go_ret2
           exact ⟨eE, lV1 GE275⟩
        ·replace c20 := Bool.eq_false_iff.mpr c20
         subst c20
         have H1 : (some (0, false)) = some (r1, r2) := by rw [if_neg (show ¬ (false = true) by decide)] at H; exact H
         clear H
         have H := H1
         clear H1
         simp only [Option.some.injEq, Prod.mk.injEq] at H
         obtain ⟨rfl, rfl⟩ := H
         try go_wp2
         replace BK275 := Aside0.mk (blk_drew BK275.out)
         replace HB := Aside0.mk (below_drew1 HB.out)
         refine start_ (n := 17) (S := fun w' => w'.cell? ⟨gb275, 0, none⟩ = some (.int .i64 a0_0) ∧ w'.cell? ⟨gb275, 1, none⟩ = some (.int .i64 a0_1) ∧ w'.cell? ⟨gb275, 2, none⟩ = some (.string a0_2) ∧ w'.cell? ⟨gb275, 3, none⟩ = some (.string a0_3) ∧ w'.cell? ⟨gb275, 4, none⟩ = some (.int .i64 a0_4)) (ds := []) #[false, false, false, false, false, false, false, false, false, false, false, false, false, false, false, false, false] (by kernel_rfl) rfl rfl ⟨cz BK275 0 _, cz BK275 1 _, cz BK275 2 _, cz BK275 3 _, cz BK275 4 _⟩ (fun hHeld => ?_); refine with_tabW impl_Change_changed.tab6 impl_Change_changed.bits6 (fun HT_ HW_ => ?_)
         generalize wc.drew = w33 at BK275 HB hHeld ⊢
         refine pureA 0 28 (bz 17 1) rfl rfl (any_of HT_.out (by kernel_rfl)) ?_
         refine takeA 1 29 (bz 17 3) rfl rfl (take_ofW HT_.out HW_.out (by kernel_rfl)) hHeld (by rintro w' ⟨s0, s1, s2, s3, s4⟩; go_simp; with_reducible rfl) ?_
         refine pureA 2 30 (bz 17 7) rfl rfl (any_of HT_.out (by kernel_rfl)) ?_
         refine pureA 3 31 (bz 17 15) rfl rfl (any_of HT_.out (by kernel_rfl)) ?_
         refine pureA 4 32 (bz 17 31) rfl rfl (any_of HT_.out (by kernel_rfl)) ?_
         refine one_ (i := 5) (N := some 33) (bz 17 63) rfl rfl (one_of HT_.out (by kernel_rfl)) (by decide) (fun K hK => ?_)
         refine goes_ Try.func40 (by kernel_rfl) rfl #[.int .i64 a1, .int .i64 (-1000000000000000), .int .i64 1000000000000000] (by rfl) rfl rfl aE ?_
         with_reducible refine (impl_inRange.calls a1 (-1000000000000000) 1000000000000000 false _ A19.out).mono ?_
         rintro e w' ⟨rfl, ⟨nd, rfl⟩⟩
         refine ⟨_, rfl, ?_⟩
         refine hK.out _ _ ⟨cz BK275 0 _, cz BK275 1 _, cz BK275 2 _, cz BK275 3 _, cz BK275 4 _⟩ (fun hHeld => ?_)
         clear hK K
         refine norm_ (a' := ?_) ?_ ?_
         rotate_left
         ·show Act.put _ (some 33) _ = _
          simp only [Act.put, List.setIfInBounds_toArray, List.set_cons_zero, List.set_cons_succ, i64_w, i32_w]
          rfl
         refine pureA 6 34 (bz 17 127) rfl rfl (any_of HT_.out (by kernel_rfl)) ?_
         refine pureA 7 35 (bz 17 255) rfl rfl (any_of HT_.out (by kernel_rfl)) ?_
         refine pureU 8 36 (bz 17 511) rfl rfl (any_of HT_.out (by kernel_rfl)) ?_
         refine pureU 9 37 (bz 17 1023) rfl rfl (any_of HT_.out (by kernel_rfl)) ?_
         refine pureU 10 38 (bz 17 2047) rfl rfl (any_of HT_.out (by kernel_rfl)) ?_
         refine pureU 11 39 (bz 17 4095) rfl rfl (any_of HT_.out (by kernel_rfl)) ?_
         refine pureU 12 40 (bz 17 8191) rfl rfl (any_of HT_.out (by kernel_rfl)) ?_
         refine pureU 13 41 (bz 17 16383) rfl rfl (any_of HT_.out (by kernel_rfl)) ?_
         refine pureU 14 42 (bz 17 32767) rfl rfl (any_of HT_.out (by kernel_rfl)) ?_
         refine pureA 15 43 (bz 17 65535) rfl rfl (any_of HT_.out (by kernel_rfl)) ?_
         refine pureA 16 27 (bz 17 131071) rfl rfl (any_of HT_.out (by kernel_rfl)) ?_
         refine done_ (done_of HT_.out (by kernel_rfl)) ?_
         try go_wp2
         go_ret2
         exact ⟨eE, lV1 GE275⟩
       ·rw [if_neg c18] at H
        have c18b0 : (a0_1 == 3) = false := beq_eq_false_iff_ne.mpr c18
        have c18b1 : (a0_1 != 3) = true := bne_iff_ne.mpr c18
        simp only [Option.some.injEq, Prod.mk.injEq] at H
        obtain ⟨rfl, rfl⟩ := H
        try go_wp2
        replace BK275 := Aside0.mk (blk_drew BK275.out)
        replace HB := Aside0.mk (below_drew1 HB.out)
        refine start_ (n := 17) (S := fun w' => w'.cell? ⟨gb275, 0, none⟩ = some (.int .i64 a0_0) ∧ w'.cell? ⟨gb275, 1, none⟩ = some (.int .i64 a0_1) ∧ w'.cell? ⟨gb275, 2, none⟩ = some (.string a0_2) ∧ w'.cell? ⟨gb275, 3, none⟩ = some (.string a0_3) ∧ w'.cell? ⟨gb275, 4, none⟩ = some (.int .i64 a0_4)) (ds := []) #[false, false, false, false, false, false, false, false, false, false, false, false, false, false, false, false, false] (by kernel_rfl) rfl rfl ⟨cz BK275 0 _, cz BK275 1 _, cz BK275 2 _, cz BK275 3 _, cz BK275 4 _⟩ (fun hHeld => ?_); refine with_tabW impl_Change_changed.tab6 impl_Change_changed.bits6 (fun HT_ HW_ => ?_)
        generalize wc.drew = w34 at BK275 HB hHeld ⊢
        refine pureA 0 28 (bz 17 1) rfl rfl (any_of HT_.out (by kernel_rfl)) ?_
        refine takeA 1 29 (bz 17 3) rfl rfl (take_ofW HT_.out HW_.out (by kernel_rfl)) hHeld (by rintro w' ⟨s0, s1, s2, s3, s4⟩; go_simp; with_reducible rfl) ?_
        refine pureA 2 30 (bz 17 7) rfl rfl (any_of HT_.out (by kernel_rfl)) ?_
        refine pureA 3 31 (bz 17 15) rfl rfl (any_of HT_.out (by kernel_rfl)) ?_
        refine pureU 4 32 (bz 17 31) rfl rfl (any_of HT_.out (by kernel_rfl)) ?_
        refine pureU 5 33 (bz 17 63) rfl rfl (any_of HT_.out (by kernel_rfl)) ?_
        refine pureA 6 34 (bz 17 127) rfl rfl (any_of HT_.out (by kernel_rfl)) ?_
        refine pureA 7 35 (bz 17 255) rfl rfl (any_of HT_.out (by kernel_rfl)) ?_
        refine pureU 8 36 (bz 17 511) rfl rfl (any_of HT_.out (by kernel_rfl)) ?_
        refine pureU 9 37 (bz 17 1023) rfl rfl (any_of HT_.out (by kernel_rfl)) ?_
        refine pureU 10 38 (bz 17 2047) rfl rfl (any_of HT_.out (by kernel_rfl)) ?_
        refine pureU 11 39 (bz 17 4095) rfl rfl (any_of HT_.out (by kernel_rfl)) ?_
        refine pureU 12 40 (bz 17 8191) rfl rfl (any_of HT_.out (by kernel_rfl)) ?_
        refine pureU 13 41 (bz 17 16383) rfl rfl (any_of HT_.out (by kernel_rfl)) ?_
        refine pureU 14 42 (bz 17 32767) rfl rfl (any_of HT_.out (by kernel_rfl)) ?_
        refine pureA 15 43 (bz 17 65535) rfl rfl (any_of HT_.out (by kernel_rfl)) ?_
        refine pureA 16 27 (bz 17 131071) rfl rfl (any_of HT_.out (by kernel_rfl)) ?_
        refine done_ (done_of HT_.out (by kernel_rfl)) ?_
        try go_wp2
        go_ret2
        exact ⟨eE, lV1 GE275⟩
end Go.Proofs.Ytjjbkebodkjnkaa.PFnExactLoadSave
namespace Go.Proofs.Ytjjbkebodkjnkaa.PFnExactLoadSave
open Go.RowKit Go.Proofs.YtjjbkebodkjnkaaW.PrintWords Go.Proofs.YtjjbkebodkjnkaaW.PrintLast Go.Proofs.YtjjbkebodkjnkaaW.PrintMore
attribute [local go_sem] max2_int min2_int max_two min_two max_three min_three max_four min_four
set_option linter.unusedVariables false
set_option linter.unusedSimpArgs false
def impl_change.f (k : Nat) (l0 : List (S49)) (a1_0 : Int) (a1_1 : Int) (a1_2 : ByteArray) (a1_3 : ByteArray) (a1_4 : Int) : Option ((List (S49)) × Bool) := (impl_valuePlace.f k l0 a1_2).bind fun bt284 => (if a1_1 = 5 then (if bt284.2 = true then (some (l0, true)) else ((impl_Value_52.f l0 bt284.1 (([(⟨a1_2, a1_4, (⟨#[]⟩ : ByteArray)⟩ : S49)] : List (S49)))).bind fun t289 => (some (t289, decide ((l0.length : Int) < 30))))) else (if bt284.2 = true then (if a1_1 = 1 then (if 0 ≤ bt284.1 then (if bt284.1 < (l0.length : Int) then ((impl_valuePlace.f k l0 a1_3).bind fun bt294 => (if bt294.2 = true then (some (([] : List (S49)), false)) else ((impl_Value_53.f l0 bt284.1 (wrap64 (bt284.1 + 1))).bind fun t296 => ((impl_valuePlace.f k t296 a1_3).bind fun bt299 => ((impl_Value_52.f t296 bt299.1 (([(⟨a1_3, (rd_T49 l0 bt284.1).f1, (rd_T49 l0 bt284.1).f2⟩ : S49)] : List (S49)))).bind fun t304 => (some (t304, true))))))) else (none)) else (none)) else (if a1_1 = 4 then ((impl_Value_53.f l0 bt284.1 (wrap64 (bt284.1 + 1))).bind fun t307 => (some (t307, true))) else (if 0 ≤ bt284.1 then (if bt284.1 < (l0.length : Int) then ((impl_Change_changed.f k a1_0 a1_1 a1_2 a1_3 a1_4 ((rd_T49 l0 bt284.1).f1)).bind fun bt311 => (some ((l0.set (bt284.1 : Int).toNat (⟨(rd_T49 l0 bt284.1).f0, bt311.1, (rd_T49 l0 bt284.1).f2⟩ : S49)), bt311.2))) else (none)) else (none)))) else (some (l0, true))))
theorem impl_change.mono : ∀ a0 a1 a2 a3 a4 a5 k, LeO (impl_change.f k a0 a1 a2 a3 a4 a5) (impl_change.f (k + 1) a0 a1 a2 a3 a4 a5) := by
 intro a0 a1 a2 a3 a4 a5 k
 unfold impl_change.f
 repeat' first
   | (with_reducible exact impl_Change_changed.mono _ _ _ _ _ _ _)
   | (with_reducible exact impl_valuePlace.mono _ _ _)
   | (with_reducible first | exact LeO.refl _ | exact LeO.none _ | refine LeO.ite ?_ ?_ | refine LeO.bind ?_ (fun _ => ?_))
   | exact impl_Change_changed.mono _ _ _ _ _ _ _
   | exact impl_valuePlace.mono _ _ _ | exact LeO.none _ | refine LeO.ite ?_ ?_ | refine LeO.bind ?_ (fun _ => ?_)
def impl_change.T20 : Bool × List (List Nat × List Nat) := (true, [([], []), ([], []), ([], []), ([1, 2], [1, 2]), ([3], [3]), ([4], [4]), ([0, 5], [0, 5]), ([6], [6]), ([7], [7]), ([7], [7]), ([8, 6, 0, 1, 2, 3, 4, 5, 6, 7, 8], [8]), ([9, 10, 0, 1, 2, 3, 4, 5, 6, 7, 8, 9, 10], [9])])
def impl_change.B20 : List Nat := [0, 0, 0, 6, 14, 30, 63, 127, 255, 255, 511, 2047]
theorem impl_change.tab20 : rtab .any (opsOf Try.f44 20) = impl_change.T20 := by kernel_rfl
theorem impl_change.bits20 : waitsOk impl_change.T20.2 impl_change.B20 = true := by kernel_rfl
set_option maxHeartbeats 8000000 in
set_option maxRecDepth 100000 in
theorem impl_change.calls (k : Nat) (P0_ : Nat → Prop) (u9000_ : Value) (l0 : List (S49)) (a1_0 : Int) (a1_1 : Int) (a1_2 : ByteArray) (a1_3 : ByteArray) (a1_4 : Int) (r1 : List (S49)) (r2 : Bool) (w0 w : World) (hB : Below w0.heap.size w0 w) (ho0 : Kd.R k49 49 w w0.heap.size P0_ u9000_ l0) (h : impl_change.f k l0 a1_0 a1_1 a1_2 a1_3 a1_4 = some (r1, r2)) :
  Calls Try.prog 44 #[u9000_, .agg #[.int .i64 a1_0, .int .i64 a1_1, .string a1_2, .string a1_3, .int .i64 a1_4]] w fun e w' => ∃ v0_ : Value, e = .returned (.tuple #[v0_, .bool r2]) ∧ Kd.R k49 49 w' w0.heap.size (fun k_ => (P0_ k_ ∨ w.heap.size ≤ k_)) v0_ r1 ∧ Below w0.heap.size w0 w' ∧ Kept w w' (fun k_ => P0_ k_) := by
 have hu45 := Try.underlying45
 have hu49 := Try.underlying49
 have HO0 := Aside0.mk (show Kd.R k49 49 w w0.heap.size (fun k_ => (P0_ k_ ∨ w.heap.size ≤ k_)) u9000_ l0 from Kd.R_mono ho0 (fun k_ hk => (.inl hk)))
 have HK := Aside0.mk (Kept.refl w (fun k_ => P0_ k_))
 have HW0 := Aside0.mk hB.size
 have HB := Aside0.mk hB
 clear hB
 have H : ((impl_valuePlace.f k l0 a1_2).bind fun bt284 => (if a1_1 = 5 then (if bt284.2 = true then (some (l0, true)) else ((impl_Value_52.f l0 bt284.1 (([(⟨a1_2, a1_4, (⟨#[]⟩ : ByteArray)⟩ : S49)] : List (S49)))).bind fun t289 => (some (t289, decide ((l0.length : Int) < 30))))) else (if bt284.2 = true then (if a1_1 = 1 then (if 0 ≤ bt284.1 then (if bt284.1 < (l0.length : Int) then ((impl_valuePlace.f k l0 a1_3).bind fun bt294 => (if bt294.2 = true then (some (([] : List (S49)), false)) else ((impl_Value_53.f l0 bt284.1 (wrap64 (bt284.1 + 1))).bind fun t296 => ((impl_valuePlace.f k t296 a1_3).bind fun bt299 => ((impl_Value_52.f t296 bt299.1 (([(⟨a1_3, (rd_T49 l0 bt284.1).f1, (rd_T49 l0 bt284.1).f2⟩ : S49)] : List (S49)))).bind fun t304 => (some (t304, true))))))) else (none)) else (none)) else (if a1_1 = 4 then ((impl_Value_53.f l0 bt284.1 (wrap64 (bt284.1 + 1))).bind fun t307 => (some (t307, true))) else (if 0 ≤ bt284.1 then (if bt284.1 < (l0.length : Int) then ((impl_Change_changed.f k a1_0 a1_1 a1_2 a1_3 a1_4 ((rd_T49 l0 bt284.1).f1)).bind fun bt311 => (some ((l0.set (bt284.1 : Int).toNat (⟨(rd_T49 l0 bt284.1).f0, bt311.1, (rd_T49 l0 bt284.1).f2⟩ : S49)), bt311.2))) else (none)) else (none)))) else (some (l0, true))))) = some (r1, r2) := h
 clear h
 replace H := Option.bind_eq_some_iff.mp H
 obtain ⟨⟨t284, t285⟩, A30, H⟩ := H
 replace H : (if a1_1 = 5 then (if t285 = true then (some (l0, true)) else ((impl_Value_52.f l0 t284 (([(⟨a1_2, a1_4, (⟨#[]⟩ : ByteArray)⟩ : S49)] : List (S49)))).bind fun t289 => (some (t289, decide ((l0.length : Int) < 30))))) else (if t285 = true then (if a1_1 = 1 then (if 0 ≤ t284 then (if t284 < (l0.length : Int) then ((impl_valuePlace.f k l0 a1_3).bind fun bt294 => (if bt294.2 = true then (some (([] : List (S49)), false)) else ((impl_Value_53.f l0 t284 (wrap64 (t284 + 1))).bind fun t296 => ((impl_valuePlace.f k t296 a1_3).bind fun bt299 => ((impl_Value_52.f t296 bt299.1 (([(⟨a1_3, (rd_T49 l0 t284).f1, (rd_T49 l0 t284).f2⟩ : S49)] : List (S49)))).bind fun t304 => (some (t304, true))))))) else (none)) else (none)) else (if a1_1 = 4 then ((impl_Value_53.f l0 t284 (wrap64 (t284 + 1))).bind fun t307 => (some (t307, true))) else (if 0 ≤ t284 then (if t284 < (l0.length : Int) then ((impl_Change_changed.f k a1_0 a1_1 a1_2 a1_3 a1_4 ((rd_T49 l0 t284).f1)).bind fun bt311 => (some ((l0.set (t284 : Int).toNat (⟨(rd_T49 l0 t284).f0, bt311.1, (rd_T49 l0 t284).f2⟩ : S49)), bt311.2))) else (none)) else (none)))) else (some (l0, true)))) = some (r1, r2) := H
 have A3 := Aside0.mk A30
 clear A30
 by_cases c4 : a1_1 = 5
 ·rw [if_pos c4] at H
  have c4b0 : (a1_1 == 5) = true := beq_iff_eq.mpr c4
  have c4b1 : (a1_1 != 5) = false := bne_eq_false_iff_eq.mpr c4
  clear c4
  by_cases c5 : t285 = true
  ·subst c5
   have H1 : (some (l0, true)) = some (r1, r2) := by rw [if_pos rfl] at H; exact H
   clear H
   have H := H1
   clear H1
   simp only [Option.some.injEq, Prod.mk.injEq] at H
   obtain ⟨rfl, rfl⟩ := H
   go_enter Try.func44, Try.ntmps44
   go_wp2_with (first | ((with_reducible refine gate_dst (N := 3) rfl ?_); refine box_event rfl (N := 3) rfl (cs := #[.int .i64 a1_0, .int .i64 a1_1, .string a1_2, .string a1_3, .int .i64 a1_4]) (t := 45) sE ?_; intro gb283 hg w6 hbox hb; replace HO0 := Aside0.mk (Kd.R_below (rU HO0.out) hb); have BK283 := Aside0.mk hbox; have GW283 := Aside0.mk ((by rw [hg]; exact (by first | exact HK.out.1 | exact (show Kept w _ (fun k_ => P0_ k_) from by repeat (first | (with_reducible first | exact HK.out | apply Kept.alloc | apply Kept.drewN | apply Kept.drew) | exact HK.out)).1) : w.heap.size ≤ gb283)); replace HK := Aside0.mk (Kept.below (S := (fun k_ => P0_ k_)) (by repeat (first | (with_reducible first | exact HK.out | apply Kept.alloc | apply Kept.drewN | apply Kept.drew) | exact HK.out)) hb); have GE283 := Aside0.mk ((by rw [hg]; exact (below_size (lU)) : w0.heap.size ≤ gb283)); replace HB := bH (lU) hb; clear hb hbox hg; have hcz7_0 := cz BK283 0 (.int .i64 a1_0); have hcz7_1 := cz BK283 1 (.int .i64 a1_1); have hcz7_2 := cz BK283 2 (.string a1_2); have hcz7_3 := cz BK283 3 (.string a1_3); have hcz7_4 := cz BK283 4 (.int .i64 a1_4); have hfz7_0 := fz BK283 0; have hfz7_1 := fz BK283 1; have hfz7_2 := fz BK283 2; have hfz7_3 := fz BK283 3; have hfz7_4 := fz BK283 4; obtain ⟨Ao8, co8, eo8⟩ := Kd.R_slice HO0.out; subst eo8) | ((with_reducible refine gate_callee (f := 51) rfl ?_); refine goesL_ (some 19) rfl rfl Try.func51 (by kernel_rfl) rfl #[.slice Ao8 l0.length co8, .string a1_2] rfl aE ?_; (with_reducible refine (impl_valuePlace.calls k _ _ l0 a1_2 t284 true _ ?side1 ?side2 A3.out).mono ?_); (case side1 => exact cU (Kd.R_reads' HO0.out).2.2); (case side2 => exact (Kd.R_reads' HO0.out).2.1); rintro e w9 ⟨rfl, hb⟩; refine ⟨_, rfl, ?_⟩; replace HO0 := Aside0.mk (Kd.R_below (rU HO0.out) hb); replace BK283 := bB (bV BK283) hb; replace HK := Aside0.mk (Kept.below (S := (fun k_ => P0_ k_)) (by repeat (first | (with_reducible first | exact HK.out | apply Kept.alloc | apply Kept.drewN | apply Kept.drew | refine Kept.setCell ?_ (.inr GW283.out) _) | exact HK.out)) hb); replace HB := bH (lV1 GE283) hb; (try clear hb); have hcz10_0 := cz BK283 0 (.int .i64 a1_0); have hcz10_1 := cz BK283 1 (.int .i64 a1_1); have hcz10_2 := cz BK283 2 (.string a1_2); have hcz10_3 := cz BK283 3 (.string a1_3); have hcz10_4 := cz BK283 4 (.int .i64 a1_4); have hfz10_0 := fz BK283 0; have hfz10_1 := fz BK283 1; have hfz10_2 := fz BK283 2; have hfz10_3 := fz BK283 3; have hfz10_4 := fz BK283 4))
   go_ret2
   exact ⟨_, eE, by (with_reducible repeat (first | apply Kd.R_alloc | apply Kd.R_drewN | apply Kd.R_drew)); exact HO0.out, lV1 GE283, by repeat (first | (with_reducible first | exact HK.out | apply Kept.alloc | apply Kept.drewN | apply Kept.drew | refine Kept.setCell ?_ (.inr GW283.out) _) | exact HK.out)⟩
  ·replace c5 := Bool.eq_false_iff.mpr c5
   subst c5
   have H1 : ((impl_Value_52.f l0 t284 (([(⟨a1_2, a1_4, (⟨#[]⟩ : ByteArray)⟩ : S49)] : List (S49)))).bind fun t289 => (some (t289, decide ((l0.length : Int) < 30)))) = some (r1, r2) := by rw [if_neg (show ¬ (false = true) by decide)] at H; exact H
   clear H
   have H := H1
   clear H1
   obtain ⟨y286, hy286⟩ : ∃ y_ : List (S49), y_ = (([(⟨a1_2, a1_4, (⟨#[]⟩ : ByteArray)⟩ : S49)] : List (S49))) := ⟨_, rfl⟩
   replace H : ((impl_Value_52.f l0 t284 y286).bind fun t289 => (some (t289, decide ((l0.length : Int) < 30)))) = some (r1, r2) := by first | (rw [hy286]; with_reducible exact H) | (have H2_ := (Option.bind_some _ _).symm.trans H; rw [hy286]; with_reducible exact H2_) | (have H2_ := (Option.bind_some _ _).symm.trans H; with_reducible exact H2_) | with_reducible exact H | (rw [hy286]; exact H) | exact H
   have Ny286 := Aside0.mk hy286
   clear hy286
   replace H := Option.bind_eq_some_iff.mp H
   obtain ⟨t289, A110, H⟩ := H
   replace H : (some (t289, decide ((l0.length : Int) < 30))) = some (r1, r2) := H
   have A11 := Aside0.mk A110
   clear A110
   simp only [Option.some.injEq, Prod.mk.injEq] at H
   obtain ⟨rfl, rfl⟩ := H
   go_enter Try.func44, Try.ntmps44
   go_wp2_with (first | ((with_reducible refine gate_dst (N := 3) rfl ?_); refine box_event rfl (N := 3) rfl (cs := #[.int .i64 a1_0, .int .i64 a1_1, .string a1_2, .string a1_3, .int .i64 a1_4]) (t := 45) sE ?_; intro gb283 hg w12 hbox hb; replace HO0 := Aside0.mk (Kd.R_below (rU HO0.out) hb); have BK283 := Aside0.mk hbox; have GW283 := Aside0.mk ((by rw [hg]; exact (by first | exact HK.out.1 | exact (show Kept w _ (fun k_ => P0_ k_) from by repeat (first | (with_reducible first | exact HK.out | apply Kept.alloc | apply Kept.drewN | apply Kept.drew) | exact HK.out)).1) : w.heap.size ≤ gb283)); replace HK := Aside0.mk (Kept.below (S := (fun k_ => P0_ k_)) (by repeat (first | (with_reducible first | exact HK.out | apply Kept.alloc | apply Kept.drewN | apply Kept.drew) | exact HK.out)) hb); have GE283 := Aside0.mk ((by rw [hg]; exact (below_size (lU)) : w0.heap.size ≤ gb283)); replace HB := bH (lU) hb; clear hb hbox hg; have hcz13_0 := cz BK283 0 (.int .i64 a1_0); have hcz13_1 := cz BK283 1 (.int .i64 a1_1); have hcz13_2 := cz BK283 2 (.string a1_2); have hcz13_3 := cz BK283 3 (.string a1_3); have hcz13_4 := cz BK283 4 (.int .i64 a1_4); have hfz13_0 := fz BK283 0; have hfz13_1 := fz BK283 1; have hfz13_2 := fz BK283 2; have hfz13_3 := fz BK283 3; have hfz13_4 := fz BK283 4; obtain ⟨Ao14, co14, eo14⟩ := Kd.R_slice HO0.out; subst eo14) | ((with_reducible refine gate_callee (f := 51) rfl ?_); refine goesL_ (some 19) rfl rfl Try.func51 (by kernel_rfl) rfl #[.slice Ao14 l0.length co14, .string a1_2] rfl aE ?_; (with_reducible refine (impl_valuePlace.calls k _ _ l0 a1_2 t284 false _ ?side1 ?side2 A3.out).mono ?_); (case side1 => exact cU (Kd.R_reads' HO0.out).2.2); (case side2 => exact (Kd.R_reads' HO0.out).2.1); rintro e w15 ⟨rfl, hb⟩; refine ⟨_, rfl, ?_⟩; replace HO0 := Aside0.mk (Kd.R_below (rU HO0.out) hb); replace BK283 := bB (bV BK283) hb; replace HK := Aside0.mk (Kept.below (S := (fun k_ => P0_ k_)) (by repeat (first | (with_reducible first | exact HK.out | apply Kept.alloc | apply Kept.drewN | apply Kept.drew | refine Kept.setCell ?_ (.inr GW283.out) _) | exact HK.out)) hb); replace HB := bH (lV1 GE283) hb; (try clear hb); have hcz16_0 := cz BK283 0 (.int .i64 a1_0); have hcz16_1 := cz BK283 1 (.int .i64 a1_1); have hcz16_2 := cz BK283 2 (.string a1_2); have hcz16_3 := cz BK283 3 (.string a1_3); have hcz16_4 := cz BK283 4 (.int .i64 a1_4); have hfz16_0 := fz BK283 0; have hfz16_1 := fz BK283 1; have hfz16_2 := fz BK283 2; have hfz16_3 := fz BK283 3; have hfz16_4 := fz BK283 4) | ((with_reducible refine gate_dst (N := 34) rfl ?_); refine Kd.R_lit k49 _ 49 ?hg (N := 34) ?hd (xs := ([(⟨a1_2, a1_4, (⟨#[]⟩ : ByteArray)⟩ : S49)] : List (S49))) (inner := [.string a1_2, .int .i64 a1_4, .string (⟨#[]⟩ : ByteArray)]) (ok := fun _ => True) (okp := fun _ => True) ?hr ?hp (fun _ hk => hk) trivial (Below.refl _ _) (Nat.le_refl _) (by simp) ?_; (case hd => rfl); (case hg => rfl); (case hr => exact sE); (case hp => exact (Reps.c3 (show Kd.M k49 _ _ _ (⟨a1_2, a1_4, (⟨#[]⟩ : ByteArray)⟩ : S49) [.string a1_2, .int .i64 a1_4, .string (⟨#[]⟩ : ByteArray)] from (k49_mkM _ _ _ (⟨a1_2, a1_4, (⟨#[]⟩ : ByteArray)⟩ : S49) )) (Reps.none _ _))); intro v287 w17 ho18 hb hg_ hnew_; clear hg_ hnew_; (first | rw [← Ny286.out] at ho18 | (simp only [Int.reduceToNat] at ho18; rw [← Ny286.out] at ho18)); have HO288 := Aside0.mk (Kd.R_lower (Kd.R_new' (Kd.R_newM (M := fun k_ => (P0_ k_ ∨ w.heap.size ≤ k_)) ho18 (by first | exact HK.out.1 | exact (show Kept w _ (fun k_ => P0_ k_) from by repeat (first | (with_reducible first | exact HK.out | apply Kept.alloc | apply Kept.drewN | apply Kept.drew | refine Kept.setCell ?_ (.inr GW283.out) _) | exact HK.out)).1) (fun k_ h_ => .inr h_)) (Kd.R_lt (rU HO0.out))) (below_size (lV1 GE283))); replace HO0 := Aside0.mk (Kd.R_elder' (rU HO0.out) (Kd.R_base ho18) hb); replace BK283 := bB (bV BK283) hb; replace HK := Aside0.mk (Kept.below (S := (fun k_ => P0_ k_)) (by repeat (first | (with_reducible first | exact HK.out | apply Kept.alloc | apply Kept.drewN | apply Kept.drew | refine Kept.setCell ?_ (.inr GW283.out) _) | exact HK.out)) hb); replace HB := bH (lV1 GE283) hb; clear hb ho18; obtain ⟨Ao19, co19, eo19⟩ := Kd.R_slice HO288.out; subst eo19) | ((with_reducible refine gate_callee (f := 52) rfl ?_); refine goesL_ (some 35) rfl rfl Try.func52 (by kernel_rfl) rfl #[.slice Ao14 l0.length co14, .int .i64 t284, .slice Ao19 y286.length co19] rfl aE ?_; (with_reducible refine (impl_Value_52.calls (fun k_ => some k_ = (.slice Ao14 l0.length co14 : Value).ownBlock) (.slice Ao14 l0.length co14) l0 t284 _ _ y286 t289 w0 _ ?side1 ?side2 ?side3 ?side4 A11.out).mono ?_); (case side1 => repeat (first | (with_reducible first | exact HB.out | apply below_alloc | apply pw_below_drewN | apply below_drew1 | refine below_set ?_ GE283.out) | exact HB.out)); (case side2 => exact Kd.R_tight rfl HO0.out); (case side3 => exact Kd.C_kept_own (HO288.out) (fun k_ hk_ hs_ => (hk_.2) hs_)); (case side4 => exact (Kd.R_reads' HO288.out).2.1); rintro e w20 ⟨v290, rfl, ho0, hb, hkp⟩; refine ⟨_, rfl, ?_⟩; replace BK283 := Aside0.mk (blk_kept (bV BK283) hkp (fun hs_ => (fun e_ => (Kd.R_ne HO0.out BK283.out (by decide)) e_) hs_)); have HO291 := Aside0.mk (Kd.R_mono (ok' := fun k_ => (P0_ k_ ∨ w.heap.size ≤ k_) ∧ some k_ ≠ (.slice Ao19 y286.length co19 : Value).ownBlock) ho0 (fun k_ hk_ => ⟨Or.elim hk_ (fun hs_ => (HO0.out.1 k_ (hs_).symm).1) (fun hn_ => (.inr (Nat.le_trans (by first | exact HK.out.1 | exact (show Kept w _ (fun k_ => P0_ k_) from by repeat (first | (with_reducible first | exact HK.out | apply Kept.alloc | apply Kept.drewN | apply Kept.drew | refine Kept.setCell ?_ (.inr GW283.out) _) | exact HK.out)).1) hn_))), Or.elim hk_ (fun hs_ => fun e_ => (((HO288.out).1 k_ e_.symm).2) hs_) (fun hn_ => (Kd.fresh' (Kd.R_lt (rU HO288.out)) k_ hn_))⟩)); replace HO288 := Aside0.mk (Kd.R_mono (ok' := fun k_ => (P0_ k_ ∨ w.heap.size ≤ k_) ∧ some k_ ≠ (v290 : Value).ownBlock) (Kd.R_keptB (HO288.out) hkp (fun k_ hk_ hs_ => (hk_.2) hs_)) (fun k_ hk_ => ⟨hk_.1.1.1, fun e_ => Or.elim (ho0.1 k_ e_.symm) (fun hs_ => hk_.2.1 hs_) (fun hn_ => Nat.not_le.2 hk_.2.2 hn_)⟩)); replace HK := Aside0.mk (Kept.then_ (S := (fun k_ => P0_ k_)) (by repeat (first | (with_reducible first | exact HK.out | apply Kept.alloc | apply Kept.drewN | apply Kept.drew | refine Kept.setCell ?_ (.inr GW283.out) _) | exact HK.out)) hkp (fun k_ hs_ => (fun e_ => (HO0.out.1 k_ e_.symm).1) hs_)); replace HB := Aside0.mk hb; clear HO0; (try clear hb); (try clear hkp); (try clear hg_); (try clear hp_); (try clear ho0)))
   go_ret2
   exact ⟨_, eE, by (with_reducible repeat (first | apply Kd.R_alloc | apply Kd.R_drewN | apply Kd.R_drew)); exact Kd.R_mono HO291.out (fun _ hk => hk.1), lV1 GE283, by repeat (first | (with_reducible first | exact HK.out | apply Kept.alloc | apply Kept.drewN | apply Kept.drew | refine Kept.setCell ?_ (.inr GW283.out) _) | exact HK.out)⟩
 ·rw [if_neg c4] at H
  have c4b0 : (a1_1 == 5) = false := beq_eq_false_iff_ne.mpr c4
  have c4b1 : (a1_1 != 5) = true := bne_iff_ne.mpr c4
  by_cases c21 : t285 = true
  ·subst c21
   have H1 : (if a1_1 = 1 then (if 0 ≤ t284 then (if t284 < (l0.length : Int) then ((impl_valuePlace.f k l0 a1_3).bind fun bt294 => (if bt294.2 = true then (some (([] : List (S49)), false)) else ((impl_Value_53.f l0 t284 (wrap64 (t284 + 1))).bind fun t296 => ((impl_valuePlace.f k t296 a1_3).bind fun bt299 => ((impl_Value_52.f t296 bt299.1 (([(⟨a1_3, (rd_T49 l0 t284).f1, (rd_T49 l0 t284).f2⟩ : S49)] : List (S49)))).bind fun t304 => (some (t304, true))))))) else (none)) else (none)) else (if a1_1 = 4 then ((impl_Value_53.f l0 t284 (wrap64 (t284 + 1))).bind fun t307 => (some (t307, true))) else (if 0 ≤ t284 then (if t284 < (l0.length : Int) then ((impl_Change_changed.f k a1_0 a1_1 a1_2 a1_3 a1_4 ((rd_T49 l0 t284).f1)).bind fun bt311 => (some ((l0.set (t284 : Int).toNat (⟨(rd_T49 l0 t284).f0, bt311.1, (rd_T49 l0 t284).f2⟩ : S49)), bt311.2))) else (none)) else (none)))) = some (r1, r2) := by rw [if_pos rfl] at H; exact H
   clear H
   have H := H1
   clear H1
   by_cases c22 : a1_1 = 1
   ·rw [if_pos c22] at H
    have c22b0 : (a1_1 == 1) = true := beq_iff_eq.mpr c22
    have c22b1 : (a1_1 != 1) = false := bne_eq_false_iff_eq.mpr c22
    clear c22
    by_cases c23 : 0 ≤ t284
    ·rw [if_pos c23] at H
     have c23b0 : decide (0 ≤ t284) = true := decide_eq_true c23
     clear c23
     by_cases c24 : t284 < (l0.length : Int)
     ·rw [if_pos c24] at H
      have c24b0 : decide (t284 < (l0.length : Int)) = true := decide_eq_true c24
      clear c24
      replace H := Option.bind_eq_some_iff.mp H
      obtain ⟨⟨t294, t295⟩, A250, H⟩ := H
      replace H : (if t295 = true then (some (([] : List (S49)), false)) else ((impl_Value_53.f l0 t284 (wrap64 (t284 + 1))).bind fun t296 => ((impl_valuePlace.f k t296 a1_3).bind fun bt299 => ((impl_Value_52.f t296 bt299.1 (([(⟨a1_3, (rd_T49 l0 t284).f1, (rd_T49 l0 t284).f2⟩ : S49)] : List (S49)))).bind fun t304 => (some (t304, true)))))) = some (r1, r2) := H
      have A25 := Aside0.mk A250
      clear A250
      by_cases c26 : t295 = true
      ·subst c26
       have H1 : (some (([] : List (S49)), false)) = some (r1, r2) := by rw [if_pos rfl] at H; exact H
       clear H
       have H := H1
       clear H1
       simp only [Option.some.injEq, Prod.mk.injEq] at H
       obtain ⟨rfl, rfl⟩ := H
       go_enter Try.func44, Try.ntmps44
       go_wp2_with (first | ((with_reducible refine gate_dst (N := 3) rfl ?_); refine box_event rfl (N := 3) rfl (cs := #[.int .i64 a1_0, .int .i64 a1_1, .string a1_2, .string a1_3, .int .i64 a1_4]) (t := 45) sE ?_; intro gb283 hg w27 hbox hb; replace HO0 := Aside0.mk (Kd.R_below (rU HO0.out) hb); have BK283 := Aside0.mk hbox; have GW283 := Aside0.mk ((by rw [hg]; exact (by first | exact HK.out.1 | exact (show Kept w _ (fun k_ => P0_ k_) from by repeat (first | (with_reducible first | exact HK.out | apply Kept.alloc | apply Kept.drewN | apply Kept.drew) | exact HK.out)).1) : w.heap.size ≤ gb283)); replace HK := Aside0.mk (Kept.below (S := (fun k_ => P0_ k_)) (by repeat (first | (with_reducible first | exact HK.out | apply Kept.alloc | apply Kept.drewN | apply Kept.drew) | exact HK.out)) hb); have GE283 := Aside0.mk ((by rw [hg]; exact (below_size (lU)) : w0.heap.size ≤ gb283)); replace HB := bH (lU) hb; clear hb hbox hg; have hcz28_0 := cz BK283 0 (.int .i64 a1_0); have hcz28_1 := cz BK283 1 (.int .i64 a1_1); have hcz28_2 := cz BK283 2 (.string a1_2); have hcz28_3 := cz BK283 3 (.string a1_3); have hcz28_4 := cz BK283 4 (.int .i64 a1_4); have hfz28_0 := fz BK283 0; have hfz28_1 := fz BK283 1; have hfz28_2 := fz BK283 2; have hfz28_3 := fz BK283 3; have hfz28_4 := fz BK283 4; obtain ⟨Ao29, co29, eo29⟩ := Kd.R_slice HO0.out; subst eo29) | ((with_reducible refine gate_callee (f := 51) rfl ?_); refine goesL_ (some 19) rfl rfl Try.func51 (by kernel_rfl) rfl #[.slice Ao29 l0.length co29, .string a1_2] rfl aE ?_; (with_reducible refine (impl_valuePlace.calls k _ _ l0 a1_2 t284 true _ ?side1 ?side2 A3.out).mono ?_); (case side1 => exact cU (Kd.R_reads' HO0.out).2.2); (case side2 => exact (Kd.R_reads' HO0.out).2.1); rintro e w30 ⟨rfl, hb⟩; refine ⟨_, rfl, ?_⟩; replace HO0 := Aside0.mk (Kd.R_below (rU HO0.out) hb); replace BK283 := bB (bV BK283) hb; replace HK := Aside0.mk (Kept.below (S := (fun k_ => P0_ k_)) (by repeat (first | (with_reducible first | exact HK.out | apply Kept.alloc | apply Kept.drewN | apply Kept.drew | refine Kept.setCell ?_ (.inr GW283.out) _) | exact HK.out)) hb); replace HB := bH (lV1 GE283) hb; (try clear hb); have hcz31_0 := cz BK283 0 (.int .i64 a1_0); have hcz31_1 := cz BK283 1 (.int .i64 a1_1); have hcz31_2 := cz BK283 2 (.string a1_2); have hcz31_3 := cz BK283 3 (.string a1_3); have hcz31_4 := cz BK283 4 (.int .i64 a1_4); have hfz31_0 := fz BK283 0; have hfz31_1 := fz BK283 1; have hfz31_2 := fz BK283 2; have hfz31_3 := fz BK283 3; have hfz31_4 := fz BK283 4; have p292 : 0 ≤ (t284 : Int) := of_decide_eq_true hE; have q292 : t284 < (l0.length : Int) := of_decide_eq_true hE; obtain ⟨ad292, e292, hx292_0, hx292_1, hx292_2⟩ := at_T49 (Kd.R_reads' HO0.out).2.2 t284 p292 q292; cases e292; replace p292 := eq_true p292; replace q292 := eq_true q292) | ((with_reducible refine gate_dst (N := 8) rfl ?_); refine box_event rfl (N := 8) rfl (cs := #[.string (⟨#[]⟩ : ByteArray), .int .i64 0, .string (⟨#[]⟩ : ByteArray)]) (t := 49) sE ?_; intro gb293 hg w32 hbox hb; replace HO0 := Aside0.mk (Kd.R_below (Kd.R_elderB (rU HO0.out) gb293 (Nat.le_of_eq hg.symm)) hb); have BK293 := Aside0.mk hbox; have GW293 := Aside0.mk ((by rw [hg]; exact (by first | exact HK.out.1 | exact (show Kept w _ (fun k_ => P0_ k_) from by repeat (first | (with_reducible first | exact HK.out | apply Kept.alloc | apply Kept.drewN | apply Kept.drew | refine Kept.setCell ?_ (.inr GW283.out) _) | exact HK.out)).1) : w.heap.size ≤ gb293)); replace HK := Aside0.mk (Kept.below (S := (fun k_ => P0_ k_)) (by repeat (first | (with_reducible first | exact HK.out | apply Kept.alloc | apply Kept.drewN | apply Kept.drew | refine Kept.setCell ?_ (.inr GW283.out) _) | exact HK.out)) hb); have GE293 := Aside0.mk ((by rw [hg]; exact (below_size (lV1 GE283)) : w0.heap.size ≤ gb293)); replace HB := bH (lV1 GE283) hb; have NB283_293 := nL hg (bV BK283); have NB293_283 := nG hg (bV BK283); replace BK283 := bB (bV BK283) hb; clear hb hbox hg; have hnb33 := NB293_283.out; have hnc33 := NB283_293.out; have hcz34_0 := cz BK293 0 (.string (⟨#[]⟩ : ByteArray)); have hcz34_1 := cz BK293 1 (.int .i64 0); have hcz34_2 := cz BK293 2 (.string (⟨#[]⟩ : ByteArray)); have hfz34_0 := fz BK293 0; have hfz34_1 := fz BK293 1; have hfz34_2 := fz BK293 2) | ((with_reducible refine gate_store (t := 49) (p := 8) rfl ?_); refine store_event (t := 49) (p := 8) (v := ?vo_w35) (w1 := (((w32.setCell ⟨gb293, 0, none⟩ (.string ((rd_T49 l0 t284).f0))).setCell ⟨gb293, 1, none⟩ (.int .i64 ((rd_T49 l0 t284).f1))).setCell ⟨gb293, 2, none⟩ (.string ((rd_T49 l0 t284).f2)))) ?hg ?ho ?hn ?hr ?_; (case ho => rfl); (case hg => rfl); (case hn => rfl); (case hr => first | (go_simp; done) | (go_simp; rfl) | (have hq0_ := (blk_cell BK293.out 0).trans (show _ = some _ from rfl); have hf0_ := blk_frozen BK293.out 0; have hq1_ := (blk_cell BK293.out 1).trans (show _ = some _ from rfl); have hf1_ := blk_frozen BK293.out 1; have hq2_ := (blk_cell BK293.out 2).trans (show _ = some _ from rfl); have hf2_ := blk_frozen BK293.out 2; first | (go_simp; done) | (go_simp; rfl))); intro w35 hw; replace HO0 : Aside0 (Kd.R k49 49 w35 w0.heap.size (fun k_ => (P0_ k_ ∨ w.heap.size ≤ k_) ∧ k_ ≠ gb293) (.slice (some ad292) l0.length co29) l0) := ⟨(by rw [hw]; exact (by (with_reducible repeat (first | apply Kd.R_alloc | apply Kd.R_drewN | apply Kd.R_drew)); exact Kd.R_mono (Kd.R_far (p := ⟨gb293, 2, none⟩) (Kd.R_far (p := ⟨gb293, 1, none⟩) (Kd.R_far (p := ⟨gb293, 0, none⟩) (Kd.R_mono HO0.out (fun k_ hk => (⟨hk, hk.2⟩ : _ ∧ k_ ≠ gb293))) (fun _ hk => hk.2) (.string ((rd_T49 l0 t284).f0))) (fun _ hk => hk.2) (.int .i64 ((rd_T49 l0 t284).f1))) (fun _ hk => hk.2) (.string ((rd_T49 l0 t284).f2))) (fun _ hk => ⟨hk.1.1, hk.1.2⟩)))⟩; replace BK283 : Aside0 (w35.heap[gb283]? = some (.cells #[.int .i64 a1_0, .int .i64 a1_1, .string a1_2, .string a1_3, .int .i64 a1_4] 45 (0, 0))) := ⟨(by rw [hw]; exact (bG NB283_293 BK283))⟩; replace BK293 : Aside0 (w35.heap[gb293]? = some (.cells #[.string ((rd_T49 l0 t284).f0), .int .i64 ((rd_T49 l0 t284).f1), .string ((rd_T49 l0 t284).f2)] 49 (0, 0))) := ⟨(by rw [hw]; exact (by refine bU ?_; refine blk_put (cs := #[.string ((rd_T49 l0 t284).f0), .int .i64 ((rd_T49 l0 t284).f1), .string (⟨#[]⟩ : ByteArray)]) ?_ 2 _ rfl; refine bU ?_; refine blk_put (cs := #[.string ((rd_T49 l0 t284).f0), .int .i64 0, .string (⟨#[]⟩ : ByteArray)]) ?_ 1 _ rfl; refine bU ?_; refine blk_put (cs := #[.string (⟨#[]⟩ : ByteArray), .int .i64 0, .string (⟨#[]⟩ : ByteArray)]) ?_ 0 _ rfl; refine bU ?_; exact BK293.out))⟩; replace HK : Aside0 (Kept w w35 (fun k_ => P0_ k_)) := ⟨(by rw [hw]; exact (by repeat (first | (with_reducible first | exact HK.out | apply Kept.alloc | apply Kept.drewN | apply Kept.drew | refine Kept.setCell ?_ (.inr GW283.out) _ | refine Kept.setCell ?_ (.inr GW293.out) _) | exact HK.out)))⟩; replace HB : Aside0 (Below w0.heap.size w0 w35) := ⟨(by rw [hw]; exact (lV2 GE283 GE293))⟩; clear hw; have hcz36_0 := cz BK283 0 (.int .i64 a1_0); have hcz36_1 := cz BK283 1 (.int .i64 a1_1); have hcz36_2 := cz BK283 2 (.string a1_2); have hcz36_3 := cz BK283 3 (.string a1_3); have hcz36_4 := cz BK283 4 (.int .i64 a1_4); have hfz36_0 := fz BK283 0; have hfz36_1 := fz BK283 1; have hfz36_2 := fz BK283 2; have hfz36_3 := fz BK283 3; have hfz36_4 := fz BK283 4) | ((with_reducible refine gate_callee (f := 51) rfl ?_); refine goesL_ (some 54) rfl rfl Try.func51 (by kernel_rfl) rfl #[.slice (some ad292) l0.length co29, .string a1_3] rfl aE ?_; (with_reducible refine (impl_valuePlace.calls k _ _ l0 a1_3 t294 true _ ?side1 ?side2 A25.out).mono ?_); (case side1 => exact cU (Kd.R_reads' HO0.out).2.2); (case side2 => exact (Kd.R_reads' HO0.out).2.1); rintro e w37 ⟨rfl, hb⟩; refine ⟨_, rfl, ?_⟩; replace HO0 := Aside0.mk (Kd.R_below (rU HO0.out) hb); replace BK283 := bB (bV BK283) hb; replace BK293 := bB (bV BK293) hb; replace HK := Aside0.mk (Kept.below (S := (fun k_ => P0_ k_)) (by repeat (first | (with_reducible first | exact HK.out | apply Kept.alloc | apply Kept.drewN | apply Kept.drew | refine Kept.setCell ?_ (.inr GW283.out) _ | refine Kept.setCell ?_ (.inr GW293.out) _) | exact HK.out)) hb); replace HB := bH (lV2 GE283 GE293) hb; (try clear hb)))
       go_ret2
       exact ⟨_, eE, by first | exact Kd.R_nil _ _ _ _ _ | exact Kd.N_nil _ _ _ _ _ | exact Kd.V_nil _ _ _ _ _ | exact Kd.Q_nil _ _ _ _ _ | exact Kd.S_nil _ _ _ _ _, lV2 GE283 GE293, by repeat (first | (with_reducible first | exact HK.out | apply Kept.alloc | apply Kept.drewN | apply Kept.drew | refine Kept.setCell ?_ (.inr GW283.out) _ | refine Kept.setCell ?_ (.inr GW293.out) _) | exact HK.out)⟩
      ·replace c26 := Bool.eq_false_iff.mpr c26
       subst c26
       have H1 : ((impl_Value_53.f l0 t284 (wrap64 (t284 + 1))).bind fun t296 => ((impl_valuePlace.f k t296 a1_3).bind fun bt299 => ((impl_Value_52.f t296 bt299.1 (([(⟨a1_3, (rd_T49 l0 t284).f1, (rd_T49 l0 t284).f2⟩ : S49)] : List (S49)))).bind fun t304 => (some (t304, true))))) = some (r1, r2) := by rw [if_neg (show ¬ (false = true) by decide)] at H; exact H
       clear H
       have H := H1
       clear H1
       replace H := Option.bind_eq_some_iff.mp H
       obtain ⟨t296, A380, H⟩ := H
       replace H : ((impl_valuePlace.f k t296 a1_3).bind fun bt299 => ((impl_Value_52.f t296 bt299.1 (([(⟨a1_3, (rd_T49 l0 t284).f1, (rd_T49 l0 t284).f2⟩ : S49)] : List (S49)))).bind fun t304 => (some (t304, true)))) = some (r1, r2) := H
       have A38 := Aside0.mk A380
       clear A380
       replace H := Option.bind_eq_some_iff.mp H
       obtain ⟨⟨t299, t300⟩, A390, H⟩ := H
       replace H : ((impl_Value_52.f t296 t299 (([(⟨a1_3, (rd_T49 l0 t284).f1, (rd_T49 l0 t284).f2⟩ : S49)] : List (S49)))).bind fun t304 => (some (t304, true))) = some (r1, r2) := H
       have A39 := Aside0.mk A390
       clear A390
       obtain ⟨y301, hy301⟩ : ∃ y_ : List (S49), y_ = (([(⟨a1_3, (rd_T49 l0 t284).f1, (rd_T49 l0 t284).f2⟩ : S49)] : List (S49))) := ⟨_, rfl⟩
       replace H : ((impl_Value_52.f t296 t299 y301).bind fun t304 => (some (t304, true))) = some (r1, r2) := by first | (rw [hy301]; with_reducible exact H) | (have H2_ := (Option.bind_some _ _).symm.trans H; rw [hy301]; with_reducible exact H2_) | (have H2_ := (Option.bind_some _ _).symm.trans H; with_reducible exact H2_) | with_reducible exact H | (rw [hy301]; exact H) | exact H
       have Ny301 := Aside0.mk hy301
       clear hy301
       replace H := Option.bind_eq_some_iff.mp H
       obtain ⟨t304, A400, H⟩ := H
       replace H : (some (t304, true)) = some (r1, r2) := H
       have A40 := Aside0.mk A400
       clear A400
       simp only [Option.some.injEq, Prod.mk.injEq] at H
       obtain ⟨rfl, rfl⟩ := H
       go_enter Try.func44, Try.ntmps44
       go_wp2_with (first | ((with_reducible refine gate_dst (N := 3) rfl ?_); refine box_event rfl (N := 3) rfl (cs := #[.int .i64 a1_0, .int .i64 a1_1, .string a1_2, .string a1_3, .int .i64 a1_4]) (t := 45) sE ?_; intro gb283 hg w41 hbox hb; replace HO0 := Aside0.mk (Kd.R_below (rU HO0.out) hb); have BK283 := Aside0.mk hbox; have GW283 := Aside0.mk ((by rw [hg]; exact (by first | exact HK.out.1 | exact (show Kept w _ (fun k_ => P0_ k_) from by repeat (first | (with_reducible first | exact HK.out | apply Kept.alloc | apply Kept.drewN | apply Kept.drew) | exact HK.out)).1) : w.heap.size ≤ gb283)); replace HK := Aside0.mk (Kept.below (S := (fun k_ => P0_ k_)) (by repeat (first | (with_reducible first | exact HK.out | apply Kept.alloc | apply Kept.drewN | apply Kept.drew) | exact HK.out)) hb); have GE283 := Aside0.mk ((by rw [hg]; exact (below_size (lU)) : w0.heap.size ≤ gb283)); replace HB := bH (lU) hb; clear hb hbox hg; have hcz42_0 := cz BK283 0 (.int .i64 a1_0); have hcz42_1 := cz BK283 1 (.int .i64 a1_1); have hcz42_2 := cz BK283 2 (.string a1_2); have hcz42_3 := cz BK283 3 (.string a1_3); have hcz42_4 := cz BK283 4 (.int .i64 a1_4); have hfz42_0 := fz BK283 0; have hfz42_1 := fz BK283 1; have hfz42_2 := fz BK283 2; have hfz42_3 := fz BK283 3; have hfz42_4 := fz BK283 4; obtain ⟨Ao43, co43, eo43⟩ := Kd.R_slice HO0.out; subst eo43) | ((with_reducible refine gate_callee (f := 51) rfl ?_); refine goesL_ (some 19) rfl rfl Try.func51 (by kernel_rfl) rfl #[.slice Ao43 l0.length co43, .string a1_2] rfl aE ?_; (with_reducible refine (impl_valuePlace.calls k _ _ l0 a1_2 t284 true _ ?side1 ?side2 A3.out).mono ?_); (case side1 => exact cU (Kd.R_reads' HO0.out).2.2); (case side2 => exact (Kd.R_reads' HO0.out).2.1); rintro e w44 ⟨rfl, hb⟩; refine ⟨_, rfl, ?_⟩; replace HO0 := Aside0.mk (Kd.R_below (rU HO0.out) hb); replace BK283 := bB (bV BK283) hb; replace HK := Aside0.mk (Kept.below (S := (fun k_ => P0_ k_)) (by repeat (first | (with_reducible first | exact HK.out | apply Kept.alloc | apply Kept.drewN | apply Kept.drew | refine Kept.setCell ?_ (.inr GW283.out) _) | exact HK.out)) hb); replace HB := bH (lV1 GE283) hb; (try clear hb); have hcz45_0 := cz BK283 0 (.int .i64 a1_0); have hcz45_1 := cz BK283 1 (.int .i64 a1_1); have hcz45_2 := cz BK283 2 (.string a1_2); have hcz45_3 := cz BK283 3 (.string a1_3); have hcz45_4 := cz BK283 4 (.int .i64 a1_4); have hfz45_0 := fz BK283 0; have hfz45_1 := fz BK283 1; have hfz45_2 := fz BK283 2; have hfz45_3 := fz BK283 3; have hfz45_4 := fz BK283 4; have p292 : 0 ≤ (t284 : Int) := of_decide_eq_true hE; have q292 : t284 < (l0.length : Int) := of_decide_eq_true hE; obtain ⟨ad292, e292, hx292_0, hx292_1, hx292_2⟩ := at_T49 (Kd.R_reads' HO0.out).2.2 t284 p292 q292; cases e292; replace p292 := eq_true p292; replace q292 := eq_true q292) | ((with_reducible refine gate_dst (N := 8) rfl ?_); refine box_event rfl (N := 8) rfl (cs := #[.string (⟨#[]⟩ : ByteArray), .int .i64 0, .string (⟨#[]⟩ : ByteArray)]) (t := 49) sE ?_; intro gb293 hg w46 hbox hb; replace HO0 := Aside0.mk (Kd.R_below (Kd.R_elderB (rU HO0.out) gb293 (Nat.le_of_eq hg.symm)) hb); have BK293 := Aside0.mk hbox; have GW293 := Aside0.mk ((by rw [hg]; exact (by first | exact HK.out.1 | exact (show Kept w _ (fun k_ => P0_ k_) from by repeat (first | (with_reducible first | exact HK.out | apply Kept.alloc | apply Kept.drewN | apply Kept.drew | refine Kept.setCell ?_ (.inr GW283.out) _) | exact HK.out)).1) : w.heap.size ≤ gb293)); replace HK := Aside0.mk (Kept.below (S := (fun k_ => P0_ k_)) (by repeat (first | (with_reducible first | exact HK.out | apply Kept.alloc | apply Kept.drewN | apply Kept.drew | refine Kept.setCell ?_ (.inr GW283.out) _) | exact HK.out)) hb); have GE293 := Aside0.mk ((by rw [hg]; exact (below_size (lV1 GE283)) : w0.heap.size ≤ gb293)); replace HB := bH (lV1 GE283) hb; have NB283_293 := nL hg (bV BK283); have NB293_283 := nG hg (bV BK283); replace BK283 := bB (bV BK283) hb; clear hb hbox hg; have hnb47 := NB293_283.out; have hnc47 := NB283_293.out; have hcz48_0 := cz BK293 0 (.string (⟨#[]⟩ : ByteArray)); have hcz48_1 := cz BK293 1 (.int .i64 0); have hcz48_2 := cz BK293 2 (.string (⟨#[]⟩ : ByteArray)); have hfz48_0 := fz BK293 0; have hfz48_1 := fz BK293 1; have hfz48_2 := fz BK293 2) | ((with_reducible refine gate_store (t := 49) (p := 8) rfl ?_); refine store_event (t := 49) (p := 8) (v := ?vo_w49) (w1 := (((w46.setCell ⟨gb293, 0, none⟩ (.string ((rd_T49 l0 t284).f0))).setCell ⟨gb293, 1, none⟩ (.int .i64 ((rd_T49 l0 t284).f1))).setCell ⟨gb293, 2, none⟩ (.string ((rd_T49 l0 t284).f2)))) ?hg ?ho ?hn ?hr ?_; (case ho => rfl); (case hg => rfl); (case hn => rfl); (case hr => first | (go_simp; done) | (go_simp; rfl) | (have hq0_ := (blk_cell BK293.out 0).trans (show _ = some _ from rfl); have hf0_ := blk_frozen BK293.out 0; have hq1_ := (blk_cell BK293.out 1).trans (show _ = some _ from rfl); have hf1_ := blk_frozen BK293.out 1; have hq2_ := (blk_cell BK293.out 2).trans (show _ = some _ from rfl); have hf2_ := blk_frozen BK293.out 2; first | (go_simp; done) | (go_simp; rfl))); intro w49 hw; replace HO0 : Aside0 (Kd.R k49 49 w49 w0.heap.size (fun k_ => (P0_ k_ ∨ w.heap.size ≤ k_) ∧ k_ ≠ gb293) (.slice (some ad292) l0.length co43) l0) := ⟨(by rw [hw]; exact (by (with_reducible repeat (first | apply Kd.R_alloc | apply Kd.R_drewN | apply Kd.R_drew)); exact Kd.R_mono (Kd.R_far (p := ⟨gb293, 2, none⟩) (Kd.R_far (p := ⟨gb293, 1, none⟩) (Kd.R_far (p := ⟨gb293, 0, none⟩) (Kd.R_mono HO0.out (fun k_ hk => (⟨hk, hk.2⟩ : _ ∧ k_ ≠ gb293))) (fun _ hk => hk.2) (.string ((rd_T49 l0 t284).f0))) (fun _ hk => hk.2) (.int .i64 ((rd_T49 l0 t284).f1))) (fun _ hk => hk.2) (.string ((rd_T49 l0 t284).f2))) (fun _ hk => ⟨hk.1.1, hk.1.2⟩)))⟩; replace BK283 : Aside0 (w49.heap[gb283]? = some (.cells #[.int .i64 a1_0, .int .i64 a1_1, .string a1_2, .string a1_3, .int .i64 a1_4] 45 (0, 0))) := ⟨(by rw [hw]; exact (bG NB283_293 BK283))⟩; replace BK293 : Aside0 (w49.heap[gb293]? = some (.cells #[.string ((rd_T49 l0 t284).f0), .int .i64 ((rd_T49 l0 t284).f1), .string ((rd_T49 l0 t284).f2)] 49 (0, 0))) := ⟨(by rw [hw]; exact (by refine bU ?_; refine blk_put (cs := #[.string ((rd_T49 l0 t284).f0), .int .i64 ((rd_T49 l0 t284).f1), .string (⟨#[]⟩ : ByteArray)]) ?_ 2 _ rfl; refine bU ?_; refine blk_put (cs := #[.string ((rd_T49 l0 t284).f0), .int .i64 0, .string (⟨#[]⟩ : ByteArray)]) ?_ 1 _ rfl; refine bU ?_; refine blk_put (cs := #[.string (⟨#[]⟩ : ByteArray), .int .i64 0, .string (⟨#[]⟩ : ByteArray)]) ?_ 0 _ rfl; refine bU ?_; exact BK293.out))⟩; replace HK : Aside0 (Kept w w49 (fun k_ => P0_ k_)) := ⟨(by rw [hw]; exact (by repeat (first | (with_reducible first | exact HK.out | apply Kept.alloc | apply Kept.drewN | apply Kept.drew | refine Kept.setCell ?_ (.inr GW283.out) _ | refine Kept.setCell ?_ (.inr GW293.out) _) | exact HK.out)))⟩; replace HB : Aside0 (Below w0.heap.size w0 w49) := ⟨(by rw [hw]; exact (lV2 GE283 GE293))⟩; clear hw; have hcz50_0 := cz BK283 0 (.int .i64 a1_0); have hcz50_1 := cz BK283 1 (.int .i64 a1_1); have hcz50_2 := cz BK283 2 (.string a1_2); have hcz50_3 := cz BK283 3 (.string a1_3); have hcz50_4 := cz BK283 4 (.int .i64 a1_4); have hfz50_0 := fz BK283 0; have hfz50_1 := fz BK283 1; have hfz50_2 := fz BK283 2; have hfz50_3 := fz BK283 3; have hfz50_4 := fz BK283 4) | ((with_reducible refine gate_callee (f := 51) rfl ?_); refine goesL_ (some 54) rfl rfl Try.func51 (by kernel_rfl) rfl #[.slice (some ad292) l0.length co43, .string a1_3] rfl aE ?_; (with_reducible refine (impl_valuePlace.calls k _ _ l0 a1_3 t294 false _ ?side1 ?side2 A25.out).mono ?_); (case side1 => exact cU (Kd.R_reads' HO0.out).2.2); (case side2 => exact (Kd.R_reads' HO0.out).2.1); rintro e w51 ⟨rfl, hb⟩; refine ⟨_, rfl, ?_⟩; replace HO0 := Aside0.mk (Kd.R_below (rU HO0.out) hb); replace BK283 := bB (bV BK283) hb; replace BK293 := bB (bV BK293) hb; replace HK := Aside0.mk (Kept.below (S := (fun k_ => P0_ k_)) (by repeat (first | (with_reducible first | exact HK.out | apply Kept.alloc | apply Kept.drewN | apply Kept.drew | refine Kept.setCell ?_ (.inr GW283.out) _ | refine Kept.setCell ?_ (.inr GW293.out) _) | exact HK.out)) hb); replace HB := bH (lV2 GE283 GE293) hb; (try clear hb)) | ((with_reducible refine gate_callee (f := 53) rfl ?_); refine goesL_ (some 62) rfl rfl Try.func53 (by kernel_rfl) rfl #[.slice (some ad292) l0.length co43, .int .i64 t284, .int .i64 (wrap64 (t284 + 1))] rfl aE ?_; (with_reducible refine (impl_Value_53.calls (fun k_ => some k_ = (.slice (some ad292) l0.length co43 : Value).ownBlock) (.slice (some ad292) l0.length co43) l0 t284 (wrap64 (t284 + 1)) t296 w0 _ ?side1 ?side2 A38.out).mono ?_); (case side1 => repeat (first | (with_reducible first | exact HB.out | apply below_alloc | apply pw_below_drewN | apply below_drew1 | refine below_set ?_ GE283.out | refine below_set ?_ GE293.out) | exact HB.out)); (case side2 => exact Kd.R_tight rfl HO0.out); rintro e w52 ⟨v297, rfl, ho0, hb, hkp⟩; refine ⟨_, rfl, ?_⟩; replace BK283 := Aside0.mk (blk_kept (bV BK283) hkp (fun hs_ => (fun e_ => (Kd.R_ne HO0.out BK283.out (by decide)) e_) hs_)); have HO298 := Aside0.mk (Kd.R_mono (ok' := fun k_ => (P0_ k_ ∨ w.heap.size ≤ k_) ∧ k_ ≠ gb293) ho0 (fun k_ hk_ => ⟨Or.elim hk_ (fun hs_ => (HO0.out.1 k_ (hs_).symm).1) (fun hn_ => (.inr (Nat.le_trans (by first | exact HK.out.1 | exact (show Kept w _ (fun k_ => P0_ k_) from by repeat (first | (with_reducible first | exact HK.out | apply Kept.alloc | apply Kept.drewN | apply Kept.drew | refine Kept.setCell ?_ (.inr GW283.out) _ | refine Kept.setCell ?_ (.inr GW293.out) _) | exact HK.out)).1) hn_))), Or.elim hk_ (fun hs_ => fun e_ => (Kd.R_away HO0.out (fun _ hk => hk.2)) (by rw [← e_]; exact hs_)) (fun hn_ => (Kd.freshB (g := gb293) (o := .cells #[.string ((rd_T49 l0 t284).f0), .int .i64 ((rd_T49 l0 t284).f1), .string ((rd_T49 l0 t284).f2)] 49 (0, 0)) (bV BK293) k_ hn_))⟩)); replace BK293 := Aside0.mk (blk_kept (bV BK293) hkp (fun hs_ => (fun e_ => (Kd.R_away HO0.out (fun _ hk => hk.2)) e_) hs_)); replace HK := Aside0.mk (Kept.then_ (S := (fun k_ => P0_ k_)) (by repeat (first | (with_reducible first | exact HK.out | apply Kept.alloc | apply Kept.drewN | apply Kept.drew | refine Kept.setCell ?_ (.inr GW283.out) _ | refine Kept.setCell ?_ (.inr GW293.out) _) | exact HK.out)) hkp (fun k_ hs_ => (fun e_ => (HO0.out.1 k_ e_.symm).1) hs_)); replace HB := Aside0.mk hb; clear HO0; (try clear hb); (try clear hkp); (try clear hg_); (try clear hp_); (try clear ho0); have hcz53_0 := cz BK283 0 (.int .i64 a1_0); have hcz53_1 := cz BK283 1 (.int .i64 a1_1); have hcz53_2 := cz BK283 2 (.string a1_2); have hcz53_3 := cz BK283 3 (.string a1_3); have hcz53_4 := cz BK283 4 (.int .i64 a1_4); have hfz53_0 := fz BK283 0; have hfz53_1 := fz BK283 1; have hfz53_2 := fz BK283 2; have hfz53_3 := fz BK283 3; have hfz53_4 := fz BK283 4; have hcz54_0 := cz BK293 0 (.string ((rd_T49 l0 t284).f0)); have hcz54_1 := cz BK293 1 (.int .i64 ((rd_T49 l0 t284).f1)); have hcz54_2 := cz BK293 2 (.string ((rd_T49 l0 t284).f2)); have hfz54_0 := fz BK293 0; have hfz54_1 := fz BK293 1; have hfz54_2 := fz BK293 2) | ((with_reducible refine gate_store (t := 9) (p := 65) rfl ?_); refine store_event (t := 9) (p := 65) (v := ?vo_w55) (w1 := (w52.setCell ⟨gb293, 0, none⟩ (.string a1_3))) ?hg ?ho ?hn ?hr ?_; (case ho => rfl); (case hg => rfl); (case hn => rfl); (case hr => first | (go_simp; done) | (go_simp; rfl) | (have hq0_ := (blk_cell BK293.out 0).trans (show _ = some _ from rfl); have hf0_ := blk_frozen BK293.out 0; first | (go_simp; done) | (go_simp; rfl))); intro w55 hw; replace HO298 : Aside0 (Kd.R k49 49 w55 w0.heap.size (fun k_ => (P0_ k_ ∨ w.heap.size ≤ k_) ∧ k_ ≠ gb293) v297 t296) := ⟨(by rw [hw]; exact (by (with_reducible repeat (first | apply Kd.R_alloc | apply Kd.R_drewN | apply Kd.R_drew)); exact Kd.R_mono (Kd.R_far (p := ⟨gb293, 0, none⟩) (Kd.R_mono HO298.out (fun k_ hk => (⟨hk, hk.2⟩ : _ ∧ k_ ≠ gb293))) (fun _ hk => hk.2) (.string a1_3)) (fun _ hk => ⟨hk.1.1, hk.1.2⟩)))⟩; replace BK283 : Aside0 (w55.heap[gb283]? = some (.cells #[.int .i64 a1_0, .int .i64 a1_1, .string a1_2, .string a1_3, .int .i64 a1_4] 45 (0, 0))) := ⟨(by rw [hw]; exact (bG NB283_293 BK283))⟩; replace BK293 : Aside0 (w55.heap[gb293]? = some (.cells #[.string a1_3, .int .i64 ((rd_T49 l0 t284).f1), .string ((rd_T49 l0 t284).f2)] 49 (0, 0))) := ⟨(by rw [hw]; exact (by refine bU ?_; refine blk_put (cs := #[.string ((rd_T49 l0 t284).f0), .int .i64 ((rd_T49 l0 t284).f1), .string ((rd_T49 l0 t284).f2)]) ?_ 0 _ rfl; refine bU ?_; exact BK293.out))⟩; replace HK : Aside0 (Kept w w55 (fun k_ => P0_ k_)) := ⟨(by rw [hw]; exact (by repeat (first | (with_reducible first | exact HK.out | apply Kept.alloc | apply Kept.drewN | apply Kept.drew | refine Kept.setCell ?_ (.inr GW283.out) _ | refine Kept.setCell ?_ (.inr GW293.out) _) | exact HK.out)))⟩; replace HB : Aside0 (Below w0.heap.size w0 w55) := ⟨(by rw [hw]; exact (lV2 GE283 GE293))⟩; clear hw; have hcz56_0 := cz BK283 0 (.int .i64 a1_0); have hcz56_1 := cz BK283 1 (.int .i64 a1_1); have hcz56_2 := cz BK283 2 (.string a1_2); have hcz56_3 := cz BK283 3 (.string a1_3); have hcz56_4 := cz BK283 4 (.int .i64 a1_4); have hfz56_0 := fz BK283 0; have hfz56_1 := fz BK283 1; have hfz56_2 := fz BK283 2; have hfz56_3 := fz BK283 3; have hfz56_4 := fz BK283 4; obtain ⟨Ao57, co57, eo57⟩ := Kd.R_slice HO298.out; subst eo57) | ((with_reducible refine gate_callee (f := 51) rfl ?_); refine goesL_ (some 70) rfl rfl Try.func51 (by kernel_rfl) rfl #[.slice Ao57 t296.length co57, .string a1_3] rfl aE ?_; (with_reducible refine (impl_valuePlace.calls k _ _ t296 a1_3 t299 t300 _ ?side1 ?side2 A39.out).mono ?_); (case side1 => exact cU (Kd.R_reads' HO298.out).2.2); (case side2 => exact (Kd.R_reads' HO298.out).2.1); rintro e w58 ⟨rfl, hb⟩; refine ⟨_, rfl, ?_⟩; replace HO298 := Aside0.mk (Kd.R_below (rU HO298.out) hb); replace BK283 := bB (bV BK283) hb; replace BK293 := bB (bV BK293) hb; replace HK := Aside0.mk (Kept.below (S := (fun k_ => P0_ k_)) (by repeat (first | (with_reducible first | exact HK.out | apply Kept.alloc | apply Kept.drewN | apply Kept.drew | refine Kept.setCell ?_ (.inr GW283.out) _ | refine Kept.setCell ?_ (.inr GW293.out) _) | exact HK.out)) hb); replace HB := bH (lV2 GE283 GE293) hb; (try clear hb); have hcz59_0 := cz BK293 0 (.string a1_3); have hcz59_1 := cz BK293 1 (.int .i64 ((rd_T49 l0 t284).f1)); have hcz59_2 := cz BK293 2 (.string ((rd_T49 l0 t284).f2)); have hfz59_0 := fz BK293 0; have hfz59_1 := fz BK293 1; have hfz59_2 := fz BK293 2) | ((with_reducible refine gate_dst (N := 76) rfl ?_); refine Kd.R_lit k49 _ 49 ?hg (N := 76) ?hd (xs := ([(⟨a1_3, (rd_T49 l0 t284).f1, (rd_T49 l0 t284).f2⟩ : S49)] : List (S49))) (inner := [.string a1_3, .int .i64 ((rd_T49 l0 t284).f1), .string ((rd_T49 l0 t284).f2)]) (ok := fun _ => True) (okp := fun _ => True) ?hr ?hp (fun _ hk => hk) trivial (Below.refl _ _) (Nat.le_refl _) (by simp) ?_; (case hd => rfl); (case hg => rfl); (case hr => exact sE); (case hp => exact (Reps.c3 (show Kd.M k49 _ _ _ (⟨a1_3, (rd_T49 l0 t284).f1, (rd_T49 l0 t284).f2⟩ : S49) [.string a1_3, .int .i64 ((rd_T49 l0 t284).f1), .string ((rd_T49 l0 t284).f2)] from (k49_mkM _ _ _ (⟨a1_3, (rd_T49 l0 t284).f1, (rd_T49 l0 t284).f2⟩ : S49) )) (Reps.none _ _))); intro v302 w60 ho61 hb hg_ hnew_; clear hg_ hnew_; (first | rw [← Ny301.out] at ho61 | (simp only [Int.reduceToNat] at ho61; rw [← Ny301.out] at ho61)); have HO303 := Aside0.mk (Kd.R_lower (Kd.R_newB (Kd.R_new' (Kd.R_newM (M := fun k_ => (P0_ k_ ∨ w.heap.size ≤ k_)) ho61 (by first | exact HK.out.1 | exact (show Kept w _ (fun k_ => P0_ k_) from by repeat (first | (with_reducible first | exact HK.out | apply Kept.alloc | apply Kept.drewN | apply Kept.drew | refine Kept.setCell ?_ (.inr GW283.out) _ | refine Kept.setCell ?_ (.inr GW293.out) _) | exact HK.out)).1) (fun k_ h_ => .inr h_)) (Kd.R_lt (rU HO298.out))) (g := gb293) (o := .cells #[.string a1_3, .int .i64 ((rd_T49 l0 t284).f1), .string ((rd_T49 l0 t284).f2)] 49 (0, 0)) (bV BK293)) (below_size (lV2 GE283 GE293))); replace HO298 := Aside0.mk (Kd.R_elder' (rU HO298.out) (Kd.R_base ho61) hb); replace BK283 := bB (bV BK283) hb; replace BK293 := bB (bV BK293) hb; replace HK := Aside0.mk (Kept.below (S := (fun k_ => P0_ k_)) (by repeat (first | (with_reducible first | exact HK.out | apply Kept.alloc | apply Kept.drewN | apply Kept.drew | refine Kept.setCell ?_ (.inr GW283.out) _ | refine Kept.setCell ?_ (.inr GW293.out) _) | exact HK.out)) hb); replace HB := bH (lV2 GE283 GE293) hb; clear hb ho61; obtain ⟨Ao62, co62, eo62⟩ := Kd.R_slice HO303.out; subst eo62) | ((with_reducible refine gate_callee (f := 52) rfl ?_); refine goesL_ (some 77) rfl rfl Try.func52 (by kernel_rfl) rfl #[.slice Ao57 t296.length co57, .int .i64 t299, .slice Ao62 y301.length co62] rfl aE ?_; (with_reducible refine (impl_Value_52.calls (fun k_ => some k_ = (.slice Ao57 t296.length co57 : Value).ownBlock) (.slice Ao57 t296.length co57) t296 t299 _ _ y301 t304 w0 _ ?side1 ?side2 ?side3 ?side4 A40.out).mono ?_); (case side1 => repeat (first | (with_reducible first | exact HB.out | apply below_alloc | apply pw_below_drewN | apply below_drew1 | refine below_set ?_ GE283.out | refine below_set ?_ GE293.out) | exact HB.out)); (case side2 => exact Kd.R_tight rfl HO298.out); (case side3 => exact Kd.C_kept_own (HO303.out) (fun k_ hk_ hs_ => (hk_.1.2) hs_)); (case side4 => exact (Kd.R_reads' HO303.out).2.1); rintro e w63 ⟨v305, rfl, ho0, hb, hkp⟩; refine ⟨_, rfl, ?_⟩; replace BK283 := Aside0.mk (blk_kept (bV BK283) hkp (fun hs_ => (fun e_ => (Kd.R_ne HO298.out BK283.out (by decide)) e_) hs_)); have HO306 := Aside0.mk (Kd.R_mono (ok' := fun k_ => (P0_ k_ ∨ w.heap.size ≤ k_) ∧ some k_ ≠ (.slice Ao62 y301.length co62 : Value).ownBlock ∧ k_ ≠ gb293) ho0 (fun k_ hk_ => ⟨Or.elim hk_ (fun hs_ => (HO298.out.1 k_ (hs_).symm).1.1) (fun hn_ => (.inr (Nat.le_trans (by first | exact HK.out.1 | exact (show Kept w _ (fun k_ => P0_ k_) from by repeat (first | (with_reducible first | exact HK.out | apply Kept.alloc | apply Kept.drewN | apply Kept.drew | refine Kept.setCell ?_ (.inr GW283.out) _ | refine Kept.setCell ?_ (.inr GW293.out) _) | exact HK.out)).1) hn_))), Or.elim hk_ (fun hs_ => fun e_ => (((HO303.out).1 k_ e_.symm).1.2) hs_) (fun hn_ => (Kd.fresh' (Kd.R_lt (rU HO303.out)) k_ hn_)), Or.elim hk_ (fun hs_ => fun e_ => (Kd.R_away HO298.out (fun _ hk => hk.1.2)) (by rw [← e_]; exact hs_)) (fun hn_ => (Kd.freshB (g := gb293) (o := .cells #[.string a1_3, .int .i64 ((rd_T49 l0 t284).f1), .string ((rd_T49 l0 t284).f2)] 49 (0, 0)) (bV BK293) k_ hn_))⟩)); replace BK293 := Aside0.mk (blk_kept (bV BK293) hkp (fun hs_ => (fun e_ => (Kd.R_away HO298.out (fun _ hk => hk.1.2)) e_) hs_)); replace HO303 := Aside0.mk (Kd.R_mono (ok' := fun k_ => (P0_ k_ ∨ w.heap.size ≤ k_) ∧ k_ ≠ gb293 ∧ some k_ ≠ (v305 : Value).ownBlock) (Kd.R_keptB (HO303.out) hkp (fun k_ hk_ hs_ => (hk_.1.2) hs_)) (fun k_ hk_ => ⟨hk_.1.1.1.1, hk_.1.2, fun e_ => Or.elim (ho0.1 k_ e_.symm) (fun hs_ => hk_.2.1 hs_) (fun hn_ => Nat.not_le.2 hk_.2.2 hn_)⟩)); replace HK := Aside0.mk (Kept.then_ (S := (fun k_ => P0_ k_)) (by repeat (first | (with_reducible first | exact HK.out | apply Kept.alloc | apply Kept.drewN | apply Kept.drew | refine Kept.setCell ?_ (.inr GW283.out) _ | refine Kept.setCell ?_ (.inr GW293.out) _) | exact HK.out)) hkp (fun k_ hs_ => (fun e_ => (HO298.out.1 k_ e_.symm).1.1) hs_)); replace HB := Aside0.mk hb; clear HO298; (try clear hb); (try clear hkp); (try clear hg_); (try clear hp_); (try clear ho0)))
       go_ret2
       exact ⟨_, eE, by (with_reducible repeat (first | apply Kd.R_alloc | apply Kd.R_drewN | apply Kd.R_drew)); exact Kd.R_mono HO306.out (fun _ hk => hk.1), lV2 GE283 GE293, by repeat (first | (with_reducible first | exact HK.out | apply Kept.alloc | apply Kept.drewN | apply Kept.drew | refine Kept.setCell ?_ (.inr GW283.out) _ | refine Kept.setCell ?_ (.inr GW293.out) _) | exact HK.out)⟩
     ·rw [if_neg c24] at H
      exact absurd H (by simp)
    ·rw [if_neg c23] at H
     exact absurd H (by simp)
   ·rw [if_neg c22] at H
    have c22b0 : (a1_1 == 1) = false := beq_eq_false_iff_ne.mpr c22
    have c22b1 : (a1_1 != 1) = true := bne_iff_ne.mpr c22
    by_cases c64 : a1_1 = 4
    ·rw [if_pos c64] at H
     have c64b0 : (a1_1 == 4) = true := beq_iff_eq.mpr c64
     have c64b1 : (a1_1 != 4) = false := bne_eq_false_iff_eq.mpr c64
     clear c64
     replace H := Option.bind_eq_some_iff.mp H
     obtain ⟨t307, A650, H⟩ := H
     replace H : (some (t307, true)) = some (r1, r2) := H
     have A65 := Aside0.mk A650
     clear A650
     simp only [Option.some.injEq, Prod.mk.injEq] at H
     obtain ⟨rfl, rfl⟩ := H
     go_enter Try.func44, Try.ntmps44
     go_wp2_with (first | ((with_reducible refine gate_dst (N := 3) rfl ?_); refine box_event rfl (N := 3) rfl (cs := #[.int .i64 a1_0, .int .i64 a1_1, .string a1_2, .string a1_3, .int .i64 a1_4]) (t := 45) sE ?_; intro gb283 hg w66 hbox hb; replace HO0 := Aside0.mk (Kd.R_below (rU HO0.out) hb); have BK283 := Aside0.mk hbox; have GW283 := Aside0.mk ((by rw [hg]; exact (by first | exact HK.out.1 | exact (show Kept w _ (fun k_ => P0_ k_) from by repeat (first | (with_reducible first | exact HK.out | apply Kept.alloc | apply Kept.drewN | apply Kept.drew) | exact HK.out)).1) : w.heap.size ≤ gb283)); replace HK := Aside0.mk (Kept.below (S := (fun k_ => P0_ k_)) (by repeat (first | (with_reducible first | exact HK.out | apply Kept.alloc | apply Kept.drewN | apply Kept.drew) | exact HK.out)) hb); have GE283 := Aside0.mk ((by rw [hg]; exact (below_size (lU)) : w0.heap.size ≤ gb283)); replace HB := bH (lU) hb; clear hb hbox hg; have hcz67_0 := cz BK283 0 (.int .i64 a1_0); have hcz67_1 := cz BK283 1 (.int .i64 a1_1); have hcz67_2 := cz BK283 2 (.string a1_2); have hcz67_3 := cz BK283 3 (.string a1_3); have hcz67_4 := cz BK283 4 (.int .i64 a1_4); have hfz67_0 := fz BK283 0; have hfz67_1 := fz BK283 1; have hfz67_2 := fz BK283 2; have hfz67_3 := fz BK283 3; have hfz67_4 := fz BK283 4; obtain ⟨Ao68, co68, eo68⟩ := Kd.R_slice HO0.out; subst eo68) | ((with_reducible refine gate_callee (f := 51) rfl ?_); refine goesL_ (some 19) rfl rfl Try.func51 (by kernel_rfl) rfl #[.slice Ao68 l0.length co68, .string a1_2] rfl aE ?_; (with_reducible refine (impl_valuePlace.calls k _ _ l0 a1_2 t284 true _ ?side1 ?side2 A3.out).mono ?_); (case side1 => exact cU (Kd.R_reads' HO0.out).2.2); (case side2 => exact (Kd.R_reads' HO0.out).2.1); rintro e w69 ⟨rfl, hb⟩; refine ⟨_, rfl, ?_⟩; replace HO0 := Aside0.mk (Kd.R_below (rU HO0.out) hb); replace BK283 := bB (bV BK283) hb; replace HK := Aside0.mk (Kept.below (S := (fun k_ => P0_ k_)) (by repeat (first | (with_reducible first | exact HK.out | apply Kept.alloc | apply Kept.drewN | apply Kept.drew | refine Kept.setCell ?_ (.inr GW283.out) _) | exact HK.out)) hb); replace HB := bH (lV1 GE283) hb; (try clear hb); have hcz70_0 := cz BK283 0 (.int .i64 a1_0); have hcz70_1 := cz BK283 1 (.int .i64 a1_1); have hcz70_2 := cz BK283 2 (.string a1_2); have hcz70_3 := cz BK283 3 (.string a1_3); have hcz70_4 := cz BK283 4 (.int .i64 a1_4); have hfz70_0 := fz BK283 0; have hfz70_1 := fz BK283 1; have hfz70_2 := fz BK283 2; have hfz70_3 := fz BK283 3; have hfz70_4 := fz BK283 4) | ((with_reducible refine gate_callee (f := 53) rfl ?_); refine goesL_ (some 84) rfl rfl Try.func53 (by kernel_rfl) rfl #[.slice Ao68 l0.length co68, .int .i64 t284, .int .i64 (wrap64 (t284 + 1))] rfl aE ?_; (with_reducible refine (impl_Value_53.calls (fun k_ => some k_ = (.slice Ao68 l0.length co68 : Value).ownBlock) (.slice Ao68 l0.length co68) l0 t284 (wrap64 (t284 + 1)) t307 w0 _ ?side1 ?side2 A65.out).mono ?_); (case side1 => repeat (first | (with_reducible first | exact HB.out | apply below_alloc | apply pw_below_drewN | apply below_drew1 | refine below_set ?_ GE283.out) | exact HB.out)); (case side2 => exact Kd.R_tight rfl HO0.out); rintro e w71 ⟨v308, rfl, ho0, hb, hkp⟩; refine ⟨_, rfl, ?_⟩; replace BK283 := Aside0.mk (blk_kept (bV BK283) hkp (fun hs_ => (fun e_ => (Kd.R_ne HO0.out BK283.out (by decide)) e_) hs_)); have HO309 := Aside0.mk (Kd.R_mono (ok' := fun k_ => (P0_ k_ ∨ w.heap.size ≤ k_)) ho0 (fun k_ hk_ => Or.elim hk_ (fun hs_ => (HO0.out.1 k_ (hs_).symm)) (fun hn_ => (.inr (Nat.le_trans (by first | exact HK.out.1 | exact (show Kept w _ (fun k_ => P0_ k_) from by repeat (first | (with_reducible first | exact HK.out | apply Kept.alloc | apply Kept.drewN | apply Kept.drew | refine Kept.setCell ?_ (.inr GW283.out) _) | exact HK.out)).1) hn_))))); replace HK := Aside0.mk (Kept.then_ (S := (fun k_ => P0_ k_)) (by repeat (first | (with_reducible first | exact HK.out | apply Kept.alloc | apply Kept.drewN | apply Kept.drew | refine Kept.setCell ?_ (.inr GW283.out) _) | exact HK.out)) hkp (fun k_ hs_ => (fun e_ => (HO0.out.1 k_ e_.symm)) hs_)); replace HB := Aside0.mk hb; clear HO0; (try clear hb); (try clear hkp); (try clear hg_); (try clear hp_); (try clear ho0)))
     go_ret2
     exact ⟨_, eE, by (with_reducible repeat (first | apply Kd.R_alloc | apply Kd.R_drewN | apply Kd.R_drew)); exact HO309.out, lV1 GE283, by repeat (first | (with_reducible first | exact HK.out | apply Kept.alloc | apply Kept.drewN | apply Kept.drew | refine Kept.setCell ?_ (.inr GW283.out) _) | exact HK.out)⟩
    ·rw [if_neg c64] at H
     have c64b0 : (a1_1 == 4) = false := beq_eq_false_iff_ne.mpr c64
     have c64b1 : (a1_1 != 4) = true := bne_iff_ne.mpr c64
     by_cases c72 : 0 ≤ t284
     ·rw [if_pos c72] at H
      have c72b0 : decide (0 ≤ t284) = true := decide_eq_true c72
      clear c72
      by_cases c73 : t284 < (l0.length : Int)
      ·rw [if_pos c73] at H
       have c73b0 : decide (t284 < (l0.length : Int)) = true := decide_eq_true c73
       clear c73
       replace H := Option.bind_eq_some_iff.mp H
       obtain ⟨⟨t311, t312⟩, A740, H⟩ := H
       replace H : (some ((l0.set (t284 : Int).toNat (⟨(rd_T49 l0 t284).f0, t311, (rd_T49 l0 t284).f2⟩ : S49)), t312)) = some (r1, r2) := H
       have A74 := Aside0.mk A740
       clear A740
       obtain ⟨y313, hy313⟩ : ∃ y_ : List (S49), y_ = (l0.set (t284 : Int).toNat (⟨(rd_T49 l0 t284).f0, t311, (rd_T49 l0 t284).f2⟩ : S49)) := ⟨_, rfl⟩
       replace H : (some (y313, t312)) = some (r1, r2) := by first | (rw [hy313]; with_reducible exact H) | (have H2_ := (Option.bind_some _ _).symm.trans H; rw [hy313]; with_reducible exact H2_) | (have H2_ := (Option.bind_some _ _).symm.trans H; with_reducible exact H2_) | with_reducible exact H | (rw [hy313]; exact H) | exact H
       have Ny313 := Aside0.mk hy313
       clear hy313
       simp only [Option.some.injEq, Prod.mk.injEq] at H
       obtain ⟨rfl, rfl⟩ := H
       go_enter Try.func44, Try.ntmps44
       try go_wp2_with (first | ((with_reducible refine gate_dst (N := 3) rfl ?_); refine box_event rfl (N := 3) rfl (cs := #[.int .i64 a1_0, .int .i64 a1_1, .string a1_2, .string a1_3, .int .i64 a1_4]) (t := 45) sE ?_; intro gb283 hg w76 hbox hb; replace HO0 := Aside0.mk (Kd.R_below (rU HO0.out) hb); have BK283 := Aside0.mk hbox; have GW283 := Aside0.mk ((by rw [hg]; exact (by first | exact HK.out.1 | exact (show Kept w _ (fun k_ => P0_ k_) from by repeat (first | (with_reducible first | exact HK.out | apply Kept.alloc | apply Kept.drewN | apply Kept.drew) | exact HK.out)).1) : w.heap.size ≤ gb283)); replace HK := Aside0.mk (Kept.below (S := (fun k_ => P0_ k_)) (by repeat (first | (with_reducible first | exact HK.out | apply Kept.alloc | apply Kept.drewN | apply Kept.drew) | exact HK.out)) hb); have GE283 := Aside0.mk ((by rw [hg]; exact (below_size (lU)) : w0.heap.size ≤ gb283)); replace HB := bH (lU) hb; clear hb hbox hg; have hcz77_0 := cz BK283 0 (.int .i64 a1_0); have hcz77_1 := cz BK283 1 (.int .i64 a1_1); have hcz77_2 := cz BK283 2 (.string a1_2); have hcz77_3 := cz BK283 3 (.string a1_3); have hcz77_4 := cz BK283 4 (.int .i64 a1_4); have hfz77_0 := fz BK283 0; have hfz77_1 := fz BK283 1; have hfz77_2 := fz BK283 2; have hfz77_3 := fz BK283 3; have hfz77_4 := fz BK283 4; obtain ⟨Ao78, co78, eo78⟩ := Kd.R_slice HO0.out; subst eo78) | ((with_reducible refine gate_callee (f := 51) rfl ?_); refine goesL_ (some 19) rfl rfl Try.func51 (by kernel_rfl) rfl #[.slice Ao78 l0.length co78, .string a1_2] rfl aE ?_; (with_reducible refine (impl_valuePlace.calls k _ _ l0 a1_2 t284 true _ ?side1 ?side2 A3.out).mono ?_); (case side1 => exact cU (Kd.R_reads' HO0.out).2.2); (case side2 => exact (Kd.R_reads' HO0.out).2.1); rintro e w79 ⟨rfl, hb⟩; refine ⟨_, rfl, ?_⟩; replace HO0 := Aside0.mk (Kd.R_below (rU HO0.out) hb); replace BK283 := bB (bV BK283) hb; replace HK := Aside0.mk (Kept.below (S := (fun k_ => P0_ k_)) (by repeat (first | (with_reducible first | exact HK.out | apply Kept.alloc | apply Kept.drewN | apply Kept.drew | refine Kept.setCell ?_ (.inr GW283.out) _) | exact HK.out)) hb); replace HB := bH (lV1 GE283) hb; (try clear hb); have hcz80_0 := cz BK283 0 (.int .i64 a1_0); have hcz80_1 := cz BK283 1 (.int .i64 a1_1); have hcz80_2 := cz BK283 2 (.string a1_2); have hcz80_3 := cz BK283 3 (.string a1_3); have hcz80_4 := cz BK283 4 (.int .i64 a1_4); have hfz80_0 := fz BK283 0; have hfz80_1 := fz BK283 1; have hfz80_2 := fz BK283 2; have hfz80_3 := fz BK283 3; have hfz80_4 := fz BK283 4))
       replace HO0 := Aside0.mk (Kd.R_drew HO0.out)
       replace BK283 := Aside0.mk (blk_drew BK283.out)
       replace HK := Aside0.mk (Kept.drew HK.out)
       replace HB := Aside0.mk (below_drew1 HB.out)
       have p310 : 0 ≤ (t284 : Int) := of_decide_eq_true hE
       have q310 : t284 < (l0.length : Int) := of_decide_eq_true hE
       obtain ⟨ad310, e310, hx310_0, hx310_1, hx310_2⟩ := at_T49 (Kd.R_reads' HO0.out).2.2 t284 p310 q310
       cases e310
       replace p310 := eq_true p310
       replace q310 := eq_true q310
       refine start_ (n := 12) (S := fun w' => w'.cell? ⟨gb283, 0, none⟩ = some (.int .i64 a1_0) ∧ w'.cell? ⟨gb283, 1, none⟩ = some (.int .i64 a1_1) ∧ w'.cell? ⟨gb283, 2, none⟩ = some (.string a1_2) ∧ w'.cell? ⟨gb283, 3, none⟩ = some (.string a1_3) ∧ w'.cell? ⟨gb283, 4, none⟩ = some (.int .i64 a1_4) ∧ w'.cell? (ad310.add ((t284).toNat * 3)) = some (.string ((rd_T49 l0 t284).f0)) ∧ w'.cell? ⟨(ad310.add ((t284).toNat * 3)).block, (ad310.add ((t284).toNat * 3)).off + 1, none⟩ = some (.int .i64 ((rd_T49 l0 t284).f1)) ∧ w'.cell? ⟨(ad310.add ((t284).toNat * 3)).block, (ad310.add ((t284).toNat * 3)).off + 2, none⟩ = some (.string ((rd_T49 l0 t284).f2))) (ds := []) #[false, false, false, false, false, false, false, false, false, false, false, false] (by kernel_rfl) rfl rfl ⟨cz BK283 0 _, cz BK283 1 _, cz BK283 2 _, cz BK283 3 _, cz BK283 4 _, hx310_0, hx310_1, hx310_2⟩ (fun hHeld => ?_); refine with_tabW impl_change.tab20 impl_change.bits20 (fun HT_ HW_ => ?_)
       generalize w79.drew = w81 at HO0 BK283 HK HB hx310_0 hx310_1 hx310_2 hHeld ⊢
       refine pureA 1 87 (bz 12 2) rfl rfl (any_of HT_.out (by kernel_rfl)) ?_
       refine pureA 2 88 (bz 12 6) rfl rfl (any_of HT_.out (by kernel_rfl)) ?_
       refine pureA 3 89 (bz 12 14) rfl rfl (any_of HT_.out (by kernel_rfl)) ?_
       refine pureA 4 90 (bz 12 30) rfl rfl (any_of HT_.out (by kernel_rfl)) ?_
       refine takeA 0 86 (bz 12 31) rfl rfl (take_ofW HT_.out HW_.out (by kernel_rfl)) hHeld (by rintro w' ⟨s0, s1, s2, s3, s4, s5, s6, s7⟩; go_simp; with_reducible rfl) ?_
       refine takeA 5 91 (bz 12 63) rfl rfl (take_ofW HT_.out HW_.out (by kernel_rfl)) hHeld (by rintro w' ⟨s0, s1, s2, s3, s4, s5, s6, s7⟩; go_simp; with_reducible rfl) ?_
       refine one_ (i := 6) (N := some 92) (bz 12 127) rfl rfl (one_of HT_.out (by kernel_rfl)) (by decide) (fun K hK => ?_)
       refine goes_ Try.func54 (by kernel_rfl) rfl #[.agg #[.int .i64 a1_0, .int .i64 a1_1, .string a1_2, .string a1_3, .int .i64 a1_4], .int .i64 ((rd_T49 l0 t284).f1)] (by rfl) rfl rfl aE ?_
       with_reducible refine (impl_Change_changed.calls k a1_0 a1_1 a1_2 a1_3 a1_4 ((rd_T49 l0 t284).f1) t311 t312 _ A74.out).mono ?_
       rintro e w82 ⟨rfl, hb⟩
       have HS5_ := hT hb hHeld.2.2.2.2.2.1
       have HS6_ := hT hb hHeld.2.2.2.2.2.2.1
       have HS7_ := hT hb hHeld.2.2.2.2.2.2.2
       refine ⟨_, rfl, ?_⟩
       replace HO0 := Aside0.mk (Kd.R_below (rU HO0.out) hb)
       replace BK283 := bB (bV BK283) hb
       replace HK := Aside0.mk (Kept.below (S := (fun k_ => P0_ k_)) (by repeat (first | (with_reducible first | exact HK.out | apply Kept.alloc | apply Kept.drewN | apply Kept.drew | refine Kept.setCell ?_ (.inr GW283.out) _) | exact HK.out)) hb)
       replace HB := bH (lV1 GE283) hb
       (try clear hb)
       (try clear hb2)
       (try clear hk)
       (try clear hi)
       refine hK.out _ _ ⟨cz BK283 0 _, cz BK283 1 _, cz BK283 2 _, cz BK283 3 _, cz BK283 4 _, HS5_, HS6_, HS7_⟩ (fun hHeld => ?_)
       clear hK K
       refine norm_ (a' := ?_) ?_ ?_
       rotate_left
       ·show Act.put _ (some 92) _ = _
        simp only [Act.put, List.setIfInBounds_toArray, List.set_cons_zero, List.set_cons_succ, i64_w, i32_w]
        rfl
       refine pureA 7 85 (bz 12 255) rfl rfl (any_of HT_.out (by kernel_rfl)) ?_
       refine pureA 8 93 (bz 12 511) rfl rfl (any_of HT_.out (by kernel_rfl)) ?_
       refine pureA 9 94 (bz 12 1023) rfl rfl (any_of HT_.out (by kernel_rfl)) ?_
       refine pureA 10 13 (bz 12 2047) rfl rfl (any_of HT_.out (by kernel_rfl)) ?_
       refine pureA 11 14 (bz 12 4095) rfl rfl (any_of HT_.out (by kernel_rfl)) ?_
       refine done_ (done_of HT_.out (by kernel_rfl)) ?_
       have p75 : 0 ≤ (t284 : Int) := of_decide_eq_true hE
       have q75 : (t284 : Int) < ((l0.length : Int) : Int) := of_decide_eq_true hE
       obtain ⟨go75, co75, eo75, gb75, gl75, cl75, HG75⟩ := Kd.R_form HO0.out (by omega)
       (first | cases eo75 | (injection eo75 with ea_ en_ ec_; (first | subst ea_ | (injection ea_ with ea_; subst ea_)); subst ec_; clear en_))
       have GB75 := Aside0.mk gb75
       have GG75 := Aside0.mk HG75
       clear gb75 gl75 HG75
       have HMgo75 := Aside0.mk (show (P0_ go75 ∨ w.heap.size ≤ go75) from (HO0.out.1 _ rfl))
       (first | simp only [add_plain] at hx310_0 | skip)
       (first | simp only [add_plain] at hx310_1 | skip)
       (first | simp only [add_plain] at hx310_2 | skip)
       obtain ⟨ce75, hcl75, hM75, hcc75, hfr75⟩ := Kd.R_elem HO0.out z49 (t284 : Int) p75 q75
       obtain rfl := k49_openM hM75
       have hx75_0 : w82.cell? ⟨go75, (t284 : Int).toNat * 3, none⟩ = some (.string ((rd_T49 l0 t284).f0)) := hcc75 0 _ rfl
       have hx75_1 : w82.cell? ⟨go75, (t284 : Int).toNat * 3 + 1, none⟩ = some (.int .i64 ((rd_T49 l0 t284).f1)) := hcc75 1 _ rfl
       have hx75_2 : w82.cell? ⟨go75, (t284 : Int).toNat * 3 + 2, none⟩ = some (.string ((rd_T49 l0 t284).f2)) := hcc75 2 _ rfl
       have hf75_0 : w82.frozen? ⟨go75, (t284 : Int).toNat * 3, none⟩ = false := hfr75 0
       have hf75_1 : w82.frozen? ⟨go75, (t284 : Int).toNat * 3 + 1, none⟩ = false := hfr75 1
       have hf75_2 : w82.frozen? ⟨go75, (t284 : Int).toNat * 3 + 2, none⟩ = false := hfr75 2
       (try clear hcl75)
       (try clear hcc75)
       (try clear hfr75)
       (try clear hM75)
       replace p75 := eq_true p75
       replace q75 := eq_true q75
       have HX83 := Aside0.mk (show Kd.R k49 49 w82 w0.heap.size (fun k_ => (P0_ k_ ∨ w.heap.size ≤ k_)) (.slice (some ⟨go75, 0, none⟩) l0.length co78) l0 from (rU HO0.out))
       obtain ⟨ce83, hcl83, hM83, hcc83, hfr83⟩ := Kd.R_elem HX83.out z49 (t284 : Int) (of_decide_eq_true hE) (by have h_ : (t284 : Int) < ((l0.length : Int) : Int) := of_decide_eq_true hE; first | exact h_ | (have e_ := (Kd.R_reads' HO0.out).1; omega) | simpa using h_)
       obtain rfl := k49_openM hM83
       have HP83 := Kd.R_seg HX83.out (t284 : Int) (of_decide_eq_true hE) (by have h_ : (t284 : Int) < ((l0.length : Int) : Int) := of_decide_eq_true hE; first | exact h_ | (have e_ := (Kd.R_reads' HO0.out).1; omega) | simpa using h_) (seg := [.int .i64 t311]) (j := 1) hcl83 hcc83 (show 2 ≤ 3 from by decide) (x' := (⟨(rd_T49 l0 t284).f0, t311, (rd_T49 l0 t284).f2⟩ : S49)) (k49_mkM _ _ _ (⟨(rd_T49 l0 t284).f0, t311, (rd_T49 l0 t284).f2⟩ : S49) ) (fun _ hk => hk)
       have hx83_1 := hcc83 1 _ rfl
       (try simp only [show (k49).sz = 3 from rfl, Nat.mul_one, Nat.add_zero] at hx83_1)
       have hf83_1 := hfr83 1
       (try simp only [show (k49).sz = 3 from rfl, Nat.mul_one, Nat.add_zero] at hf83_1)
       (try clear hcl83)
       (try clear hcc83)
       (try clear hfr83)
       (try clear hM83)
       try go_wp2_with (first | ((with_reducible refine gate_store (t := 3) (p := 99) rfl ?_); refine store_event (t := 3) (p := 99) (v := ?vo_w84) (w1 := (w82.setCell ⟨go75, (t284 : Int).toNat * 3 + 1, none⟩ (.int .i64 t311))) ?hg ?ho ?hn ?hr ?_; (case ho => rfl); (case hg => rfl); (case hn => rfl); (case hr => exact sE); intro w84 hw; have hg : w82.grownBy w84 (some go75) := (by rw [hw]; exact HP83.2); have hp_ : Kd.R k49 49 w84 w0.heap.size (fun k_ => (P0_ k_ ∨ w.heap.size ≤ k_)) (.slice (some ⟨go75, 0, none⟩) l0.length co78) y313 := (by rw [hw, Ny313.out]; exact HP83.1); clear HP83; replace BK283 := Aside0.mk (blk_grown (g := gb283) (o := .cells #[.int .i64 a1_0, .int .i64 a1_1, .string a1_2, .string a1_3, .int .i64 a1_4] 45 (0, 0)) (bV BK283) hg (Kd.R_ne HO0.out BK283.out (by decide))); replace HB := Aside0.mk ((by rw [hw]; exact below_set (HB.out) GB75.out : Below w0.heap.size w0 w84)); replace HK := Aside0.mk (Kept.of_grown (S := (fun k_ => P0_ k_)) hg (by repeat (first | (with_reducible first | exact HK.out | apply Kept.alloc | apply Kept.drewN | apply Kept.drew | refine Kept.setCell ?_ (.inr GW283.out) _) | exact HK.out)) (fun k_ e_ => (HO0.out.1 k_ e_))); replace HO0 := Aside0.mk hp_; clear hg hw hp_))
       go_ret2
       exact ⟨_, eE, by (with_reducible repeat (first | apply Kd.R_alloc | apply Kd.R_drewN | apply Kd.R_drew)); exact HO0.out, lV1 GE283, by repeat (first | (with_reducible first | exact HK.out | apply Kept.alloc | apply Kept.drewN | apply Kept.drew | refine Kept.setCell ?_ (.inr GW283.out) _) | exact HK.out)⟩
      ·rw [if_neg c73] at H
       exact absurd H (by simp)
     ·rw [if_neg c72] at H
      exact absurd H (by simp)
  ·replace c21 := Bool.eq_false_iff.mpr c21
   subst c21
   have H1 : (some (l0, true)) = some (r1, r2) := by rw [if_neg (show ¬ (false = true) by decide)] at H; exact H
   clear H
   have H := H1
   clear H1
   simp only [Option.some.injEq, Prod.mk.injEq] at H
   obtain ⟨rfl, rfl⟩ := H
   go_enter Try.func44, Try.ntmps44
   go_wp2_with (first | ((with_reducible refine gate_dst (N := 3) rfl ?_); refine box_event rfl (N := 3) rfl (cs := #[.int .i64 a1_0, .int .i64 a1_1, .string a1_2, .string a1_3, .int .i64 a1_4]) (t := 45) sE ?_; intro gb283 hg w85 hbox hb; replace HO0 := Aside0.mk (Kd.R_below (rU HO0.out) hb); have BK283 := Aside0.mk hbox; have GW283 := Aside0.mk ((by rw [hg]; exact (by first | exact HK.out.1 | exact (show Kept w _ (fun k_ => P0_ k_) from by repeat (first | (with_reducible first | exact HK.out | apply Kept.alloc | apply Kept.drewN | apply Kept.drew) | exact HK.out)).1) : w.heap.size ≤ gb283)); replace HK := Aside0.mk (Kept.below (S := (fun k_ => P0_ k_)) (by repeat (first | (with_reducible first | exact HK.out | apply Kept.alloc | apply Kept.drewN | apply Kept.drew) | exact HK.out)) hb); have GE283 := Aside0.mk ((by rw [hg]; exact (below_size (lU)) : w0.heap.size ≤ gb283)); replace HB := bH (lU) hb; clear hb hbox hg; have hcz86_0 := cz BK283 0 (.int .i64 a1_0); have hcz86_1 := cz BK283 1 (.int .i64 a1_1); have hcz86_2 := cz BK283 2 (.string a1_2); have hcz86_3 := cz BK283 3 (.string a1_3); have hcz86_4 := cz BK283 4 (.int .i64 a1_4); have hfz86_0 := fz BK283 0; have hfz86_1 := fz BK283 1; have hfz86_2 := fz BK283 2; have hfz86_3 := fz BK283 3; have hfz86_4 := fz BK283 4; obtain ⟨Ao87, co87, eo87⟩ := Kd.R_slice HO0.out; subst eo87) | ((with_reducible refine gate_callee (f := 51) rfl ?_); refine goesL_ (some 19) rfl rfl Try.func51 (by kernel_rfl) rfl #[.slice Ao87 l0.length co87, .string a1_2] rfl aE ?_; (with_reducible refine (impl_valuePlace.calls k _ _ l0 a1_2 t284 false _ ?side1 ?side2 A3.out).mono ?_); (case side1 => exact cU (Kd.R_reads' HO0.out).2.2); (case side2 => exact (Kd.R_reads' HO0.out).2.1); rintro e w88 ⟨rfl, hb⟩; refine ⟨_, rfl, ?_⟩; replace HO0 := Aside0.mk (Kd.R_below (rU HO0.out) hb); replace BK283 := bB (bV BK283) hb; replace HK := Aside0.mk (Kept.below (S := (fun k_ => P0_ k_)) (by repeat (first | (with_reducible first | exact HK.out | apply Kept.alloc | apply Kept.drewN | apply Kept.drew | refine Kept.setCell ?_ (.inr GW283.out) _) | exact HK.out)) hb); replace HB := bH (lV1 GE283) hb; (try clear hb); have hcz89_0 := cz BK283 0 (.int .i64 a1_0); have hcz89_1 := cz BK283 1 (.int .i64 a1_1); have hcz89_2 := cz BK283 2 (.string a1_2); have hcz89_3 := cz BK283 3 (.string a1_3); have hcz89_4 := cz BK283 4 (.int .i64 a1_4); have hfz89_0 := fz BK283 0; have hfz89_1 := fz BK283 1; have hfz89_2 := fz BK283 2; have hfz89_3 := fz BK283 3; have hfz89_4 := fz BK283 4))
   go_ret2
   exact ⟨_, eE, by (with_reducible repeat (first | apply Kd.R_alloc | apply Kd.R_drewN | apply Kd.R_drew)); exact HO0.out, lV1 GE283, by repeat (first | (with_reducible first | exact HK.out | apply Kept.alloc | apply Kept.drewN | apply Kept.drew | refine Kept.setCell ?_ (.inr GW283.out) _) | exact HK.out)⟩
mutual
def impl_MigrateSave.j0 : Nat → Int → List (S49) → List (S45) → Bool → Option ((List (S49)) × Bool)
 | 0, _, _, _, _ => none
 | k + 1, x0, x1, x2, x24 => if x24 = true then (some (([] : List (S49)), false)) else ((impl_Value_43.f x1).bind fun t317 => (impl_MigrateSave.l0 k x0 t317 x2 (x2.length : Int) 0))
def impl_MigrateSave.l0 : Nat → Int → List (S49) → List (S45) → Int → Int → Option ((List (S49)) × Bool)
 | 0, _, _, _, _, _ => none
 | k + 1, x0, x8, x27, x28, x29 => if x29 < x28 then (if 0 ≤ x29 then (if x29 < (x27.length : Int) then (if ((rd_T45 x27 x29).f0) < x0 then (impl_MigrateSave.l0 k x0 x8 x27 x28 (wrap64 (x29 + 1))) else ((impl_change.f k x8 ((rd_T45 x27 x29).f0) ((rd_T45 x27 x29).f1) ((rd_T45 x27 x29).f2) ((rd_T45 x27 x29).f3) ((rd_T45 x27 x29).f4)).bind fun bt322 => (if bt322.2 = true then (impl_MigrateSave.l0 k x0 bt322.1 x27 x28 (wrap64 (x29 + 1))) else (some (([] : List (S49)), false))))) else (none)) else (none)) else (some (x8, true))
end
def impl_MigrateSave.f (k : Nat) (a0 : Int) (l1 : List (S49)) (l2 : List (S45)) : Option ((List (S49)) × Bool) := (impl_inRange.f a0 1 3).bind fun t314 => (if t314 = true then ((impl_GoodValues.f k l1).bind fun t315 => (if t315 = true then ((impl_GoodChanges.f k l2).bind fun t316 => (impl_MigrateSave.j0 k a0 l1 l2 (!t316))) else (impl_MigrateSave.j0 k a0 l1 l2 true))) else (impl_MigrateSave.j0 k a0 l1 l2 true))
theorem impl_MigrateSave.mono_l : ∀ k, (∀ y0 y1 y2 y3, LeO (impl_MigrateSave.j0 k y0 y1 y2 y3) (impl_MigrateSave.j0 (k + 1) y0 y1 y2 y3)) ∧ (∀ y0 y1 y2 y3 y4, LeO (impl_MigrateSave.l0 k y0 y1 y2 y3 y4) (impl_MigrateSave.l0 (k + 1) y0 y1 y2 y3 y4))
 | 0 => ⟨fun _ _ _ _ r h => by simp [impl_MigrateSave.j0] at h, fun _ _ _ _ _ r h => by simp [impl_MigrateSave.l0] at h⟩
 | k + 1 => by
  obtain ⟨ih0, ih1⟩ := impl_MigrateSave.mono_l k
  refine ⟨?_, ?_⟩
  ·intro y0 y1 y2 y3
   unfold impl_MigrateSave.j0
   repeat' first
   | (with_reducible exact ih0 _ _ _ _)
   | (with_reducible exact ih1 _ _ _ _ _)
   | (with_reducible exact impl_GoodChanges.mono _ _)
   | (with_reducible exact impl_GoodValues.mono _ _)
   | (with_reducible exact impl_change.mono _ _ _ _ _ _ _)
   | (with_reducible first | exact LeO.refl _ | exact LeO.none _ | refine LeO.ite ?_ ?_ | refine LeO.bind ?_ (fun _ => ?_))
   | exact ih0 _ _ _ _
   | exact ih1 _ _ _ _ _
   | exact impl_GoodChanges.mono _ _
   | exact impl_GoodValues.mono _ _
   | exact impl_change.mono _ _ _ _ _ _ _ | exact LeO.none _ | refine LeO.ite ?_ ?_ | refine LeO.bind ?_ (fun _ => ?_)
  ·intro y0 y1 y2 y3 y4
   unfold impl_MigrateSave.l0
   repeat' first
   | (with_reducible exact ih0 _ _ _ _)
   | (with_reducible exact ih1 _ _ _ _ _)
   | (with_reducible exact impl_GoodChanges.mono _ _)
   | (with_reducible exact impl_GoodValues.mono _ _)
   | (with_reducible exact impl_change.mono _ _ _ _ _ _ _)
   | (with_reducible first | exact LeO.refl _ | exact LeO.none _ | refine LeO.ite ?_ ?_ | refine LeO.bind ?_ (fun _ => ?_))
   | exact ih0 _ _ _ _
   | exact ih1 _ _ _ _ _
   | exact impl_GoodChanges.mono _ _
   | exact impl_GoodValues.mono _ _
   | exact impl_change.mono _ _ _ _ _ _ _ | exact LeO.none _ | refine LeO.ite ?_ ?_ | refine LeO.bind ?_ (fun _ => ?_)
theorem impl_MigrateSave.mono : ∀ a0 a1 a2 k, LeO (impl_MigrateSave.f k a0 a1 a2) (impl_MigrateSave.f (k + 1) a0 a1 a2) := by
 intro a0 a1 a2 k
 obtain ⟨ih0, ih1⟩ := impl_MigrateSave.mono_l k
 unfold impl_MigrateSave.f
 repeat' first
   | (with_reducible exact ih0 _ _ _ _)
   | (with_reducible exact ih1 _ _ _ _ _)
   | (with_reducible exact impl_GoodChanges.mono _ _)
   | (with_reducible exact impl_GoodValues.mono _ _)
   | (with_reducible exact impl_change.mono _ _ _ _ _ _ _)
   | (with_reducible first | exact LeO.refl _ | exact LeO.none _ | refine LeO.ite ?_ ?_ | refine LeO.bind ?_ (fun _ => ?_))
   | exact ih0 _ _ _ _
   | exact ih1 _ _ _ _ _
   | exact impl_GoodChanges.mono _ _
   | exact impl_GoodValues.mono _ _
   | exact impl_change.mono _ _ _ _ _ _ _ | exact LeO.none _ | refine LeO.ite ?_ ?_ | refine LeO.bind ?_ (fun _ => ?_)
set_option maxHeartbeats 8000000 in
set_option maxRecDepth 100000 in
theorem impl_MigrateSave.calls (k : Nat) (a0 : Int) (A1 : Option Addr) (c1 : Nat) (l1 : List (S49)) (A2 : Option Addr) (c2 : Nat) (l2 : List (S45)) (r1 : List (S49)) (r2 : Bool) (w : World) (hr1 : Kd.C k49 w A1 l1.length l1) (hc1 : l1.length ≤ c1) (hr2 : Kd.C k45 w A2 l2.length l2) (hc2 : l2.length ≤ c2) (h : impl_MigrateSave.f k a0 l1 l2 = some (r1, r2)) :
  Calls Try.prog 21 #[.int .i64 a0, .slice A1 l1.length c1, .slice A2 l2.length c2] w fun e w' => ∃ v0_ : Value, e = .returned (.tuple #[v0_, .bool r2]) ∧ Kd.R k49 49 w' w.heap.size (fun _ => True) v0_ r1 ∧ Below w.heap.size w w' := by
 have hu45 := Try.underlying45
 have HR1 := Aside0.mk hr1
 have HC1 := Aside0.mk hc1
 clear hr1 hc1
 have HR2 := Aside0.mk hr2
 have HC2 := Aside0.mk hc2
 clear hr2 hc2
 have HB := Aside0.mk (Below.refl w.heap.size w)
 have H : ((impl_inRange.f a0 1 3).bind fun t314 => (if t314 = true then ((impl_GoodValues.f k l1).bind fun t315 => (if t315 = true then ((impl_GoodChanges.f k l2).bind fun t316 => (impl_MigrateSave.j0 k a0 l1 l2 (!t316))) else (impl_MigrateSave.j0 k a0 l1 l2 true))) else (impl_MigrateSave.j0 k a0 l1 l2 true))) = some (r1, r2) := h
 clear h
 have HC4 := Aside0.mk H
 clear H
 go_enter Try.func21, Try.ntmps21
 go_upto_region 1 with (fail)
 go_cut [24] (fun v24 wc => ∃ (kq : Nat) (x24_3 : Bool), v24 = .bool x24_3 ∧ Aside0 (impl_MigrateSave.j0 kq a0 l1 l2 x24_3 = some (r1, r2)) ∧ Aside0 (kq ≤ k) ∧ Aside0 (Below w.heap.size w wc))
 case first =>
  have H := HC4.out
  clear HC4
  replace H := Option.bind_eq_some_iff.mp H
  obtain ⟨t314, A50, H⟩ := H
  replace H : (if t314 = true then ((impl_GoodValues.f k l1).bind fun t315 => (if t315 = true then ((impl_GoodChanges.f k l2).bind fun t316 => (impl_MigrateSave.j0 k a0 l1 l2 (!t316))) else (impl_MigrateSave.j0 k a0 l1 l2 true))) else (impl_MigrateSave.j0 k a0 l1 l2 true)) = some (r1, r2) := H
  have A5 := Aside0.mk A50
  clear A50
  by_cases c6 : t314 = true
  ·subst c6
   have H1 : ((impl_GoodValues.f k l1).bind fun t315 => (if t315 = true then ((impl_GoodChanges.f k l2).bind fun t316 => (impl_MigrateSave.j0 k a0 l1 l2 (!t316))) else (impl_MigrateSave.j0 k a0 l1 l2 true))) = some (r1, r2) := by rw [if_pos rfl] at H; exact H
   clear H
   have H := H1
   clear H1
   replace H := Option.bind_eq_some_iff.mp H
   obtain ⟨t315, A70, H⟩ := H
   replace H : (if t315 = true then ((impl_GoodChanges.f k l2).bind fun t316 => (impl_MigrateSave.j0 k a0 l1 l2 (!t316))) else (impl_MigrateSave.j0 k a0 l1 l2 true)) = some (r1, r2) := H
   have A7 := Aside0.mk A70
   clear A70
   by_cases c8 : t315 = true
   ·subst c8
    have H1 : ((impl_GoodChanges.f k l2).bind fun t316 => (impl_MigrateSave.j0 k a0 l1 l2 (!t316))) = some (r1, r2) := by rw [if_pos rfl] at H; exact H
    clear H
    have H := H1
    clear H1
    replace H := Option.bind_eq_some_iff.mp H
    obtain ⟨t316, A90, H⟩ := H
    replace H : (impl_MigrateSave.j0 k a0 l1 l2 (!t316)) = some (r1, r2) := H
    have A9 := Aside0.mk A90
    clear A90
    have H' := Aside0.mk H
    clear H
    go_wp2_with (first | ((with_reducible refine gate_callee (f := 40) rfl ?_); refine goesL_ (some 13) rfl rfl Try.func40 (by kernel_rfl) rfl #[.int .i64 a0, .int .i64 1, .int .i64 3] rfl aE ?_; (with_reducible refine (impl_inRange.calls a0 1 3 true _ A5.out).mono ?_); rintro e w' ⟨rfl, ⟨nd, rfl⟩⟩; refine ⟨_, rfl, ?_⟩) | (go_at_call 41; (with_reducible refine (impl_GoodValues.calls k _ _ l1 true _ ?side1 ?side2 A7.out).mono ?_); (case side1 => exact cU (Kd.C_below HR1.out (lU))); (case side2 => exact HC1.out); rintro e w10 ⟨rfl, hb⟩; replace HB := bH (lU) hb; (try clear hb)) | (go_at_call 42; (with_reducible refine (impl_GoodChanges.calls k _ _ l2 t316 _ ?side1 ?side2 A9.out).mono ?_); (case side1 => exact cU (Kd.C_below HR2.out HB.out)); (case side2 => exact HC2.out); rintro e w11 ⟨rfl, hb⟩; replace HB := bH (lU) hb; (try clear hb)))
    go_meet
    case rel => exact ⟨_, (!t316), tE, H', ⟨by first | omega | exact Nat.le_refl _⟩, ⟨by repeat (first | (with_reducible first | exact HB.out | apply below_alloc | apply pw_below_drewN | apply below_drew1) | exact HB.out)⟩⟩
   ·replace c8 := Bool.eq_false_iff.mpr c8
    subst c8
    have H1 : (impl_MigrateSave.j0 k a0 l1 l2 true) = some (r1, r2) := by rw [if_neg (show ¬ (false = true) by decide)] at H; exact H
    clear H
    have H := H1
    clear H1
    have H' := Aside0.mk H
    clear H
    go_wp2_with (first | ((with_reducible refine gate_callee (f := 40) rfl ?_); refine goesL_ (some 13) rfl rfl Try.func40 (by kernel_rfl) rfl #[.int .i64 a0, .int .i64 1, .int .i64 3] rfl aE ?_; (with_reducible refine (impl_inRange.calls a0 1 3 true _ A5.out).mono ?_); rintro e w' ⟨rfl, ⟨nd, rfl⟩⟩; refine ⟨_, rfl, ?_⟩) | (go_at_call 41; (with_reducible refine (impl_GoodValues.calls k _ _ l1 false _ ?side1 ?side2 A7.out).mono ?_); (case side1 => exact cU (Kd.C_below HR1.out (lU))); (case side2 => exact HC1.out); rintro e w12 ⟨rfl, hb⟩; replace HB := bH (lU) hb; (try clear hb)))
    go_meet
    case rel => exact ⟨_, (true), tE, H', ⟨by first | omega | exact Nat.le_refl _⟩, ⟨by repeat (first | (with_reducible first | exact HB.out | apply below_alloc | apply pw_below_drewN | apply below_drew1) | exact HB.out)⟩⟩
  ·replace c6 := Bool.eq_false_iff.mpr c6
   subst c6
   have H1 : (impl_MigrateSave.j0 k a0 l1 l2 true) = some (r1, r2) := by rw [if_neg (show ¬ (false = true) by decide)] at H; exact H
   clear H
   have H := H1
   clear H1
   have H' := Aside0.mk H
   clear H
   go_wp2_with (first | ((with_reducible refine gate_callee (f := 40) rfl ?_); refine goesL_ (some 13) rfl rfl Try.func40 (by kernel_rfl) rfl #[.int .i64 a0, .int .i64 1, .int .i64 3] rfl aE ?_; (with_reducible refine (impl_inRange.calls a0 1 3 false _ A5.out).mono ?_); rintro e w' ⟨rfl, ⟨nd, rfl⟩⟩; refine ⟨_, rfl, ?_⟩))
   go_meet
   case rel => exact ⟨_, (true), tE, H', ⟨by first | omega | exact Nat.le_refl _⟩, ⟨by repeat (first | (with_reducible first | exact HB.out | apply below_alloc | apply pw_below_drewN | apply below_drew1) | exact HB.out)⟩⟩
 case rest =>
  clear HC4
  try clear c1; try clear c2
  obtain ⟨kq, x24_3, rfl, HA, HJ3, HB⟩ := hcut
  cases kq with
  | zero => exact absurd HA.out (by simp [impl_MigrateSave.j0])
  | succ kj3 =>
   have H := HA.out
   clear HA
   simp only [impl_MigrateSave.j0] at H
   by_cases c13 : x24_3 = true
   ·subst c13
    have H1 : (some (([] : List (S49)), false)) = some (r1, r2) := by rw [if_pos rfl] at H; exact H
    clear H
    have H := H1
    clear H1
    simp only [Option.some.injEq, Prod.mk.injEq] at H
    obtain ⟨rfl, rfl⟩ := H
    go_wp2
    go_ret2
    exact ⟨_, eE, by first | exact Kd.R_nil _ _ _ _ _ | exact Kd.N_nil _ _ _ _ _ | exact Kd.V_nil _ _ _ _ _ | exact Kd.Q_nil _ _ _ _ _ | exact Kd.S_nil _ _ _ _ _, lU⟩
   ·replace c13 := Bool.eq_false_iff.mpr c13
    subst c13
    have H1 : ((impl_Value_43.f l1).bind fun t317 => (impl_MigrateSave.l0 kj3 a0 t317 l2 (l2.length : Int) 0)) = some (r1, r2) := by rw [if_neg (show ¬ (false = true) by decide)] at H; exact H
    clear H
    have H := H1
    clear H1
    replace H := Option.bind_eq_some_iff.mp H
    obtain ⟨t317, A140, H⟩ := H
    replace H : (impl_MigrateSave.l0 kj3 a0 t317 l2 (l2.length : Int) 0) = some (r1, r2) := H
    have A14 := Aside0.mk A140
    clear A140
    have H' := Aside0.mk H
    clear H
    go_wp2_with (first | ((with_reducible refine gate_callee (f := 43) rfl ?_); refine goesL_ (some 26) rfl rfl Try.func43 (by kernel_rfl) rfl #[.slice A1 l1.length c1] rfl aE ?_; (with_reducible refine (impl_Value_43.calls _ _ l1 t317 _ ?side1 ?side2 A14.out).mono ?_); (case side1 => exact cU (Kd.C_below HR1.out HB.out)); (case side2 => exact HC1.out); rintro e w15 ⟨v318, rfl, ho0, hb⟩; refine ⟨_, rfl, ?_⟩; have HO319 := Aside0.mk (Kd.R_lower ho0 (below_size (lU))); replace HB := bH (lU) hb; (try clear hb); (try clear ho0)))
    (try simp only [Act.put, List.setIfInBounds_toArray, List.set_cons_zero, List.set_cons_succ])
    go_loopg [8, 29] kj3 (fun kq v8 v29 w' => ∃ (x8_2 : List (S49)) (x29_2 : Int), v29 = .int .i64 x29_2 ∧ Aside0 (impl_MigrateSave.l0 kq a0 x8_2 l2 (l2.length : Int) x29_2 = some (r1, r2)) ∧ Aside0 (kq ≤ kj3) ∧ Aside0 (Kd.R k49 49 w' w.heap.size (fun _ => True) v8 x8_2) ∧ Aside0 (Below w.heap.size w w'))
    case atStart => exact ⟨(t317), (0), tE, H', ⟨Nat.le_refl _⟩, ⟨by (with_reducible repeat (first | apply Kd.R_alloc | apply Kd.R_drewN | apply Kd.R_drew)); exact HO319.out⟩, ⟨by repeat (first | (with_reducible first | exact HB.out | apply below_alloc | apply pw_below_drewN | apply below_drew1) | exact HB.out)⟩⟩
    case round =>
     clear H'
     try clear c1; try clear c2; try clear c13
     obtain ⟨x8_2, x29_2, rfl, HA, HK2, HO_8, HB⟩ := hrel
     cases gk with
     | zero => exact absurd HA.out (by simp [impl_MigrateSave.l0])
     | succ k2 =>
      have H := HA.out
      clear HA
      simp only [impl_MigrateSave.l0] at H
      by_cases c16 : x29_2 < (l2.length : Int)
      ·rw [if_pos c16] at H
       have c16b0 : decide (x29_2 < (l2.length : Int)) = true := decide_eq_true c16
       clear c16
       by_cases c17 : 0 ≤ x29_2
       ·rw [if_pos c17] at H
        have c17b0 : decide (0 ≤ x29_2) = true := decide_eq_true c17
        clear c17
        by_cases c18 : x29_2 < (l2.length : Int)
        ·rw [if_pos c18] at H
         have c18b0 : decide (x29_2 < (l2.length : Int)) = true := decide_eq_true c18
         clear c18
         by_cases c19 : ((rd_T45 l2 x29_2).f0) < a0
         ·rw [if_pos c19] at H
          have c19b0 : decide (((rd_T45 l2 x29_2).f0) < a0) = true := decide_eq_true c19
          clear c19
          have H' := Aside0.mk H
          clear H
          have p320 : 0 ≤ (x29_2 : Int) := of_decide_eq_true hE
          have q320 : x29_2 < (l2.length : Int) := of_decide_eq_true hE
          obtain ⟨ad320, e320, hx320_0, hx320_1, hx320_2, hx320_3, hx320_4⟩ := at_T45 HR2.out x29_2 p320 q320
          cases e320
          replace hx320_0 := (HB.out.cell (World.block_lt_of_cell? w _ hx320_0)).trans hx320_0
          replace hx320_1 := (HB.out.cell (World.block_lt_of_cell? w _ hx320_1)).trans hx320_1
          replace hx320_2 := (HB.out.cell (World.block_lt_of_cell? w _ hx320_2)).trans hx320_2
          replace hx320_3 := (HB.out.cell (World.block_lt_of_cell? w _ hx320_3)).trans hx320_3
          replace hx320_4 := (HB.out.cell (World.block_lt_of_cell? w _ hx320_4)).trans hx320_4
          replace p320 := eq_true p320
          replace q320 := eq_true q320
          go_wp2_with (first | ((with_reducible refine gate_dst (N := 11) rfl ?_); refine box_event rfl (N := 11) rfl (cs := #[.int .i64 0, .int .i64 0, .string (⟨#[]⟩ : ByteArray), .string (⟨#[]⟩ : ByteArray), .int .i64 0]) (t := 45) sE ?_; intro gb321 hg w20 hbox hb; replace HO_8 := Aside0.mk (Kd.R_below (rU HO_8.out) hb); have BK321 := Aside0.mk hbox; have GW321 := gS w hg (lU); have GE321 := gS w hg (lU); replace HB := bH (lU) hb; clear hb hbox hg; have hcz21_0 := cz BK321 0 (.int .i64 0); have hcz21_1 := cz BK321 1 (.int .i64 0); have hcz21_2 := cz BK321 2 (.string (⟨#[]⟩ : ByteArray)); have hcz21_3 := cz BK321 3 (.string (⟨#[]⟩ : ByteArray)); have hcz21_4 := cz BK321 4 (.int .i64 0); have hfz21_0 := fz BK321 0; have hfz21_1 := fz BK321 1; have hfz21_2 := fz BK321 2; have hfz21_3 := fz BK321 3; have hfz21_4 := fz BK321 4) | ((with_reducible refine gate_store (t := 45) (p := 11) rfl ?_); refine store_event (t := 45) (p := 11) (v := ?vo_w22) (w1 := (((((w20.setCell ⟨gb321, 0, none⟩ (.int .i64 ((rd_T45 l2 x29_2).f0))).setCell ⟨gb321, 1, none⟩ (.int .i64 ((rd_T45 l2 x29_2).f1))).setCell ⟨gb321, 2, none⟩ (.string ((rd_T45 l2 x29_2).f2))).setCell ⟨gb321, 3, none⟩ (.string ((rd_T45 l2 x29_2).f3))).setCell ⟨gb321, 4, none⟩ (.int .i64 ((rd_T45 l2 x29_2).f4)))) ?hg ?ho ?hn ?hr ?_; (case ho => rfl); (case hg => rfl); (case hn => rfl); (case hr => first | (go_simp; done) | (go_simp; rfl) | (have hq0_ := (blk_cell BK321.out 0).trans (show _ = some _ from rfl); have hf0_ := blk_frozen BK321.out 0; have hq1_ := (blk_cell BK321.out 1).trans (show _ = some _ from rfl); have hf1_ := blk_frozen BK321.out 1; have hq2_ := (blk_cell BK321.out 2).trans (show _ = some _ from rfl); have hf2_ := blk_frozen BK321.out 2; have hq3_ := (blk_cell BK321.out 3).trans (show _ = some _ from rfl); have hf3_ := blk_frozen BK321.out 3; have hq4_ := (blk_cell BK321.out 4).trans (show _ = some _ from rfl); have hf4_ := blk_frozen BK321.out 4; first | (go_simp; done) | (go_simp; rfl))); intro w22 hw; replace HO_8 : Aside0 (Kd.R k49 49 w22 w.heap.size (fun _ => True) u8 x8_2) := ⟨(by rw [hw]; exact (by (with_reducible repeat (first | apply Kd.R_alloc | apply Kd.R_drewN | apply Kd.R_drew)); exact Kd.R_mono (Kd.R_far (p := ⟨gb321, 4, none⟩) (Kd.R_far (p := ⟨gb321, 3, none⟩) (Kd.R_far (p := ⟨gb321, 2, none⟩) (Kd.R_far (p := ⟨gb321, 1, none⟩) (Kd.R_far (p := ⟨gb321, 0, none⟩) (Kd.R_types HO_8.out BK321.out (by decide)) (fun _ hk => hk.2) (.int .i64 ((rd_T45 l2 x29_2).f0))) (fun _ hk => hk.2) (.int .i64 ((rd_T45 l2 x29_2).f1))) (fun _ hk => hk.2) (.string ((rd_T45 l2 x29_2).f2))) (fun _ hk => hk.2) (.string ((rd_T45 l2 x29_2).f3))) (fun _ hk => hk.2) (.int .i64 ((rd_T45 l2 x29_2).f4))) (fun _ hk => trivial)))⟩; replace BK321 : Aside0 (w22.heap[gb321]? = some (.cells #[.int .i64 ((rd_T45 l2 x29_2).f0), .int .i64 ((rd_T45 l2 x29_2).f1), .string ((rd_T45 l2 x29_2).f2), .string ((rd_T45 l2 x29_2).f3), .int .i64 ((rd_T45 l2 x29_2).f4)] 45 (0, 0))) := ⟨(by rw [hw]; exact (by refine bU ?_; refine blk_put (cs := #[.int .i64 ((rd_T45 l2 x29_2).f0), .int .i64 ((rd_T45 l2 x29_2).f1), .string ((rd_T45 l2 x29_2).f2), .string ((rd_T45 l2 x29_2).f3), .int .i64 0]) ?_ 4 _ rfl; refine bU ?_; refine blk_put (cs := #[.int .i64 ((rd_T45 l2 x29_2).f0), .int .i64 ((rd_T45 l2 x29_2).f1), .string ((rd_T45 l2 x29_2).f2), .string (⟨#[]⟩ : ByteArray), .int .i64 0]) ?_ 3 _ rfl; refine bU ?_; refine blk_put (cs := #[.int .i64 ((rd_T45 l2 x29_2).f0), .int .i64 ((rd_T45 l2 x29_2).f1), .string (⟨#[]⟩ : ByteArray), .string (⟨#[]⟩ : ByteArray), .int .i64 0]) ?_ 2 _ rfl; refine bU ?_; refine blk_put (cs := #[.int .i64 ((rd_T45 l2 x29_2).f0), .int .i64 0, .string (⟨#[]⟩ : ByteArray), .string (⟨#[]⟩ : ByteArray), .int .i64 0]) ?_ 1 _ rfl; refine bU ?_; refine blk_put (cs := #[.int .i64 0, .int .i64 0, .string (⟨#[]⟩ : ByteArray), .string (⟨#[]⟩ : ByteArray), .int .i64 0]) ?_ 0 _ rfl; refine bU ?_; exact BK321.out))⟩; replace HB : Aside0 (Below w.heap.size w w22) := ⟨(by rw [hw]; exact (lV1 GE321))⟩; clear hw; have hcz23_0 := cz BK321 0 (.int .i64 ((rd_T45 l2 x29_2).f0)); have hcz23_1 := cz BK321 1 (.int .i64 ((rd_T45 l2 x29_2).f1)); have hcz23_2 := cz BK321 2 (.string ((rd_T45 l2 x29_2).f2)); have hcz23_3 := cz BK321 3 (.string ((rd_T45 l2 x29_2).f3)); have hcz23_4 := cz BK321 4 (.int .i64 ((rd_T45 l2 x29_2).f4)); have hfz23_0 := fz BK321 0; have hfz23_1 := fz BK321 1; have hfz23_2 := fz BK321 2; have hfz23_3 := fz BK321 3; have hfz23_4 := fz BK321 4))
          go_roundg k2
          case measure => have := HJ3.out; have := HK2.out; omega
          case rel => exact ⟨(x8_2), (wrap64 (x29_2 + 1)), tE, H', ⟨by have := HJ3.out; have := HK2.out; omega⟩, ⟨by (with_reducible repeat (first | apply Kd.R_alloc | apply Kd.R_drewN | apply Kd.R_drew)); exact HO_8.out⟩, ⟨by repeat (first | (with_reducible first | exact HB.out | apply below_alloc | apply pw_below_drewN | apply below_drew1 | refine below_set ?_ GE321.out) | exact HB.out)⟩⟩
         ·rw [if_neg c19] at H
          have c19b0 : decide (((rd_T45 l2 x29_2).f0) < a0) = false := decide_eq_false c19
          clear c19
          replace H := Option.bind_eq_some_iff.mp H
          obtain ⟨⟨t322, t325⟩, A240, H⟩ := H
          replace H : (if t325 = true then (impl_MigrateSave.l0 k2 a0 t322 l2 (l2.length : Int) (wrap64 (x29_2 + 1))) else (some (([] : List (S49)), false))) = some (r1, r2) := H
          have A24 := Aside0.mk A240
          clear A240
          by_cases c25 : t325 = true
          ·subst c25
           have H1 : (impl_MigrateSave.l0 k2 a0 t322 l2 (l2.length : Int) (wrap64 (x29_2 + 1))) = some (r1, r2) := by rw [if_pos rfl] at H; exact H
           clear H
           have H := H1
           clear H1
           have H' := Aside0.mk H
           clear H
           have p320 : 0 ≤ (x29_2 : Int) := of_decide_eq_true hE
           have q320 : x29_2 < (l2.length : Int) := of_decide_eq_true hE
           obtain ⟨ad320, e320, hx320_0, hx320_1, hx320_2, hx320_3, hx320_4⟩ := at_T45 HR2.out x29_2 p320 q320
           cases e320
           replace hx320_0 := (HB.out.cell (World.block_lt_of_cell? w _ hx320_0)).trans hx320_0
           replace hx320_1 := (HB.out.cell (World.block_lt_of_cell? w _ hx320_1)).trans hx320_1
           replace hx320_2 := (HB.out.cell (World.block_lt_of_cell? w _ hx320_2)).trans hx320_2
           replace hx320_3 := (HB.out.cell (World.block_lt_of_cell? w _ hx320_3)).trans hx320_3
           replace hx320_4 := (HB.out.cell (World.block_lt_of_cell? w _ hx320_4)).trans hx320_4
           replace p320 := eq_true p320
           replace q320 := eq_true q320
           go_wp2_with (first | ((with_reducible refine gate_dst (N := 11) rfl ?_); refine box_event rfl (N := 11) rfl (cs := #[.int .i64 0, .int .i64 0, .string (⟨#[]⟩ : ByteArray), .string (⟨#[]⟩ : ByteArray), .int .i64 0]) (t := 45) sE ?_; intro gb321 hg w26 hbox hb; replace HO_8 := Aside0.mk (Kd.R_below (rU HO_8.out) hb); have BK321 := Aside0.mk hbox; have GW321 := gS w hg (lU); have GE321 := gS w hg (lU); replace HB := bH (lU) hb; clear hb hbox hg; have hcz27_0 := cz BK321 0 (.int .i64 0); have hcz27_1 := cz BK321 1 (.int .i64 0); have hcz27_2 := cz BK321 2 (.string (⟨#[]⟩ : ByteArray)); have hcz27_3 := cz BK321 3 (.string (⟨#[]⟩ : ByteArray)); have hcz27_4 := cz BK321 4 (.int .i64 0); have hfz27_0 := fz BK321 0; have hfz27_1 := fz BK321 1; have hfz27_2 := fz BK321 2; have hfz27_3 := fz BK321 3; have hfz27_4 := fz BK321 4) | ((with_reducible refine gate_store (t := 45) (p := 11) rfl ?_); refine store_event (t := 45) (p := 11) (v := ?vo_w28) (w1 := (((((w26.setCell ⟨gb321, 0, none⟩ (.int .i64 ((rd_T45 l2 x29_2).f0))).setCell ⟨gb321, 1, none⟩ (.int .i64 ((rd_T45 l2 x29_2).f1))).setCell ⟨gb321, 2, none⟩ (.string ((rd_T45 l2 x29_2).f2))).setCell ⟨gb321, 3, none⟩ (.string ((rd_T45 l2 x29_2).f3))).setCell ⟨gb321, 4, none⟩ (.int .i64 ((rd_T45 l2 x29_2).f4)))) ?hg ?ho ?hn ?hr ?_; (case ho => rfl); (case hg => rfl); (case hn => rfl); (case hr => first | (go_simp; done) | (go_simp; rfl) | (have hq0_ := (blk_cell BK321.out 0).trans (show _ = some _ from rfl); have hf0_ := blk_frozen BK321.out 0; have hq1_ := (blk_cell BK321.out 1).trans (show _ = some _ from rfl); have hf1_ := blk_frozen BK321.out 1; have hq2_ := (blk_cell BK321.out 2).trans (show _ = some _ from rfl); have hf2_ := blk_frozen BK321.out 2; have hq3_ := (blk_cell BK321.out 3).trans (show _ = some _ from rfl); have hf3_ := blk_frozen BK321.out 3; have hq4_ := (blk_cell BK321.out 4).trans (show _ = some _ from rfl); have hf4_ := blk_frozen BK321.out 4; first | (go_simp; done) | (go_simp; rfl))); intro w28 hw; replace HO_8 : Aside0 (Kd.R k49 49 w28 w.heap.size (fun _ => True) u8 x8_2) := ⟨(by rw [hw]; exact (by (with_reducible repeat (first | apply Kd.R_alloc | apply Kd.R_drewN | apply Kd.R_drew)); exact Kd.R_mono (Kd.R_far (p := ⟨gb321, 4, none⟩) (Kd.R_far (p := ⟨gb321, 3, none⟩) (Kd.R_far (p := ⟨gb321, 2, none⟩) (Kd.R_far (p := ⟨gb321, 1, none⟩) (Kd.R_far (p := ⟨gb321, 0, none⟩) (Kd.R_types HO_8.out BK321.out (by decide)) (fun _ hk => hk.2) (.int .i64 ((rd_T45 l2 x29_2).f0))) (fun _ hk => hk.2) (.int .i64 ((rd_T45 l2 x29_2).f1))) (fun _ hk => hk.2) (.string ((rd_T45 l2 x29_2).f2))) (fun _ hk => hk.2) (.string ((rd_T45 l2 x29_2).f3))) (fun _ hk => hk.2) (.int .i64 ((rd_T45 l2 x29_2).f4))) (fun _ hk => trivial)))⟩; replace BK321 : Aside0 (w28.heap[gb321]? = some (.cells #[.int .i64 ((rd_T45 l2 x29_2).f0), .int .i64 ((rd_T45 l2 x29_2).f1), .string ((rd_T45 l2 x29_2).f2), .string ((rd_T45 l2 x29_2).f3), .int .i64 ((rd_T45 l2 x29_2).f4)] 45 (0, 0))) := ⟨(by rw [hw]; exact (by refine bU ?_; refine blk_put (cs := #[.int .i64 ((rd_T45 l2 x29_2).f0), .int .i64 ((rd_T45 l2 x29_2).f1), .string ((rd_T45 l2 x29_2).f2), .string ((rd_T45 l2 x29_2).f3), .int .i64 0]) ?_ 4 _ rfl; refine bU ?_; refine blk_put (cs := #[.int .i64 ((rd_T45 l2 x29_2).f0), .int .i64 ((rd_T45 l2 x29_2).f1), .string ((rd_T45 l2 x29_2).f2), .string (⟨#[]⟩ : ByteArray), .int .i64 0]) ?_ 3 _ rfl; refine bU ?_; refine blk_put (cs := #[.int .i64 ((rd_T45 l2 x29_2).f0), .int .i64 ((rd_T45 l2 x29_2).f1), .string (⟨#[]⟩ : ByteArray), .string (⟨#[]⟩ : ByteArray), .int .i64 0]) ?_ 2 _ rfl; refine bU ?_; refine blk_put (cs := #[.int .i64 ((rd_T45 l2 x29_2).f0), .int .i64 0, .string (⟨#[]⟩ : ByteArray), .string (⟨#[]⟩ : ByteArray), .int .i64 0]) ?_ 1 _ rfl; refine bU ?_; refine blk_put (cs := #[.int .i64 0, .int .i64 0, .string (⟨#[]⟩ : ByteArray), .string (⟨#[]⟩ : ByteArray), .int .i64 0]) ?_ 0 _ rfl; refine bU ?_; exact BK321.out))⟩; replace HB : Aside0 (Below w.heap.size w w28) := ⟨(by rw [hw]; exact (lV1 GE321))⟩; clear hw; have hcz29_0 := cz BK321 0 (.int .i64 ((rd_T45 l2 x29_2).f0)); have hcz29_1 := cz BK321 1 (.int .i64 ((rd_T45 l2 x29_2).f1)); have hcz29_2 := cz BK321 2 (.string ((rd_T45 l2 x29_2).f2)); have hcz29_3 := cz BK321 3 (.string ((rd_T45 l2 x29_2).f3)); have hcz29_4 := cz BK321 4 (.int .i64 ((rd_T45 l2 x29_2).f4)); have hfz29_0 := fz BK321 0; have hfz29_1 := fz BK321 1; have hfz29_2 := fz BK321 2; have hfz29_3 := fz BK321 3; have hfz29_4 := fz BK321 4; obtain ⟨Ao30, co30, eo30⟩ := Kd.R_slice HO_8.out; subst eo30) | ((with_reducible refine gate_callee (f := 44) rfl ?_); refine goesL_ (some 40) rfl rfl Try.func44 (by kernel_rfl) rfl #[.slice Ao30 x8_2.length co30, .agg #[.int .i64 ((rd_T45 l2 x29_2).f0), .int .i64 ((rd_T45 l2 x29_2).f1), .string ((rd_T45 l2 x29_2).f2), .string ((rd_T45 l2 x29_2).f3), .int .i64 ((rd_T45 l2 x29_2).f4)]] rfl aE ?_; (with_reducible refine (impl_change.calls k2 (fun k_ => some k_ = (.slice Ao30 x8_2.length co30 : Value).ownBlock) (.slice Ao30 x8_2.length co30) x8_2 ((rd_T45 l2 x29_2).f0) ((rd_T45 l2 x29_2).f1) ((rd_T45 l2 x29_2).f2) ((rd_T45 l2 x29_2).f3) ((rd_T45 l2 x29_2).f4) t322 true w _ ?side1 ?side2 A24.out).mono ?_); (case side1 => repeat (first | (with_reducible first | exact HB.out | apply below_alloc | apply pw_below_drewN | apply below_drew1 | refine below_set ?_ GE321.out) | exact HB.out)); (case side2 => exact Kd.R_tight rfl HO_8.out); rintro e w31 ⟨v323, rfl, ho0, hb, hkp⟩; refine ⟨_, rfl, ?_⟩; replace BK321 := Aside0.mk (blk_kept (bV BK321) hkp (fun hs_ => (fun e_ => (Kd.R_ne HO_8.out BK321.out (by decide)) e_) hs_)); have HO324 := Aside0.mk (Kd.R_mono (ok' := fun k_ => True) ho0 (fun k_ hk_ => trivial)); replace HB := Aside0.mk hb; clear HO_8; (try clear hb); (try clear hkp); (try clear hg_); (try clear hp_); (try clear ho0)))
           go_roundg k2
           case measure => have := HJ3.out; have := HK2.out; omega
           case rel => exact ⟨(t322), (wrap64 (x29_2 + 1)), tE, H', ⟨by have := HJ3.out; have := HK2.out; omega⟩, ⟨by (with_reducible repeat (first | apply Kd.R_alloc | apply Kd.R_drewN | apply Kd.R_drew)); exact HO324.out⟩, ⟨by repeat (first | (with_reducible first | exact HB.out | apply below_alloc | apply pw_below_drewN | apply below_drew1 | refine below_set ?_ GE321.out) | exact HB.out)⟩⟩
          ·replace c25 := Bool.eq_false_iff.mpr c25
           subst c25
           have H1 : (some (([] : List (S49)), false)) = some (r1, r2) := by rw [if_neg (show ¬ (false = true) by decide)] at H; exact H
           clear H
           have H := H1
           clear H1
           simp only [Option.some.injEq, Prod.mk.injEq] at H
           obtain ⟨rfl, rfl⟩ := H
           have p320 : 0 ≤ (x29_2 : Int) := of_decide_eq_true hE
           have q320 : x29_2 < (l2.length : Int) := of_decide_eq_true hE
           obtain ⟨ad320, e320, hx320_0, hx320_1, hx320_2, hx320_3, hx320_4⟩ := at_T45 HR2.out x29_2 p320 q320
           cases e320
           replace hx320_0 := (HB.out.cell (World.block_lt_of_cell? w _ hx320_0)).trans hx320_0
           replace hx320_1 := (HB.out.cell (World.block_lt_of_cell? w _ hx320_1)).trans hx320_1
           replace hx320_2 := (HB.out.cell (World.block_lt_of_cell? w _ hx320_2)).trans hx320_2
           replace hx320_3 := (HB.out.cell (World.block_lt_of_cell? w _ hx320_3)).trans hx320_3
           replace hx320_4 := (HB.out.cell (World.block_lt_of_cell? w _ hx320_4)).trans hx320_4
           replace p320 := eq_true p320
           replace q320 := eq_true q320
           go_wp2_with (first | ((with_reducible refine gate_dst (N := 11) rfl ?_); refine box_event rfl (N := 11) rfl (cs := #[.int .i64 0, .int .i64 0, .string (⟨#[]⟩ : ByteArray), .string (⟨#[]⟩ : ByteArray), .int .i64 0]) (t := 45) sE ?_; intro gb321 hg w32 hbox hb; replace HO_8 := Aside0.mk (Kd.R_below (rU HO_8.out) hb); have BK321 := Aside0.mk hbox; have GW321 := gS w hg (lU); have GE321 := gS w hg (lU); replace HB := bH (lU) hb; clear hb hbox hg; have hcz33_0 := cz BK321 0 (.int .i64 0); have hcz33_1 := cz BK321 1 (.int .i64 0); have hcz33_2 := cz BK321 2 (.string (⟨#[]⟩ : ByteArray)); have hcz33_3 := cz BK321 3 (.string (⟨#[]⟩ : ByteArray)); have hcz33_4 := cz BK321 4 (.int .i64 0); have hfz33_0 := fz BK321 0; have hfz33_1 := fz BK321 1; have hfz33_2 := fz BK321 2; have hfz33_3 := fz BK321 3; have hfz33_4 := fz BK321 4) | ((with_reducible refine gate_store (t := 45) (p := 11) rfl ?_); refine store_event (t := 45) (p := 11) (v := ?vo_w34) (w1 := (((((w32.setCell ⟨gb321, 0, none⟩ (.int .i64 ((rd_T45 l2 x29_2).f0))).setCell ⟨gb321, 1, none⟩ (.int .i64 ((rd_T45 l2 x29_2).f1))).setCell ⟨gb321, 2, none⟩ (.string ((rd_T45 l2 x29_2).f2))).setCell ⟨gb321, 3, none⟩ (.string ((rd_T45 l2 x29_2).f3))).setCell ⟨gb321, 4, none⟩ (.int .i64 ((rd_T45 l2 x29_2).f4)))) ?hg ?ho ?hn ?hr ?_; (case ho => rfl); (case hg => rfl); (case hn => rfl); (case hr => first | (go_simp; done) | (go_simp; rfl) | (have hq0_ := (blk_cell BK321.out 0).trans (show _ = some _ from rfl); have hf0_ := blk_frozen BK321.out 0; have hq1_ := (blk_cell BK321.out 1).trans (show _ = some _ from rfl); have hf1_ := blk_frozen BK321.out 1; have hq2_ := (blk_cell BK321.out 2).trans (show _ = some _ from rfl); have hf2_ := blk_frozen BK321.out 2; have hq3_ := (blk_cell BK321.out 3).trans (show _ = some _ from rfl); have hf3_ := blk_frozen BK321.out 3; have hq4_ := (blk_cell BK321.out 4).trans (show _ = some _ from rfl); have hf4_ := blk_frozen BK321.out 4; first | (go_simp; done) | (go_simp; rfl))); intro w34 hw; replace HO_8 : Aside0 (Kd.R k49 49 w34 w.heap.size (fun _ => True) u8 x8_2) := ⟨(by rw [hw]; exact (by (with_reducible repeat (first | apply Kd.R_alloc | apply Kd.R_drewN | apply Kd.R_drew)); exact Kd.R_mono (Kd.R_far (p := ⟨gb321, 4, none⟩) (Kd.R_far (p := ⟨gb321, 3, none⟩) (Kd.R_far (p := ⟨gb321, 2, none⟩) (Kd.R_far (p := ⟨gb321, 1, none⟩) (Kd.R_far (p := ⟨gb321, 0, none⟩) (Kd.R_types HO_8.out BK321.out (by decide)) (fun _ hk => hk.2) (.int .i64 ((rd_T45 l2 x29_2).f0))) (fun _ hk => hk.2) (.int .i64 ((rd_T45 l2 x29_2).f1))) (fun _ hk => hk.2) (.string ((rd_T45 l2 x29_2).f2))) (fun _ hk => hk.2) (.string ((rd_T45 l2 x29_2).f3))) (fun _ hk => hk.2) (.int .i64 ((rd_T45 l2 x29_2).f4))) (fun _ hk => trivial)))⟩; replace BK321 : Aside0 (w34.heap[gb321]? = some (.cells #[.int .i64 ((rd_T45 l2 x29_2).f0), .int .i64 ((rd_T45 l2 x29_2).f1), .string ((rd_T45 l2 x29_2).f2), .string ((rd_T45 l2 x29_2).f3), .int .i64 ((rd_T45 l2 x29_2).f4)] 45 (0, 0))) := ⟨(by rw [hw]; exact (by refine bU ?_; refine blk_put (cs := #[.int .i64 ((rd_T45 l2 x29_2).f0), .int .i64 ((rd_T45 l2 x29_2).f1), .string ((rd_T45 l2 x29_2).f2), .string ((rd_T45 l2 x29_2).f3), .int .i64 0]) ?_ 4 _ rfl; refine bU ?_; refine blk_put (cs := #[.int .i64 ((rd_T45 l2 x29_2).f0), .int .i64 ((rd_T45 l2 x29_2).f1), .string ((rd_T45 l2 x29_2).f2), .string (⟨#[]⟩ : ByteArray), .int .i64 0]) ?_ 3 _ rfl; refine bU ?_; refine blk_put (cs := #[.int .i64 ((rd_T45 l2 x29_2).f0), .int .i64 ((rd_T45 l2 x29_2).f1), .string (⟨#[]⟩ : ByteArray), .string (⟨#[]⟩ : ByteArray), .int .i64 0]) ?_ 2 _ rfl; refine bU ?_; refine blk_put (cs := #[.int .i64 ((rd_T45 l2 x29_2).f0), .int .i64 0, .string (⟨#[]⟩ : ByteArray), .string (⟨#[]⟩ : ByteArray), .int .i64 0]) ?_ 1 _ rfl; refine bU ?_; refine blk_put (cs := #[.int .i64 0, .int .i64 0, .string (⟨#[]⟩ : ByteArray), .string (⟨#[]⟩ : ByteArray), .int .i64 0]) ?_ 0 _ rfl; refine bU ?_; exact BK321.out))⟩; replace HB : Aside0 (Below w.heap.size w w34) := ⟨(by rw [hw]; exact (lV1 GE321))⟩; clear hw; have hcz35_0 := cz BK321 0 (.int .i64 ((rd_T45 l2 x29_2).f0)); have hcz35_1 := cz BK321 1 (.int .i64 ((rd_T45 l2 x29_2).f1)); have hcz35_2 := cz BK321 2 (.string ((rd_T45 l2 x29_2).f2)); have hcz35_3 := cz BK321 3 (.string ((rd_T45 l2 x29_2).f3)); have hcz35_4 := cz BK321 4 (.int .i64 ((rd_T45 l2 x29_2).f4)); have hfz35_0 := fz BK321 0; have hfz35_1 := fz BK321 1; have hfz35_2 := fz BK321 2; have hfz35_3 := fz BK321 3; have hfz35_4 := fz BK321 4; obtain ⟨Ao36, co36, eo36⟩ := Kd.R_slice HO_8.out; subst eo36) | ((with_reducible refine gate_callee (f := 44) rfl ?_); refine goesL_ (some 40) rfl rfl Try.func44 (by kernel_rfl) rfl #[.slice Ao36 x8_2.length co36, .agg #[.int .i64 ((rd_T45 l2 x29_2).f0), .int .i64 ((rd_T45 l2 x29_2).f1), .string ((rd_T45 l2 x29_2).f2), .string ((rd_T45 l2 x29_2).f3), .int .i64 ((rd_T45 l2 x29_2).f4)]] rfl aE ?_; (with_reducible refine (impl_change.calls k2 (fun k_ => some k_ = (.slice Ao36 x8_2.length co36 : Value).ownBlock) (.slice Ao36 x8_2.length co36) x8_2 ((rd_T45 l2 x29_2).f0) ((rd_T45 l2 x29_2).f1) ((rd_T45 l2 x29_2).f2) ((rd_T45 l2 x29_2).f3) ((rd_T45 l2 x29_2).f4) t322 false w _ ?side1 ?side2 A24.out).mono ?_); (case side1 => repeat (first | (with_reducible first | exact HB.out | apply below_alloc | apply pw_below_drewN | apply below_drew1 | refine below_set ?_ GE321.out) | exact HB.out)); (case side2 => exact Kd.R_tight rfl HO_8.out); rintro e w37 ⟨v323, rfl, ho0, hb, hkp⟩; refine ⟨_, rfl, ?_⟩; replace BK321 := Aside0.mk (blk_kept (bV BK321) hkp (fun hs_ => (fun e_ => (Kd.R_ne HO_8.out BK321.out (by decide)) e_) hs_)); have HO324 := Aside0.mk (Kd.R_mono (ok' := fun k_ => True) ho0 (fun k_ hk_ => trivial)); replace HB := Aside0.mk hb; clear HO_8; (try clear hb); (try clear hkp); (try clear hg_); (try clear hp_); (try clear ho0)))
           go_ret2
           exact ⟨_, eE, by first | exact Kd.R_nil _ _ _ _ _ | exact Kd.N_nil _ _ _ _ _ | exact Kd.V_nil _ _ _ _ _ | exact Kd.Q_nil _ _ _ _ _ | exact Kd.S_nil _ _ _ _ _, lV1 GE321⟩
        ·rw [if_neg c18] at H
         exact absurd H (by simp)
       ·rw [if_neg c17] at H
        exact absurd H (by simp)
      ·rw [if_neg c16] at H
       have c16b0 : decide (x29_2 < (l2.length : Int)) = false := decide_eq_false c16
       clear c16
       simp only [Option.some.injEq, Prod.mk.injEq] at H
       obtain ⟨rfl, rfl⟩ := H
       go_wp2
       go_ret2
       exact ⟨_, eE, by (with_reducible repeat (first | apply Kd.R_alloc | apply Kd.R_drewN | apply Kd.R_drew)); exact HO_8.out, lU⟩
def impl_LoadSave.f (k : Nat) (l0 : List Int) (l1 : List (S45)) : Option ((List (S49)) × Int) := (impl_ReadSave.f k l0).bind fun bt326 => (if bt326.2.2 = 0 then (if bt326.1 > 3 then (some (([] : List (S49)), 4)) else ((impl_MigrateSave.f k bt326.1 bt326.2.1 l1).bind fun bt331 => (if bt331.2 = true then (some (bt331.1, 0)) else (some (([] : List (S49)), 6))))) else (some (([] : List (S49)), bt326.2.2)))
theorem impl_LoadSave.mono : ∀ a0 a1 k, LeO (impl_LoadSave.f k a0 a1) (impl_LoadSave.f (k + 1) a0 a1) := by
 intro a0 a1 k
 unfold impl_LoadSave.f
 repeat' first
   | (with_reducible exact impl_MigrateSave.mono _ _ _ _)
   | (with_reducible exact impl_ReadSave.mono _ _)
   | (with_reducible first | exact LeO.refl _ | exact LeO.none _ | refine LeO.ite ?_ ?_ | refine LeO.bind ?_ (fun _ => ?_))
   | exact impl_MigrateSave.mono _ _ _ _
   | exact impl_ReadSave.mono _ _ | exact LeO.none _ | refine LeO.ite ?_ ?_ | refine LeO.bind ?_ (fun _ => ?_)
set_option maxHeartbeats 8000000 in
set_option maxRecDepth 100000 in
theorem impl_LoadSave.calls (k : Nat) (A0 : Option Addr) (c0 : Nat) (l0 : List Int) (A1 : Option Addr) (c1 : Nat) (l1 : List (S45)) (r1 : List (S49)) (r2 : Int) (w : World) (hr0 : Kd.C (Kd.int .u8) w A0 l0.length l0) (hc0 : l0.length ≤ c0) (hr1 : Kd.C k45 w A1 l1.length l1) (hc1 : l1.length ≤ c1) (h : impl_LoadSave.f k l0 l1 = some (r1, r2)) :
  Calls Try.prog 8 #[.slice A0 l0.length c0, .slice A1 l1.length c1] w fun e w' => ∃ v0_ : Value, e = .returned (.tuple #[v0_, .int .i64 r2]) ∧ Kd.R k49 49 w' w.heap.size (fun _ => True) v0_ r1 ∧ Below w.heap.size w w' := by
 have HR0 := Aside0.mk hr0
 have HC0 := Aside0.mk hc0
 clear hr0 hc0
 have HR1 := Aside0.mk hr1
 have HC1 := Aside0.mk hc1
 clear hr1 hc1
 have HB := Aside0.mk (Below.refl w.heap.size w)
 have H : ((impl_ReadSave.f k l0).bind fun bt326 => (if bt326.2.2 = 0 then (if bt326.1 > 3 then (some (([] : List (S49)), 4)) else ((impl_MigrateSave.f k bt326.1 bt326.2.1 l1).bind fun bt331 => (if bt331.2 = true then (some (bt331.1, 0)) else (some (([] : List (S49)), 6))))) else (some (([] : List (S49)), bt326.2.2)))) = some (r1, r2) := h
 clear h
 replace H := Option.bind_eq_some_iff.mp H
 obtain ⟨⟨t326, t327, t328⟩, A30, H⟩ := H
 replace H : (if t328 = 0 then (if t326 > 3 then (some (([] : List (S49)), 4)) else ((impl_MigrateSave.f k t326 t327 l1).bind fun bt331 => (if bt331.2 = true then (some (bt331.1, 0)) else (some (([] : List (S49)), 6))))) else (some (([] : List (S49)), t328))) = some (r1, r2) := H
 have A3 := Aside0.mk A30
 clear A30
 by_cases c4 : t328 = 0
 ·rw [if_pos c4] at H
  have c4b0 : (t328 == 0) = true := beq_iff_eq.mpr c4
  have c4b1 : (t328 != 0) = false := bne_eq_false_iff_eq.mpr c4
  clear c4
  by_cases c5 : t326 > 3
  ·rw [if_pos c5] at H
   have c5b0 : decide (3 < t326) = true := decide_eq_true c5
   clear c5
   simp only [Option.some.injEq, Prod.mk.injEq] at H
   obtain ⟨rfl, rfl⟩ := H
   go_enter Try.func8, Try.ntmps8
   go_wp2_with (first | ((with_reducible refine gate_callee (f := 20) rfl ?_); refine goesL_ (some 13) rfl rfl Try.func20 (by kernel_rfl) rfl #[.slice A0 l0.length c0] rfl aE ?_; (with_reducible refine (impl_ReadSave.calls k _ _ l0 t326 t327 t328 _ ?side1 ?side2 A3.out).mono ?_); (case side1 => repeat (first | exact HR0.out | (with_reducible refine Kd.C_alloc ?_ _) | (with_reducible refine Kd.C_drewN ?_ _) | (with_reducible refine Kd.C_drew ?_))); (case side2 => exact HC0.out); rintro e w6 ⟨v329, rfl, ho0, hb⟩; refine ⟨_, rfl, ?_⟩; have HO330 := Aside0.mk (Kd.R_lower ho0 (below_size (lU))); replace HB := bH (lU) hb; (try clear hb); (try clear ho0)))
   go_ret2
   exact ⟨_, eE, by first | exact Kd.R_nil _ _ _ _ _ | exact Kd.N_nil _ _ _ _ _ | exact Kd.V_nil _ _ _ _ _ | exact Kd.Q_nil _ _ _ _ _ | exact Kd.S_nil _ _ _ _ _, lU⟩
  ·rw [if_neg c5] at H
   have c5b0 : decide (3 < t326) = false := decide_eq_false c5
   clear c5
   replace H := Option.bind_eq_some_iff.mp H
   obtain ⟨⟨t331, t332⟩, A70, H⟩ := H
   replace H : (if t332 = true then (some (t331, 0)) else (some (([] : List (S49)), 6))) = some (r1, r2) := H
   have A7 := Aside0.mk A70
   clear A70
   by_cases c8 : t332 = true
   ·subst c8
    have H1 : (some (t331, 0)) = some (r1, r2) := by rw [if_pos rfl] at H; exact H
    clear H
    have H := H1
    clear H1
    simp only [Option.some.injEq, Prod.mk.injEq] at H
    obtain ⟨rfl, rfl⟩ := H
    go_enter Try.func8, Try.ntmps8
    go_wp2_with (first | ((with_reducible refine gate_callee (f := 20) rfl ?_); refine goesL_ (some 13) rfl rfl Try.func20 (by kernel_rfl) rfl #[.slice A0 l0.length c0] rfl aE ?_; (with_reducible refine (impl_ReadSave.calls k _ _ l0 t326 t327 t328 _ ?side1 ?side2 A3.out).mono ?_); (case side1 => repeat (first | exact HR0.out | (with_reducible refine Kd.C_alloc ?_ _) | (with_reducible refine Kd.C_drewN ?_ _) | (with_reducible refine Kd.C_drew ?_))); (case side2 => exact HC0.out); rintro e w9 ⟨v329, rfl, ho0, hb⟩; refine ⟨_, rfl, ?_⟩; have HO330 := Aside0.mk (Kd.R_lower ho0 (below_size (lU))); replace HB := bH (lU) hb; (try clear hb); (try clear ho0); obtain ⟨Ao10, co10, eo10⟩ := Kd.R_slice HO330.out; subst eo10) | ((with_reducible refine gate_callee (f := 21) rfl ?_); refine goesL_ (some 28) rfl rfl Try.func21 (by kernel_rfl) rfl #[.int .i64 t326, .slice Ao10 t327.length co10, .slice A1 l1.length c1] rfl aE ?_; (with_reducible refine (impl_MigrateSave.calls k t326 _ _ t327 _ _ l1 t331 true _ ?side1 ?side2 ?side3 ?side4 A7.out).mono ?_); (case side1 => exact cU (Kd.R_reads' HO330.out).2.2); (case side2 => exact (Kd.R_reads' HO330.out).2.1); (case side3 => exact cU (Kd.C_below HR1.out HB.out)); (case side4 => exact HC1.out); rintro e w11 ⟨v333, rfl, ho0, hb⟩; refine ⟨_, rfl, ?_⟩; have HO334 := Aside0.mk (Kd.R_lower (Kd.R_new' ho0 (Kd.R_lt (rU HO330.out))) (below_size (lU))); replace HO330 := Aside0.mk (Kd.R_elder' (rU HO330.out) (Kd.R_base ho0) hb); replace HB := bH (lU) hb; (try clear hb); (try clear ho0)))
    go_ret2
    exact ⟨_, eE, by (with_reducible repeat (first | apply Kd.R_alloc | apply Kd.R_drewN | apply Kd.R_drew)); exact Kd.R_mono HO334.out (fun _ hk => trivial), lU⟩
   ·replace c8 := Bool.eq_false_iff.mpr c8
    subst c8
    have H1 : (some (([] : List (S49)), 6)) = some (r1, r2) := by rw [if_neg (show ¬ (false = true) by decide)] at H; exact H
    clear H
    have H := H1
    clear H1
    simp only [Option.some.injEq, Prod.mk.injEq] at H
    obtain ⟨rfl, rfl⟩ := H
    go_enter Try.func8, Try.ntmps8
    go_wp2_with (first | ((with_reducible refine gate_callee (f := 20) rfl ?_); refine goesL_ (some 13) rfl rfl Try.func20 (by kernel_rfl) rfl #[.slice A0 l0.length c0] rfl aE ?_; (with_reducible refine (impl_ReadSave.calls k _ _ l0 t326 t327 t328 _ ?side1 ?side2 A3.out).mono ?_); (case side1 => repeat (first | exact HR0.out | (with_reducible refine Kd.C_alloc ?_ _) | (with_reducible refine Kd.C_drewN ?_ _) | (with_reducible refine Kd.C_drew ?_))); (case side2 => exact HC0.out); rintro e w12 ⟨v329, rfl, ho0, hb⟩; refine ⟨_, rfl, ?_⟩; have HO330 := Aside0.mk (Kd.R_lower ho0 (below_size (lU))); replace HB := bH (lU) hb; (try clear hb); (try clear ho0); obtain ⟨Ao13, co13, eo13⟩ := Kd.R_slice HO330.out; subst eo13) | ((with_reducible refine gate_callee (f := 21) rfl ?_); refine goesL_ (some 28) rfl rfl Try.func21 (by kernel_rfl) rfl #[.int .i64 t326, .slice Ao13 t327.length co13, .slice A1 l1.length c1] rfl aE ?_; (with_reducible refine (impl_MigrateSave.calls k t326 _ _ t327 _ _ l1 t331 false _ ?side1 ?side2 ?side3 ?side4 A7.out).mono ?_); (case side1 => exact cU (Kd.R_reads' HO330.out).2.2); (case side2 => exact (Kd.R_reads' HO330.out).2.1); (case side3 => exact cU (Kd.C_below HR1.out HB.out)); (case side4 => exact HC1.out); rintro e w14 ⟨v333, rfl, ho0, hb⟩; refine ⟨_, rfl, ?_⟩; have HO334 := Aside0.mk (Kd.R_lower (Kd.R_new' ho0 (Kd.R_lt (rU HO330.out))) (below_size (lU))); replace HO330 := Aside0.mk (Kd.R_elder' (rU HO330.out) (Kd.R_base ho0) hb); replace HB := bH (lU) hb; (try clear hb); (try clear ho0)))
    go_ret2
    exact ⟨_, eE, by first | exact Kd.R_nil _ _ _ _ _ | exact Kd.N_nil _ _ _ _ _ | exact Kd.V_nil _ _ _ _ _ | exact Kd.Q_nil _ _ _ _ _ | exact Kd.S_nil _ _ _ _ _, lU⟩
 ·rw [if_neg c4] at H
  have c4b0 : (t328 == 0) = false := beq_eq_false_iff_ne.mpr c4
  have c4b1 : (t328 != 0) = true := bne_iff_ne.mpr c4
  simp only [Option.some.injEq, Prod.mk.injEq] at H
  obtain ⟨rfl, rfl⟩ := H
  go_enter Try.func8, Try.ntmps8
  go_wp2_with (first | ((with_reducible refine gate_callee (f := 20) rfl ?_); refine goesL_ (some 13) rfl rfl Try.func20 (by kernel_rfl) rfl #[.slice A0 l0.length c0] rfl aE ?_; (with_reducible refine (impl_ReadSave.calls k _ _ l0 t326 t327 t328 _ ?side1 ?side2 A3.out).mono ?_); (case side1 => repeat (first | exact HR0.out | (with_reducible refine Kd.C_alloc ?_ _) | (with_reducible refine Kd.C_drewN ?_ _) | (with_reducible refine Kd.C_drew ?_))); (case side2 => exact HC0.out); rintro e w15 ⟨v329, rfl, ho0, hb⟩; refine ⟨_, rfl, ?_⟩; have HO330 := Aside0.mk (Kd.R_lower ho0 (below_size (lU))); replace HB := bH (lU) hb; (try clear hb); (try clear ho0)))
  go_ret2
  exact ⟨_, eE, by first | exact Kd.R_nil _ _ _ _ _ | exact Kd.N_nil _ _ _ _ _ | exact Kd.V_nil _ _ _ _ _ | exact Kd.Q_nil _ _ _ _ _ | exact Kd.S_nil _ _ _ _ _, lU⟩
def laws_eqValue.f (a0_0 : ByteArray) (a0_1 : Int) (a0_2 : ByteArray) (a1_0 : ByteArray) (a1_1 : Int) (a1_2 : ByteArray) : Option (Bool) := if a0_0.toList = a1_0.toList then (if a0_1 = a1_1 then (if a0_2.toList = a1_2.toList then (some true) else (some false)) else (some false)) else (some false)
set_option maxHeartbeats 8000000 in
set_option maxRecDepth 100000 in
theorem laws_eqValue.calls (a0_0 : ByteArray) (a0_1 : Int) (a0_2 : ByteArray) (a1_0 : ByteArray) (a1_1 : Int) (a1_2 : ByteArray) (r : Bool) (w : World) (h : laws_eqValue.f a0_0 a0_1 a0_2 a1_0 a1_1 a1_2 = some r) :
  Calls Try.prog 22 #[.agg #[.string a0_0, .int .i64 a0_1, .string a0_2], .agg #[.string a1_0, .int .i64 a1_1, .string a1_2]] w fun e w' => e = .returned (.bool r) ∧ Below w.heap.size w w' := by
 have hu49 := Try.underlying49
 have HB := Aside0.mk (Below.refl w.heap.size w)
 have H : (if a0_0.toList = a1_0.toList then (if a0_1 = a1_1 then (if a0_2.toList = a1_2.toList then (some true) else (some false)) else (some false)) else (some false)) = some r := h
 clear h
 by_cases c3 : a0_0.toList = a1_0.toList
 ·rw [if_pos c3] at H
  have c3b0 : (a0_0.toList == a1_0.toList) = true := beq_iff_eq.mpr c3
  have c3b1 : (a0_0.toList != a1_0.toList) = false := bne_eq_false_iff_eq.mpr c3
  clear c3
  by_cases c4 : a0_1 = a1_1
  ·rw [if_pos c4] at H
   have c4b0 : (a0_1 == a1_1) = true := beq_iff_eq.mpr c4
   have c4b1 : (a0_1 != a1_1) = false := bne_eq_false_iff_eq.mpr c4
   clear c4
   by_cases c5 : a0_2.toList = a1_2.toList
   ·rw [if_pos c5] at H
    have c5b0 : (a0_2.toList == a1_2.toList) = true := beq_iff_eq.mpr c5
    have c5b1 : (a0_2.toList != a1_2.toList) = false := bne_eq_false_iff_eq.mpr c5
    clear c5
    obtain rfl := Option.some.inj H
    go_enter Try.func22, Try.ntmps22
    go_wp2_with (first | ((with_reducible refine gate_dst (N := 2) rfl ?_); refine box_event rfl (N := 2) rfl (cs := #[.string a0_0, .int .i64 a0_1, .string a0_2]) (t := 49) sE ?_; intro gb335 hg w6 hbox hb; have BK335 := Aside0.mk hbox; have GW335 := gS w hg (lU); have GE335 := gS w hg (lU); replace HB := bH (lU) hb; clear hb hbox hg) | ((with_reducible refine gate_dst (N := 3) rfl ?_); refine box_event rfl (N := 3) rfl (cs := #[.string a1_0, .int .i64 a1_1, .string a1_2]) (t := 49) sE ?_; intro gb336 hg w7 hbox hb; have BK336 := Aside0.mk hbox; have GW336 := gS w hg (lV1 GE335); have GE336 := gS w hg (lV1 GE335); replace HB := bH (lV1 GE335) hb; have NB335_336 := nL hg (bV BK335); have NB336_335 := nG hg (bV BK335); replace BK335 := bB (bV BK335) hb; clear hb hbox hg; have hnb8 := NB335_336.out; have hnc8 := NB336_335.out; have hcz9_0 := cz BK335 0 (.string a0_0); have hcz9_1 := cz BK335 1 (.int .i64 a0_1); have hcz9_2 := cz BK335 2 (.string a0_2); have hfz9_0 := fz BK335 0; have hfz9_1 := fz BK335 1; have hfz9_2 := fz BK335 2; have hcz10_0 := cz BK336 0 (.string a1_0); have hcz10_1 := cz BK336 1 (.int .i64 a1_1); have hcz10_2 := cz BK336 2 (.string a1_2); have hfz10_0 := fz BK336 0; have hfz10_1 := fz BK336 1; have hfz10_2 := fz BK336 2))
    go_ret
    exact ⟨eE, lV2 GE335 GE336⟩
   ·rw [if_neg c5] at H
    have c5b0 : (a0_2.toList == a1_2.toList) = false := beq_eq_false_iff_ne.mpr c5
    have c5b1 : (a0_2.toList != a1_2.toList) = true := bne_iff_ne.mpr c5
    obtain rfl := Option.some.inj H
    go_enter Try.func22, Try.ntmps22
    go_wp2_with (first | ((with_reducible refine gate_dst (N := 2) rfl ?_); refine box_event rfl (N := 2) rfl (cs := #[.string a0_0, .int .i64 a0_1, .string a0_2]) (t := 49) sE ?_; intro gb335 hg w11 hbox hb; have BK335 := Aside0.mk hbox; have GW335 := gS w hg (lU); have GE335 := gS w hg (lU); replace HB := bH (lU) hb; clear hb hbox hg) | ((with_reducible refine gate_dst (N := 3) rfl ?_); refine box_event rfl (N := 3) rfl (cs := #[.string a1_0, .int .i64 a1_1, .string a1_2]) (t := 49) sE ?_; intro gb336 hg w12 hbox hb; have BK336 := Aside0.mk hbox; have GW336 := gS w hg (lV1 GE335); have GE336 := gS w hg (lV1 GE335); replace HB := bH (lV1 GE335) hb; have NB335_336 := nL hg (bV BK335); have NB336_335 := nG hg (bV BK335); replace BK335 := bB (bV BK335) hb; clear hb hbox hg; have hnb13 := NB335_336.out; have hnc13 := NB336_335.out; have hcz14_0 := cz BK335 0 (.string a0_0); have hcz14_1 := cz BK335 1 (.int .i64 a0_1); have hcz14_2 := cz BK335 2 (.string a0_2); have hfz14_0 := fz BK335 0; have hfz14_1 := fz BK335 1; have hfz14_2 := fz BK335 2; have hcz15_0 := cz BK336 0 (.string a1_0); have hcz15_1 := cz BK336 1 (.int .i64 a1_1); have hcz15_2 := cz BK336 2 (.string a1_2); have hfz15_0 := fz BK336 0; have hfz15_1 := fz BK336 1; have hfz15_2 := fz BK336 2))
    go_ret
    exact ⟨eE, lV2 GE335 GE336⟩
  ·rw [if_neg c4] at H
   have c4b0 : (a0_1 == a1_1) = false := beq_eq_false_iff_ne.mpr c4
   have c4b1 : (a0_1 != a1_1) = true := bne_iff_ne.mpr c4
   obtain rfl := Option.some.inj H
   go_enter Try.func22, Try.ntmps22
   go_wp2_with (first | ((with_reducible refine gate_dst (N := 2) rfl ?_); refine box_event rfl (N := 2) rfl (cs := #[.string a0_0, .int .i64 a0_1, .string a0_2]) (t := 49) sE ?_; intro gb335 hg w16 hbox hb; have BK335 := Aside0.mk hbox; have GW335 := gS w hg (lU); have GE335 := gS w hg (lU); replace HB := bH (lU) hb; clear hb hbox hg) | ((with_reducible refine gate_dst (N := 3) rfl ?_); refine box_event rfl (N := 3) rfl (cs := #[.string a1_0, .int .i64 a1_1, .string a1_2]) (t := 49) sE ?_; intro gb336 hg w17 hbox hb; have BK336 := Aside0.mk hbox; have GW336 := gS w hg (lV1 GE335); have GE336 := gS w hg (lV1 GE335); replace HB := bH (lV1 GE335) hb; have NB335_336 := nL hg (bV BK335); have NB336_335 := nG hg (bV BK335); replace BK335 := bB (bV BK335) hb; clear hb hbox hg; have hnb18 := NB335_336.out; have hnc18 := NB336_335.out; have hcz19_0 := cz BK335 0 (.string a0_0); have hcz19_1 := cz BK335 1 (.int .i64 a0_1); have hcz19_2 := cz BK335 2 (.string a0_2); have hfz19_0 := fz BK335 0; have hfz19_1 := fz BK335 1; have hfz19_2 := fz BK335 2; have hcz20_0 := cz BK336 0 (.string a1_0); have hcz20_1 := cz BK336 1 (.int .i64 a1_1); have hcz20_2 := cz BK336 2 (.string a1_2); have hfz20_0 := fz BK336 0; have hfz20_1 := fz BK336 1; have hfz20_2 := fz BK336 2))
   go_ret
   exact ⟨eE, lV2 GE335 GE336⟩
 ·rw [if_neg c3] at H
  have c3b0 : (a0_0.toList == a1_0.toList) = false := beq_eq_false_iff_ne.mpr c3
  have c3b1 : (a0_0.toList != a1_0.toList) = true := bne_iff_ne.mpr c3
  obtain rfl := Option.some.inj H
  go_enter Try.func22, Try.ntmps22
  go_wp2_with (first | ((with_reducible refine gate_dst (N := 2) rfl ?_); refine box_event rfl (N := 2) rfl (cs := #[.string a0_0, .int .i64 a0_1, .string a0_2]) (t := 49) sE ?_; intro gb335 hg w21 hbox hb; have BK335 := Aside0.mk hbox; have GW335 := gS w hg (lU); have GE335 := gS w hg (lU); replace HB := bH (lU) hb; clear hb hbox hg) | ((with_reducible refine gate_dst (N := 3) rfl ?_); refine box_event rfl (N := 3) rfl (cs := #[.string a1_0, .int .i64 a1_1, .string a1_2]) (t := 49) sE ?_; intro gb336 hg w22 hbox hb; have BK336 := Aside0.mk hbox; have GW336 := gS w hg (lV1 GE335); have GE336 := gS w hg (lV1 GE335); replace HB := bH (lV1 GE335) hb; have NB335_336 := nL hg (bV BK335); have NB336_335 := nG hg (bV BK335); replace BK335 := bB (bV BK335) hb; clear hb hbox hg; have hnb23 := NB335_336.out; have hnc23 := NB336_335.out; have hcz24_0 := cz BK335 0 (.string a0_0); have hcz24_1 := cz BK335 1 (.int .i64 a0_1); have hcz24_2 := cz BK335 2 (.string a0_2); have hfz24_0 := fz BK335 0; have hfz24_1 := fz BK335 1; have hfz24_2 := fz BK335 2; have hcz25_0 := cz BK336 0 (.string a1_0); have hcz25_1 := cz BK336 1 (.int .i64 a1_1); have hcz25_2 := cz BK336 2 (.string a1_2); have hfz25_0 := fz BK336 0; have hfz25_1 := fz BK336 1; have hfz25_2 := fz BK336 2))
  go_ret
  exact ⟨eE, lV2 GE335 GE336⟩
end Go.Proofs.Ytjjbkebodkjnkaa.PFnExactLoadSave
namespace Go.Proofs.Ytjjbkebodkjnkaa.PFnExactLoadSave
open Go.RowKit Go.Proofs.YtjjbkebodkjnkaaW.PrintWords Go.Proofs.YtjjbkebodkjnkaaW.PrintLast Go.Proofs.YtjjbkebodkjnkaaW.PrintMore
attribute [local go_sem] max2_int min2_int max_two min_two max_three min_three max_four min_four
set_option linter.unusedVariables false
set_option linter.unusedSimpArgs false
def laws_eqValueS.l0 : Nat → List (S49) → List (S49) → Int → Option (Bool)
 | 0, _, _, _ => none
 | k + 1, x0, x1, x5 => if x5 < (x0.length : Int) then (if 0 ≤ x5 then (if x5 < (x1.length : Int) then ((laws_eqValue.f ((rd_T49 x0 x5).f0) ((rd_T49 x0 x5).f1) ((rd_T49 x0 x5).f2) ((rd_T49 x1 x5).f0) ((rd_T49 x1 x5).f1) ((rd_T49 x1 x5).f2)).bind fun t339 => (if t339 = true then (laws_eqValueS.l0 k x0 x1 (wrap64 (x5 + 1))) else (some false))) else (none)) else (none)) else (some true)
def laws_eqValueS.f (k : Nat) (l0 : List (S49)) (l1 : List (S49)) : Option (Bool) := if (l0.length : Int) = (l1.length : Int) then (laws_eqValueS.l0 k l0 l1 0) else (some false)
theorem laws_eqValueS.mono_l : ∀ k, (∀ y0 y1 y2, LeO (laws_eqValueS.l0 k y0 y1 y2) (laws_eqValueS.l0 (k + 1) y0 y1 y2))
 | 0 => fun _ _ _ r h => by simp [laws_eqValueS.l0] at h
 | k + 1 => by
  have ih0 := laws_eqValueS.mono_l k
  ·intro y0 y1 y2
   unfold laws_eqValueS.l0
   repeat' first
   | (with_reducible exact ih0 _ _ _)
   | (with_reducible first | exact LeO.refl _ | exact LeO.none _ | refine LeO.ite ?_ ?_ | refine LeO.bind ?_ (fun _ => ?_))
   | exact ih0 _ _ _ | exact LeO.none _ | refine LeO.ite ?_ ?_ | refine LeO.bind ?_ (fun _ => ?_)
theorem laws_eqValueS.mono : ∀ a0 a1 k, LeO (laws_eqValueS.f k a0 a1) (laws_eqValueS.f (k + 1) a0 a1) := by
 intro a0 a1 k
 have ih0 := laws_eqValueS.mono_l k
 unfold laws_eqValueS.f
 repeat' first
   | (with_reducible exact ih0 _ _ _)
   | (with_reducible first | exact LeO.refl _ | exact LeO.none _ | refine LeO.ite ?_ ?_ | refine LeO.bind ?_ (fun _ => ?_))
   | exact ih0 _ _ _ | exact LeO.none _ | refine LeO.ite ?_ ?_ | refine LeO.bind ?_ (fun _ => ?_)
def laws_eqValueS.T6 : Bool × List (List Nat × List Nat) := (true, [([], []), ([], []), ([0, 1], [0, 1]), ([2], [2]), ([], []), ([], []), ([4, 5], [4, 5]), ([6], [6]), ([3, 7], [3, 7]), ([8], [8])])
def laws_eqValueS.B6 : List Nat := [0, 0, 3, 7, 0, 0, 48, 112, 255, 511]
theorem laws_eqValueS.tab6 : rtab .any (opsOf Try.f9 6) = laws_eqValueS.T6 := by kernel_rfl
theorem laws_eqValueS.bits6 : waitsOk laws_eqValueS.T6.2 laws_eqValueS.B6 = true := by kernel_rfl
set_option maxHeartbeats 8000000 in
set_option maxRecDepth 100000 in
theorem laws_eqValueS.calls (k : Nat) (A0 : Option Addr) (c0 : Nat) (l0 : List (S49)) (A1 : Option Addr) (c1 : Nat) (l1 : List (S49)) (r : Bool) (w : World) (hr0 : Kd.C k49 w A0 l0.length l0) (hc0 : l0.length ≤ c0) (hr1 : Kd.C k49 w A1 l1.length l1) (hc1 : l1.length ≤ c1) (h : laws_eqValueS.f k l0 l1 = some r) :
  Calls Try.prog 9 #[.slice A0 l0.length c0, .slice A1 l1.length c1] w fun e w' => e = .returned (.bool r) ∧ Below w.heap.size w w' := by
 have hu49 := Try.underlying49
 have HR0 := Aside0.mk hr0
 have HC0 := Aside0.mk hc0
 clear hr0 hc0
 have HR1 := Aside0.mk hr1
 have HC1 := Aside0.mk hc1
 clear hr1 hc1
 have HB := Aside0.mk (Below.refl w.heap.size w)
 have H : (if (l0.length : Int) = (l1.length : Int) then (laws_eqValueS.l0 k l0 l1 0) else (some false)) = some r := h
 clear h
 by_cases c3 : (l0.length : Int) = (l1.length : Int)
 ·rw [if_pos c3] at H
  have c3b0 : ((l0.length : Int) == (l1.length : Int)) = true := beq_iff_eq.mpr c3
  have c3b1 : ((l0.length : Int) != (l1.length : Int)) = false := bne_eq_false_iff_eq.mpr c3
  have c3b2 : (l0.length == l1.length) = true := by first | simpa using c3 | (simp at c3 ⊢; omega)
  clear c3
  have H' := Aside0.mk H
  clear H
  go_enter Try.func9, Try.ntmps9
  go_wp2
  go_loopg [5] k (fun kq v5 w' => ∃ (x5_1 : Int), v5 = .int .i64 x5_1 ∧ Aside0 (laws_eqValueS.l0 kq l0 l1 x5_1 = some r) ∧ Aside0 (kq ≤ k) ∧ Aside0 (Below w.heap.size w w'))
  case atStart => exact ⟨(0), tE, H', ⟨Nat.le_refl _⟩, ⟨by repeat (first | (with_reducible first | exact HB.out | apply below_alloc | apply pw_below_drewN | apply below_drew1) | exact HB.out)⟩⟩
  case round =>
   clear H'
   try clear c1; try clear c3; try clear c3b0; try clear c3b1; try clear c3b2
   obtain ⟨x5_1, rfl, HA, HK1, HB⟩ := hrel
   cases gk with
   | zero => exact absurd HA.out (by simp [laws_eqValueS.l0])
   | succ k1 =>
    have H := HA.out
    clear HA
    simp only [laws_eqValueS.l0] at H
    by_cases c4 : x5_1 < (l0.length : Int)
    ·rw [if_pos c4] at H
     have c4b0 : decide (x5_1 < (l0.length : Int)) = true := decide_eq_true c4
     clear c4
     by_cases c5 : 0 ≤ x5_1
     ·rw [if_pos c5] at H
      have c5b0 : decide (0 ≤ x5_1) = true := decide_eq_true c5
      clear c5
      by_cases c6 : x5_1 < (l1.length : Int)
      ·rw [if_pos c6] at H
       have c6b0 : decide (x5_1 < (l1.length : Int)) = true := decide_eq_true c6
       clear c6
       replace H := Option.bind_eq_some_iff.mp H
       obtain ⟨t339, A70, H⟩ := H
       replace H : (if t339 = true then (laws_eqValueS.l0 k1 l0 l1 (wrap64 (x5_1 + 1))) else (some false)) = some r := H
       have A7 := Aside0.mk A70
       clear A70
       by_cases c8 : t339 = true
       ·subst c8
        have H1 : (laws_eqValueS.l0 k1 l0 l1 (wrap64 (x5_1 + 1))) = some r := by rw [if_pos rfl] at H; exact H
        clear H
        have H := H1
        clear H1
        have H' := Aside0.mk H
        clear H
        try go_wp2
        replace HB := Aside0.mk (below_drew1 HB.out)
        have p337 : 0 ≤ (x5_1 : Int) := of_decide_eq_true hE
        have q337 : x5_1 < (l0.length : Int) := of_decide_eq_true hE
        obtain ⟨ad337, e337, hx337_0, hx337_1, hx337_2⟩ := at_T49 HR0.out x5_1 p337 q337
        have hw337_2 := hx337_2
        have hw337_1 := hx337_1
        have hw337_0 := hx337_0
        cases e337
        replace hx337_0 := (HB.out.cell (World.block_lt_of_cell? w _ hx337_0)).trans hx337_0
        replace hx337_1 := (HB.out.cell (World.block_lt_of_cell? w _ hx337_1)).trans hx337_1
        replace hx337_2 := (HB.out.cell (World.block_lt_of_cell? w _ hx337_2)).trans hx337_2
        replace p337 := eq_true p337
        replace q337 := eq_true q337
        have p338 : 0 ≤ (x5_1 : Int) := of_decide_eq_true hE
        have q338 : x5_1 < (l1.length : Int) := of_decide_eq_true hE
        obtain ⟨ad338, e338, hx338_0, hx338_1, hx338_2⟩ := at_T49 HR1.out x5_1 p338 q338
        have hw338_2 := hx338_2
        have hw338_1 := hx338_1
        have hw338_0 := hx338_0
        cases e338
        replace hx338_0 := (HB.out.cell (World.block_lt_of_cell? w _ hx338_0)).trans hx338_0
        replace hx338_1 := (HB.out.cell (World.block_lt_of_cell? w _ hx338_1)).trans hx338_1
        replace hx338_2 := (HB.out.cell (World.block_lt_of_cell? w _ hx338_2)).trans hx338_2
        replace p338 := eq_true p338
        replace q338 := eq_true q338
        refine start_ (n := 10) (S := fun w' => w'.cell? (ad337.add ((x5_1).toNat * 3)) = some (.string ((rd_T49 l0 x5_1).f0)) ∧ w'.cell? ⟨(ad337.add ((x5_1).toNat * 3)).block, (ad337.add ((x5_1).toNat * 3)).off + 1, none⟩ = some (.int .i64 ((rd_T49 l0 x5_1).f1)) ∧ w'.cell? ⟨(ad337.add ((x5_1).toNat * 3)).block, (ad337.add ((x5_1).toNat * 3)).off + 2, none⟩ = some (.string ((rd_T49 l0 x5_1).f2)) ∧ w'.cell? (ad338.add ((x5_1).toNat * 3)) = some (.string ((rd_T49 l1 x5_1).f0)) ∧ w'.cell? ⟨(ad338.add ((x5_1).toNat * 3)).block, (ad338.add ((x5_1).toNat * 3)).off + 1, none⟩ = some (.int .i64 ((rd_T49 l1 x5_1).f1)) ∧ w'.cell? ⟨(ad338.add ((x5_1).toNat * 3)).block, (ad338.add ((x5_1).toNat * 3)).off + 2, none⟩ = some (.string ((rd_T49 l1 x5_1).f2))) (ds := []) #[false, false, false, false, false, false, false, false, false, false] (by kernel_rfl) rfl rfl ⟨((HB.out.cell (World.block_lt_of_cell? w _ hw337_0)).trans hw337_0), ((HB.out.cell (World.block_lt_of_cell? w _ hw337_1)).trans hw337_1), ((HB.out.cell (World.block_lt_of_cell? w _ hw337_2)).trans hw337_2), ((HB.out.cell (World.block_lt_of_cell? w _ hw338_0)).trans hw338_0), ((HB.out.cell (World.block_lt_of_cell? w _ hw338_1)).trans hw338_1), ((HB.out.cell (World.block_lt_of_cell? w _ hw338_2)).trans hw338_2)⟩ (fun hHeld => ?_); refine with_tabW laws_eqValueS.tab6 laws_eqValueS.bits6 (fun HT_ HW_ => ?_)
        generalize wr.drew = w9 at HB hx337_0 hx337_1 hx337_2 hx338_0 hx338_1 hx338_2 hHeld ⊢
        refine pureA 0 17 (bz 10 1) rfl rfl (any_of HT_.out (by kernel_rfl)) ?_
        refine pureA 1 18 (bz 10 3) rfl rfl (any_of HT_.out (by kernel_rfl)) ?_
        refine pureA 2 19 (bz 10 7) rfl rfl (any_of HT_.out (by kernel_rfl)) ?_
        refine pureA 4 21 (bz 10 23) rfl rfl (any_of HT_.out (by kernel_rfl)) ?_
        refine pureA 5 22 (bz 10 55) rfl rfl (any_of HT_.out (by kernel_rfl)) ?_
        refine pureA 6 23 (bz 10 119) rfl rfl (any_of HT_.out (by kernel_rfl)) ?_
        refine takeA 3 20 (bz 10 127) rfl rfl (take_ofW HT_.out HW_.out (by kernel_rfl)) hHeld (by rintro w' ⟨s0, s1, s2, s3, s4, s5⟩; go_simp; with_reducible rfl) ?_
        refine takeA 7 24 (bz 10 255) rfl rfl (take_ofW HT_.out HW_.out (by kernel_rfl)) hHeld (by rintro w' ⟨s0, s1, s2, s3, s4, s5⟩; go_simp; with_reducible rfl) ?_
        refine one_ (i := 8) (N := some 25) (bz 10 511) rfl rfl (one_of HT_.out (by kernel_rfl)) (by decide) (fun K hK => ?_)
        refine goes_ Try.func22 (by kernel_rfl) rfl #[.agg #[.string ((rd_T49 l0 x5_1).f0), .int .i64 ((rd_T49 l0 x5_1).f1), .string ((rd_T49 l0 x5_1).f2)], .agg #[.string ((rd_T49 l1 x5_1).f0), .int .i64 ((rd_T49 l1 x5_1).f1), .string ((rd_T49 l1 x5_1).f2)]] (by rfl) rfl rfl aE ?_
        with_reducible refine (laws_eqValue.calls ((rd_T49 l0 x5_1).f0) ((rd_T49 l0 x5_1).f1) ((rd_T49 l0 x5_1).f2) ((rd_T49 l1 x5_1).f0) ((rd_T49 l1 x5_1).f1) ((rd_T49 l1 x5_1).f2) true _ A7.out).mono ?_
        rintro e w10 ⟨rfl, hb⟩
        refine ⟨_, rfl, ?_⟩
        replace HB := bH (lU) hb
        (try clear hb)
        (try clear hb2)
        (try clear hk)
        (try clear hi)
        refine hK.out _ _ ⟨((HB.out.cell (World.block_lt_of_cell? w _ hw337_0)).trans hw337_0), ((HB.out.cell (World.block_lt_of_cell? w _ hw337_1)).trans hw337_1), ((HB.out.cell (World.block_lt_of_cell? w _ hw337_2)).trans hw337_2), ((HB.out.cell (World.block_lt_of_cell? w _ hw338_0)).trans hw338_0), ((HB.out.cell (World.block_lt_of_cell? w _ hw338_1)).trans hw338_1), ((HB.out.cell (World.block_lt_of_cell? w _ hw338_2)).trans hw338_2)⟩ (fun hHeld => ?_)
        clear hK K
        refine norm_ (a' := ?_) ?_ ?_
        rotate_left
        ·show Act.put _ (some 25) _ = _
         simp only [Act.put, List.setIfInBounds_toArray, List.set_cons_zero, List.set_cons_succ, i64_w, i32_w]
         rfl
        refine pureA 9 26 (bz 10 1023) rfl rfl (any_of HT_.out (by kernel_rfl)) ?_
        refine done_ (done_of HT_.out (by kernel_rfl)) ?_
        try go_wp2
        go_roundg k1
        case measure => have := HK1.out; omega
        case rel => exact ⟨(wrap64 (x5_1 + 1)), tE, H', ⟨by have := HK1.out; omega⟩, ⟨by repeat (first | (with_reducible first | exact HB.out | apply below_alloc | apply pw_below_drewN | apply below_drew1) | exact HB.out)⟩⟩
       ·replace c8 := Bool.eq_false_iff.mpr c8
        subst c8
        have H1 : (some false) = some r := by rw [if_neg (show ¬ (false = true) by decide)] at H; exact H
        clear H
        have H := H1
        clear H1
        obtain rfl := Option.some.inj H
        try go_wp2
        replace HB := Aside0.mk (below_drew1 HB.out)
        have p337 : 0 ≤ (x5_1 : Int) := of_decide_eq_true hE
        have q337 : x5_1 < (l0.length : Int) := of_decide_eq_true hE
        obtain ⟨ad337, e337, hx337_0, hx337_1, hx337_2⟩ := at_T49 HR0.out x5_1 p337 q337
        have hw337_2 := hx337_2
        have hw337_1 := hx337_1
        have hw337_0 := hx337_0
        cases e337
        replace hx337_0 := (HB.out.cell (World.block_lt_of_cell? w _ hx337_0)).trans hx337_0
        replace hx337_1 := (HB.out.cell (World.block_lt_of_cell? w _ hx337_1)).trans hx337_1
        replace hx337_2 := (HB.out.cell (World.block_lt_of_cell? w _ hx337_2)).trans hx337_2
        replace p337 := eq_true p337
        replace q337 := eq_true q337
        have p338 : 0 ≤ (x5_1 : Int) := of_decide_eq_true hE
        have q338 : x5_1 < (l1.length : Int) := of_decide_eq_true hE
        obtain ⟨ad338, e338, hx338_0, hx338_1, hx338_2⟩ := at_T49 HR1.out x5_1 p338 q338
        have hw338_2 := hx338_2
        have hw338_1 := hx338_1
        have hw338_0 := hx338_0
        cases e338
        replace hx338_0 := (HB.out.cell (World.block_lt_of_cell? w _ hx338_0)).trans hx338_0
        replace hx338_1 := (HB.out.cell (World.block_lt_of_cell? w _ hx338_1)).trans hx338_1
        replace hx338_2 := (HB.out.cell (World.block_lt_of_cell? w _ hx338_2)).trans hx338_2
        replace p338 := eq_true p338
        replace q338 := eq_true q338
        refine start_ (n := 10) (S := fun w' => w'.cell? (ad337.add ((x5_1).toNat * 3)) = some (.string ((rd_T49 l0 x5_1).f0)) ∧ w'.cell? ⟨(ad337.add ((x5_1).toNat * 3)).block, (ad337.add ((x5_1).toNat * 3)).off + 1, none⟩ = some (.int .i64 ((rd_T49 l0 x5_1).f1)) ∧ w'.cell? ⟨(ad337.add ((x5_1).toNat * 3)).block, (ad337.add ((x5_1).toNat * 3)).off + 2, none⟩ = some (.string ((rd_T49 l0 x5_1).f2)) ∧ w'.cell? (ad338.add ((x5_1).toNat * 3)) = some (.string ((rd_T49 l1 x5_1).f0)) ∧ w'.cell? ⟨(ad338.add ((x5_1).toNat * 3)).block, (ad338.add ((x5_1).toNat * 3)).off + 1, none⟩ = some (.int .i64 ((rd_T49 l1 x5_1).f1)) ∧ w'.cell? ⟨(ad338.add ((x5_1).toNat * 3)).block, (ad338.add ((x5_1).toNat * 3)).off + 2, none⟩ = some (.string ((rd_T49 l1 x5_1).f2))) (ds := []) #[false, false, false, false, false, false, false, false, false, false] (by kernel_rfl) rfl rfl ⟨((HB.out.cell (World.block_lt_of_cell? w _ hw337_0)).trans hw337_0), ((HB.out.cell (World.block_lt_of_cell? w _ hw337_1)).trans hw337_1), ((HB.out.cell (World.block_lt_of_cell? w _ hw337_2)).trans hw337_2), ((HB.out.cell (World.block_lt_of_cell? w _ hw338_0)).trans hw338_0), ((HB.out.cell (World.block_lt_of_cell? w _ hw338_1)).trans hw338_1), ((HB.out.cell (World.block_lt_of_cell? w _ hw338_2)).trans hw338_2)⟩ (fun hHeld => ?_); refine with_tabW laws_eqValueS.tab6 laws_eqValueS.bits6 (fun HT_ HW_ => ?_)
        generalize wr.drew = w11 at HB hx337_0 hx337_1 hx337_2 hx338_0 hx338_1 hx338_2 hHeld ⊢
        refine pureA 0 17 (bz 10 1) rfl rfl (any_of HT_.out (by kernel_rfl)) ?_
        refine pureA 1 18 (bz 10 3) rfl rfl (any_of HT_.out (by kernel_rfl)) ?_
        refine pureA 2 19 (bz 10 7) rfl rfl (any_of HT_.out (by kernel_rfl)) ?_
        refine pureA 4 21 (bz 10 23) rfl rfl (any_of HT_.out (by kernel_rfl)) ?_
        refine pureA 5 22 (bz 10 55) rfl rfl (any_of HT_.out (by kernel_rfl)) ?_
        refine pureA 6 23 (bz 10 119) rfl rfl (any_of HT_.out (by kernel_rfl)) ?_
        refine takeA 3 20 (bz 10 127) rfl rfl (take_ofW HT_.out HW_.out (by kernel_rfl)) hHeld (by rintro w' ⟨s0, s1, s2, s3, s4, s5⟩; go_simp; with_reducible rfl) ?_
        refine takeA 7 24 (bz 10 255) rfl rfl (take_ofW HT_.out HW_.out (by kernel_rfl)) hHeld (by rintro w' ⟨s0, s1, s2, s3, s4, s5⟩; go_simp; with_reducible rfl) ?_
        refine one_ (i := 8) (N := some 25) (bz 10 511) rfl rfl (one_of HT_.out (by kernel_rfl)) (by decide) (fun K hK => ?_)
        refine goes_ Try.func22 (by kernel_rfl) rfl #[.agg #[.string ((rd_T49 l0 x5_1).f0), .int .i64 ((rd_T49 l0 x5_1).f1), .string ((rd_T49 l0 x5_1).f2)], .agg #[.string ((rd_T49 l1 x5_1).f0), .int .i64 ((rd_T49 l1 x5_1).f1), .string ((rd_T49 l1 x5_1).f2)]] (by rfl) rfl rfl aE ?_
        with_reducible refine (laws_eqValue.calls ((rd_T49 l0 x5_1).f0) ((rd_T49 l0 x5_1).f1) ((rd_T49 l0 x5_1).f2) ((rd_T49 l1 x5_1).f0) ((rd_T49 l1 x5_1).f1) ((rd_T49 l1 x5_1).f2) false _ A7.out).mono ?_
        rintro e w12 ⟨rfl, hb⟩
        refine ⟨_, rfl, ?_⟩
        replace HB := bH (lU) hb
        (try clear hb)
        (try clear hb2)
        (try clear hk)
        (try clear hi)
        refine hK.out _ _ ⟨((HB.out.cell (World.block_lt_of_cell? w _ hw337_0)).trans hw337_0), ((HB.out.cell (World.block_lt_of_cell? w _ hw337_1)).trans hw337_1), ((HB.out.cell (World.block_lt_of_cell? w _ hw337_2)).trans hw337_2), ((HB.out.cell (World.block_lt_of_cell? w _ hw338_0)).trans hw338_0), ((HB.out.cell (World.block_lt_of_cell? w _ hw338_1)).trans hw338_1), ((HB.out.cell (World.block_lt_of_cell? w _ hw338_2)).trans hw338_2)⟩ (fun hHeld => ?_)
        clear hK K
        refine norm_ (a' := ?_) ?_ ?_
        rotate_left
        ·show Act.put _ (some 25) _ = _
         simp only [Act.put, List.setIfInBounds_toArray, List.set_cons_zero, List.set_cons_succ, i64_w, i32_w]
         rfl
        refine pureA 9 26 (bz 10 1023) rfl rfl (any_of HT_.out (by kernel_rfl)) ?_
        refine done_ (done_of HT_.out (by kernel_rfl)) ?_
        try go_wp2
        go_ret
        exact ⟨eE, lU⟩
      ·rw [if_neg c6] at H
       exact absurd H (by simp)
     ·rw [if_neg c5] at H
      exact absurd H (by simp)
    ·rw [if_neg c4] at H
     have c4b0 : decide (x5_1 < (l0.length : Int)) = false := decide_eq_false c4
     clear c4
     obtain rfl := Option.some.inj H
     go_wp2
     go_ret
     exact ⟨eE, lU⟩
 ·rw [if_neg c3] at H
  have c3b0 : ((l0.length : Int) == (l1.length : Int)) = false := beq_eq_false_iff_ne.mpr c3
  have c3b1 : ((l0.length : Int) != (l1.length : Int)) = true := bne_iff_ne.mpr c3
  have c3b2 : (l0.length == l1.length) = false := by first | simpa using c3 | (simp at c3 ⊢; omega)
  obtain rfl := Option.some.inj H
  go_enter Try.func9, Try.ntmps9
  go_wp2
  go_ret
  exact ⟨eE, lU⟩
def laws_eqByteS.l0 : Nat → List Int → List Int → Int → Option (Bool)
 | 0, _, _, _ => none
 | k + 1, x0, x1, x5 => if x5 < (x0.length : Int) then (if 0 ≤ x5 then (if x5 < (x1.length : Int) then (if (rd x0 x5) = (rd x1 x5) then (laws_eqByteS.l0 k x0 x1 (wrap64 (x5 + 1))) else (some false)) else (none)) else (none)) else (some true)
def laws_eqByteS.f (k : Nat) (l0 : List Int) (l1 : List Int) : Option (Bool) := if (l0.length : Int) = (l1.length : Int) then (laws_eqByteS.l0 k l0 l1 0) else (some false)
theorem laws_eqByteS.mono_l : ∀ k, (∀ y0 y1 y2, LeO (laws_eqByteS.l0 k y0 y1 y2) (laws_eqByteS.l0 (k + 1) y0 y1 y2))
 | 0 => fun _ _ _ r h => by simp [laws_eqByteS.l0] at h
 | k + 1 => by
  have ih0 := laws_eqByteS.mono_l k
  ·intro y0 y1 y2
   unfold laws_eqByteS.l0
   repeat' first
   | (with_reducible exact ih0 _ _ _)
   | (with_reducible first | exact LeO.refl _ | exact LeO.none _ | refine LeO.ite ?_ ?_ | refine LeO.bind ?_ (fun _ => ?_))
   | exact ih0 _ _ _ | exact LeO.none _ | refine LeO.ite ?_ ?_ | refine LeO.bind ?_ (fun _ => ?_)
theorem laws_eqByteS.mono : ∀ a0 a1 k, LeO (laws_eqByteS.f k a0 a1) (laws_eqByteS.f (k + 1) a0 a1) := by
 intro a0 a1 k
 have ih0 := laws_eqByteS.mono_l k
 unfold laws_eqByteS.f
 repeat' first
   | (with_reducible exact ih0 _ _ _)
   | (with_reducible first | exact LeO.refl _ | exact LeO.none _ | refine LeO.ite ?_ ?_ | refine LeO.bind ?_ (fun _ => ?_))
   | exact ih0 _ _ _ | exact LeO.none _ | refine LeO.ite ?_ ?_ | refine LeO.bind ?_ (fun _ => ?_)
set_option maxHeartbeats 8000000 in
set_option maxRecDepth 100000 in
theorem laws_eqByteS.calls (k : Nat) (A0 : Option Addr) (c0 : Nat) (l0 : List Int) (A1 : Option Addr) (c1 : Nat) (l1 : List Int) (r : Bool) (w : World) (hr0 : Kd.C (Kd.int .u8) w A0 l0.length l0) (hc0 : l0.length ≤ c0) (hr1 : Kd.C (Kd.int .u8) w A1 l1.length l1) (hc1 : l1.length ≤ c1) (h : laws_eqByteS.f k l0 l1 = some r) :
  Calls Try.prog 10 #[.slice A0 l0.length c0, .slice A1 l1.length c1] w fun e w' => e = .returned (.bool r) ∧ Drawn0 w w' := by
 have HR0 := Aside0.mk hr0
 have HC0 := Aside0.mk hc0
 clear hr0 hc0
 have HR1 := Aside0.mk hr1
 have HC1 := Aside0.mk hc1
 clear hr1 hc1
 have H : (if (l0.length : Int) = (l1.length : Int) then (laws_eqByteS.l0 k l0 l1 0) else (some false)) = some r := h
 clear h
 by_cases c3 : (l0.length : Int) = (l1.length : Int)
 ·rw [if_pos c3] at H
  have c3b0 : ((l0.length : Int) == (l1.length : Int)) = true := beq_iff_eq.mpr c3
  have c3b1 : ((l0.length : Int) != (l1.length : Int)) = false := bne_eq_false_iff_eq.mpr c3
  have c3b2 : (l0.length == l1.length) = true := by first | simpa using c3 | (simp at c3 ⊢; omega)
  clear c3
  have H' := Aside0.mk H
  clear H
  go_enter Try.func10, Try.ntmps10
  go_wp2
  repeat (go_quiet (fail); try go_wp2)
  go_loopg [5] k (fun kq v5 w' => ∃ (x5_1 : Int), v5 = .int .i64 x5_1 ∧ Aside0 (laws_eqByteS.l0 kq l0 l1 x5_1 = some r) ∧ Aside0 (kq ≤ k) ∧ Drawn0 w w')
  case atStart => exact ⟨(0), tE, H', ⟨Nat.le_refl _⟩, by repeat (first | exact Drawn0.refl _ | apply Drawn0.step)⟩
  case round =>
   clear H'
   try clear c1; try clear c3; try clear c3b0; try clear c3b1; try clear c3b2
   obtain ⟨x5_1, rfl, HA, HK1, ⟨m1, rfl⟩⟩ := hrel
   cases gk with
   | zero => exact absurd HA.out (by simp [laws_eqByteS.l0])
   | succ k1 =>
    have H := HA.out
    clear HA
    simp only [laws_eqByteS.l0] at H
    by_cases c4 : x5_1 < (l0.length : Int)
    ·rw [if_pos c4] at H
     have c4b0 : decide (x5_1 < (l0.length : Int)) = true := decide_eq_true c4
     clear c4
     by_cases c5 : 0 ≤ x5_1
     ·rw [if_pos c5] at H
      have c5b0 : decide (0 ≤ x5_1) = true := decide_eq_true c5
      clear c5
      by_cases c6 : x5_1 < (l1.length : Int)
      ·rw [if_pos c6] at H
       have c6b0 : decide (x5_1 < (l1.length : Int)) = true := decide_eq_true c6
       clear c6
       by_cases c7 : (rd l0 x5_1) = (rd l1 x5_1)
       ·rw [if_pos c7] at H
        have c7b0 : ((rd l0 x5_1) == (rd l1 x5_1)) = true := beq_iff_eq.mpr c7
        have c7b1 : ((rd l0 x5_1) != (rd l1 x5_1)) = false := bne_eq_false_iff_eq.mpr c7
        clear c7
        have H' := Aside0.mk H
        clear H
        have p340 : 0 ≤ (x5_1 : Int) := of_decide_eq_true hE
        have q340 : x5_1 < (l0.length : Int) := of_decide_eq_true hE
        obtain ⟨ad340, e340, hx340_0⟩ := Kd.at_int HR0.out x5_1 p340 q340
        cases e340
        replace p340 := eq_true p340
        replace q340 := eq_true q340
        have p341 : 0 ≤ (x5_1 : Int) := of_decide_eq_true hE
        have q341 : x5_1 < (l1.length : Int) := of_decide_eq_true hE
        obtain ⟨ad341, e341, hx341_0⟩ := Kd.at_int HR1.out x5_1 p341 q341
        cases e341
        replace p341 := eq_true p341
        replace q341 := eq_true q341
        go_wp2
        repeat (go_quiet (fail); try go_wp2)
        go_roundg k1
        case measure => have := HK1.out; omega
        case rel => exact ⟨(wrap64 (x5_1 + 1)), tE, H', ⟨by have := HK1.out; omega⟩, by repeat (first | exact Drawn0.refl _ | apply Drawn0.step)⟩
       ·rw [if_neg c7] at H
        have c7b0 : ((rd l0 x5_1) == (rd l1 x5_1)) = false := beq_eq_false_iff_ne.mpr c7
        have c7b1 : ((rd l0 x5_1) != (rd l1 x5_1)) = true := bne_iff_ne.mpr c7
        obtain rfl := Option.some.inj H
        have p340 : 0 ≤ (x5_1 : Int) := of_decide_eq_true hE
        have q340 : x5_1 < (l0.length : Int) := of_decide_eq_true hE
        obtain ⟨ad340, e340, hx340_0⟩ := Kd.at_int HR0.out x5_1 p340 q340
        cases e340
        replace p340 := eq_true p340
        replace q340 := eq_true q340
        have p341 : 0 ≤ (x5_1 : Int) := of_decide_eq_true hE
        have q341 : x5_1 < (l1.length : Int) := of_decide_eq_true hE
        obtain ⟨ad341, e341, hx341_0⟩ := Kd.at_int HR1.out x5_1 p341 q341
        cases e341
        replace p341 := eq_true p341
        replace q341 := eq_true q341
        go_wp2
        repeat (go_quiet (fail); try go_wp2)
        go_ret
        exact ⟨tE, by repeat (first | exact Drawn0.refl _ | apply Drawn0.step)⟩
      ·rw [if_neg c6] at H
       exact absurd H (by simp)
     ·rw [if_neg c5] at H
      exact absurd H (by simp)
    ·rw [if_neg c4] at H
     have c4b0 : decide (x5_1 < (l0.length : Int)) = false := decide_eq_false c4
     clear c4
     obtain rfl := Option.some.inj H
     go_wp2
     repeat (go_quiet (fail); try go_wp2)
     go_ret
     exact ⟨tE, by repeat (first | exact Drawn0.refl _ | apply Drawn0.step)⟩
 ·rw [if_neg c3] at H
  have c3b0 : ((l0.length : Int) == (l1.length : Int)) = false := beq_eq_false_iff_ne.mpr c3
  have c3b1 : ((l0.length : Int) != (l1.length : Int)) = true := bne_iff_ne.mpr c3
  have c3b2 : (l0.length == l1.length) = false := by first | simpa using c3 | (simp at c3 ⊢; omega)
  obtain rfl := Option.some.inj H
  go_enter Try.func10, Try.ntmps10
  go_wp2
  repeat (go_quiet (fail); try go_wp2)
  go_ret
  exact ⟨tE, by repeat (first | exact Drawn0.refl _ | apply Drawn0.step)⟩
def laws_eqChange.f (a0_0 : Int) (a0_1 : Int) (a0_2 : ByteArray) (a0_3 : ByteArray) (a0_4 : Int) (a1_0 : Int) (a1_1 : Int) (a1_2 : ByteArray) (a1_3 : ByteArray) (a1_4 : Int) : Option (Bool) := if a0_0 = a1_0 then (if a0_1 = a1_1 then (if a0_2.toList = a1_2.toList then (if a0_3.toList = a1_3.toList then (if a0_4 = a1_4 then (some true) else (some false)) else (some false)) else (some false)) else (some false)) else (some false)
set_option maxHeartbeats 8000000 in
set_option maxRecDepth 100000 in
theorem laws_eqChange.calls (a0_0 : Int) (a0_1 : Int) (a0_2 : ByteArray) (a0_3 : ByteArray) (a0_4 : Int) (a1_0 : Int) (a1_1 : Int) (a1_2 : ByteArray) (a1_3 : ByteArray) (a1_4 : Int) (r : Bool) (w : World) (h : laws_eqChange.f a0_0 a0_1 a0_2 a0_3 a0_4 a1_0 a1_1 a1_2 a1_3 a1_4 = some r) :
  Calls Try.prog 23 #[.agg #[.int .i64 a0_0, .int .i64 a0_1, .string a0_2, .string a0_3, .int .i64 a0_4], .agg #[.int .i64 a1_0, .int .i64 a1_1, .string a1_2, .string a1_3, .int .i64 a1_4]] w fun e w' => e = .returned (.bool r) ∧ Below w.heap.size w w' := by
 have hu45 := Try.underlying45
 have HB := Aside0.mk (Below.refl w.heap.size w)
 have H : (if a0_0 = a1_0 then (if a0_1 = a1_1 then (if a0_2.toList = a1_2.toList then (if a0_3.toList = a1_3.toList then (if a0_4 = a1_4 then (some true) else (some false)) else (some false)) else (some false)) else (some false)) else (some false)) = some r := h
 clear h
 by_cases c3 : a0_0 = a1_0
 ·rw [if_pos c3] at H
  have c3b0 : (a0_0 == a1_0) = true := beq_iff_eq.mpr c3
  have c3b1 : (a0_0 != a1_0) = false := bne_eq_false_iff_eq.mpr c3
  clear c3
  by_cases c4 : a0_1 = a1_1
  ·rw [if_pos c4] at H
   have c4b0 : (a0_1 == a1_1) = true := beq_iff_eq.mpr c4
   have c4b1 : (a0_1 != a1_1) = false := bne_eq_false_iff_eq.mpr c4
   clear c4
   by_cases c5 : a0_2.toList = a1_2.toList
   ·rw [if_pos c5] at H
    have c5b0 : (a0_2.toList == a1_2.toList) = true := beq_iff_eq.mpr c5
    have c5b1 : (a0_2.toList != a1_2.toList) = false := bne_eq_false_iff_eq.mpr c5
    clear c5
    by_cases c6 : a0_3.toList = a1_3.toList
    ·rw [if_pos c6] at H
     have c6b0 : (a0_3.toList == a1_3.toList) = true := beq_iff_eq.mpr c6
     have c6b1 : (a0_3.toList != a1_3.toList) = false := bne_eq_false_iff_eq.mpr c6
     clear c6
     by_cases c7 : a0_4 = a1_4
     ·rw [if_pos c7] at H
      have c7b0 : (a0_4 == a1_4) = true := beq_iff_eq.mpr c7
      have c7b1 : (a0_4 != a1_4) = false := bne_eq_false_iff_eq.mpr c7
      clear c7
      obtain rfl := Option.some.inj H
      go_enter Try.func23, Try.ntmps23
      go_wp2_with (first | ((with_reducible refine gate_dst (N := 2) rfl ?_); refine box_event rfl (N := 2) rfl (cs := #[.int .i64 a0_0, .int .i64 a0_1, .string a0_2, .string a0_3, .int .i64 a0_4]) (t := 45) sE ?_; intro gb342 hg w8 hbox hb; have BK342 := Aside0.mk hbox; have GW342 := gS w hg (lU); have GE342 := gS w hg (lU); replace HB := bH (lU) hb; clear hb hbox hg) | ((with_reducible refine gate_dst (N := 3) rfl ?_); refine box_event rfl (N := 3) rfl (cs := #[.int .i64 a1_0, .int .i64 a1_1, .string a1_2, .string a1_3, .int .i64 a1_4]) (t := 45) sE ?_; intro gb343 hg w9 hbox hb; have BK343 := Aside0.mk hbox; have GW343 := gS w hg (lV1 GE342); have GE343 := gS w hg (lV1 GE342); replace HB := bH (lV1 GE342) hb; have NB342_343 := nL hg (bV BK342); have NB343_342 := nG hg (bV BK342); replace BK342 := bB (bV BK342) hb; clear hb hbox hg; have hnb10 := NB342_343.out; have hnc10 := NB343_342.out; have hcz11_0 := cz BK342 0 (.int .i64 a0_0); have hcz11_1 := cz BK342 1 (.int .i64 a0_1); have hcz11_2 := cz BK342 2 (.string a0_2); have hcz11_3 := cz BK342 3 (.string a0_3); have hcz11_4 := cz BK342 4 (.int .i64 a0_4); have hfz11_0 := fz BK342 0; have hfz11_1 := fz BK342 1; have hfz11_2 := fz BK342 2; have hfz11_3 := fz BK342 3; have hfz11_4 := fz BK342 4; have hcz12_0 := cz BK343 0 (.int .i64 a1_0); have hcz12_1 := cz BK343 1 (.int .i64 a1_1); have hcz12_2 := cz BK343 2 (.string a1_2); have hcz12_3 := cz BK343 3 (.string a1_3); have hcz12_4 := cz BK343 4 (.int .i64 a1_4); have hfz12_0 := fz BK343 0; have hfz12_1 := fz BK343 1; have hfz12_2 := fz BK343 2; have hfz12_3 := fz BK343 3; have hfz12_4 := fz BK343 4))
      go_ret
      exact ⟨eE, lV2 GE342 GE343⟩
     ·rw [if_neg c7] at H
      have c7b0 : (a0_4 == a1_4) = false := beq_eq_false_iff_ne.mpr c7
      have c7b1 : (a0_4 != a1_4) = true := bne_iff_ne.mpr c7
      obtain rfl := Option.some.inj H
      go_enter Try.func23, Try.ntmps23
      go_wp2_with (first | ((with_reducible refine gate_dst (N := 2) rfl ?_); refine box_event rfl (N := 2) rfl (cs := #[.int .i64 a0_0, .int .i64 a0_1, .string a0_2, .string a0_3, .int .i64 a0_4]) (t := 45) sE ?_; intro gb342 hg w13 hbox hb; have BK342 := Aside0.mk hbox; have GW342 := gS w hg (lU); have GE342 := gS w hg (lU); replace HB := bH (lU) hb; clear hb hbox hg) | ((with_reducible refine gate_dst (N := 3) rfl ?_); refine box_event rfl (N := 3) rfl (cs := #[.int .i64 a1_0, .int .i64 a1_1, .string a1_2, .string a1_3, .int .i64 a1_4]) (t := 45) sE ?_; intro gb343 hg w14 hbox hb; have BK343 := Aside0.mk hbox; have GW343 := gS w hg (lV1 GE342); have GE343 := gS w hg (lV1 GE342); replace HB := bH (lV1 GE342) hb; have NB342_343 := nL hg (bV BK342); have NB343_342 := nG hg (bV BK342); replace BK342 := bB (bV BK342) hb; clear hb hbox hg; have hnb15 := NB342_343.out; have hnc15 := NB343_342.out; have hcz16_0 := cz BK342 0 (.int .i64 a0_0); have hcz16_1 := cz BK342 1 (.int .i64 a0_1); have hcz16_2 := cz BK342 2 (.string a0_2); have hcz16_3 := cz BK342 3 (.string a0_3); have hcz16_4 := cz BK342 4 (.int .i64 a0_4); have hfz16_0 := fz BK342 0; have hfz16_1 := fz BK342 1; have hfz16_2 := fz BK342 2; have hfz16_3 := fz BK342 3; have hfz16_4 := fz BK342 4; have hcz17_0 := cz BK343 0 (.int .i64 a1_0); have hcz17_1 := cz BK343 1 (.int .i64 a1_1); have hcz17_2 := cz BK343 2 (.string a1_2); have hcz17_3 := cz BK343 3 (.string a1_3); have hcz17_4 := cz BK343 4 (.int .i64 a1_4); have hfz17_0 := fz BK343 0; have hfz17_1 := fz BK343 1; have hfz17_2 := fz BK343 2; have hfz17_3 := fz BK343 3; have hfz17_4 := fz BK343 4))
      go_ret
      exact ⟨eE, lV2 GE342 GE343⟩
    ·rw [if_neg c6] at H
     have c6b0 : (a0_3.toList == a1_3.toList) = false := beq_eq_false_iff_ne.mpr c6
     have c6b1 : (a0_3.toList != a1_3.toList) = true := bne_iff_ne.mpr c6
     obtain rfl := Option.some.inj H
     go_enter Try.func23, Try.ntmps23
     go_wp2_with (first | ((with_reducible refine gate_dst (N := 2) rfl ?_); refine box_event rfl (N := 2) rfl (cs := #[.int .i64 a0_0, .int .i64 a0_1, .string a0_2, .string a0_3, .int .i64 a0_4]) (t := 45) sE ?_; intro gb342 hg w18 hbox hb; have BK342 := Aside0.mk hbox; have GW342 := gS w hg (lU); have GE342 := gS w hg (lU); replace HB := bH (lU) hb; clear hb hbox hg) | ((with_reducible refine gate_dst (N := 3) rfl ?_); refine box_event rfl (N := 3) rfl (cs := #[.int .i64 a1_0, .int .i64 a1_1, .string a1_2, .string a1_3, .int .i64 a1_4]) (t := 45) sE ?_; intro gb343 hg w19 hbox hb; have BK343 := Aside0.mk hbox; have GW343 := gS w hg (lV1 GE342); have GE343 := gS w hg (lV1 GE342); replace HB := bH (lV1 GE342) hb; have NB342_343 := nL hg (bV BK342); have NB343_342 := nG hg (bV BK342); replace BK342 := bB (bV BK342) hb; clear hb hbox hg; have hnb20 := NB342_343.out; have hnc20 := NB343_342.out; have hcz21_0 := cz BK342 0 (.int .i64 a0_0); have hcz21_1 := cz BK342 1 (.int .i64 a0_1); have hcz21_2 := cz BK342 2 (.string a0_2); have hcz21_3 := cz BK342 3 (.string a0_3); have hcz21_4 := cz BK342 4 (.int .i64 a0_4); have hfz21_0 := fz BK342 0; have hfz21_1 := fz BK342 1; have hfz21_2 := fz BK342 2; have hfz21_3 := fz BK342 3; have hfz21_4 := fz BK342 4; have hcz22_0 := cz BK343 0 (.int .i64 a1_0); have hcz22_1 := cz BK343 1 (.int .i64 a1_1); have hcz22_2 := cz BK343 2 (.string a1_2); have hcz22_3 := cz BK343 3 (.string a1_3); have hcz22_4 := cz BK343 4 (.int .i64 a1_4); have hfz22_0 := fz BK343 0; have hfz22_1 := fz BK343 1; have hfz22_2 := fz BK343 2; have hfz22_3 := fz BK343 3; have hfz22_4 := fz BK343 4))
     go_ret
     exact ⟨eE, lV2 GE342 GE343⟩
   ·rw [if_neg c5] at H
    have c5b0 : (a0_2.toList == a1_2.toList) = false := beq_eq_false_iff_ne.mpr c5
    have c5b1 : (a0_2.toList != a1_2.toList) = true := bne_iff_ne.mpr c5
    obtain rfl := Option.some.inj H
    go_enter Try.func23, Try.ntmps23
    go_wp2_with (first | ((with_reducible refine gate_dst (N := 2) rfl ?_); refine box_event rfl (N := 2) rfl (cs := #[.int .i64 a0_0, .int .i64 a0_1, .string a0_2, .string a0_3, .int .i64 a0_4]) (t := 45) sE ?_; intro gb342 hg w23 hbox hb; have BK342 := Aside0.mk hbox; have GW342 := gS w hg (lU); have GE342 := gS w hg (lU); replace HB := bH (lU) hb; clear hb hbox hg) | ((with_reducible refine gate_dst (N := 3) rfl ?_); refine box_event rfl (N := 3) rfl (cs := #[.int .i64 a1_0, .int .i64 a1_1, .string a1_2, .string a1_3, .int .i64 a1_4]) (t := 45) sE ?_; intro gb343 hg w24 hbox hb; have BK343 := Aside0.mk hbox; have GW343 := gS w hg (lV1 GE342); have GE343 := gS w hg (lV1 GE342); replace HB := bH (lV1 GE342) hb; have NB342_343 := nL hg (bV BK342); have NB343_342 := nG hg (bV BK342); replace BK342 := bB (bV BK342) hb; clear hb hbox hg; have hnb25 := NB342_343.out; have hnc25 := NB343_342.out; have hcz26_0 := cz BK342 0 (.int .i64 a0_0); have hcz26_1 := cz BK342 1 (.int .i64 a0_1); have hcz26_2 := cz BK342 2 (.string a0_2); have hcz26_3 := cz BK342 3 (.string a0_3); have hcz26_4 := cz BK342 4 (.int .i64 a0_4); have hfz26_0 := fz BK342 0; have hfz26_1 := fz BK342 1; have hfz26_2 := fz BK342 2; have hfz26_3 := fz BK342 3; have hfz26_4 := fz BK342 4; have hcz27_0 := cz BK343 0 (.int .i64 a1_0); have hcz27_1 := cz BK343 1 (.int .i64 a1_1); have hcz27_2 := cz BK343 2 (.string a1_2); have hcz27_3 := cz BK343 3 (.string a1_3); have hcz27_4 := cz BK343 4 (.int .i64 a1_4); have hfz27_0 := fz BK343 0; have hfz27_1 := fz BK343 1; have hfz27_2 := fz BK343 2; have hfz27_3 := fz BK343 3; have hfz27_4 := fz BK343 4))
    go_ret
    exact ⟨eE, lV2 GE342 GE343⟩
  ·rw [if_neg c4] at H
   have c4b0 : (a0_1 == a1_1) = false := beq_eq_false_iff_ne.mpr c4
   have c4b1 : (a0_1 != a1_1) = true := bne_iff_ne.mpr c4
   obtain rfl := Option.some.inj H
   go_enter Try.func23, Try.ntmps23
   go_wp2_with (first | ((with_reducible refine gate_dst (N := 2) rfl ?_); refine box_event rfl (N := 2) rfl (cs := #[.int .i64 a0_0, .int .i64 a0_1, .string a0_2, .string a0_3, .int .i64 a0_4]) (t := 45) sE ?_; intro gb342 hg w28 hbox hb; have BK342 := Aside0.mk hbox; have GW342 := gS w hg (lU); have GE342 := gS w hg (lU); replace HB := bH (lU) hb; clear hb hbox hg) | ((with_reducible refine gate_dst (N := 3) rfl ?_); refine box_event rfl (N := 3) rfl (cs := #[.int .i64 a1_0, .int .i64 a1_1, .string a1_2, .string a1_3, .int .i64 a1_4]) (t := 45) sE ?_; intro gb343 hg w29 hbox hb; have BK343 := Aside0.mk hbox; have GW343 := gS w hg (lV1 GE342); have GE343 := gS w hg (lV1 GE342); replace HB := bH (lV1 GE342) hb; have NB342_343 := nL hg (bV BK342); have NB343_342 := nG hg (bV BK342); replace BK342 := bB (bV BK342) hb; clear hb hbox hg; have hnb30 := NB342_343.out; have hnc30 := NB343_342.out; have hcz31_0 := cz BK342 0 (.int .i64 a0_0); have hcz31_1 := cz BK342 1 (.int .i64 a0_1); have hcz31_2 := cz BK342 2 (.string a0_2); have hcz31_3 := cz BK342 3 (.string a0_3); have hcz31_4 := cz BK342 4 (.int .i64 a0_4); have hfz31_0 := fz BK342 0; have hfz31_1 := fz BK342 1; have hfz31_2 := fz BK342 2; have hfz31_3 := fz BK342 3; have hfz31_4 := fz BK342 4; have hcz32_0 := cz BK343 0 (.int .i64 a1_0); have hcz32_1 := cz BK343 1 (.int .i64 a1_1); have hcz32_2 := cz BK343 2 (.string a1_2); have hcz32_3 := cz BK343 3 (.string a1_3); have hcz32_4 := cz BK343 4 (.int .i64 a1_4); have hfz32_0 := fz BK343 0; have hfz32_1 := fz BK343 1; have hfz32_2 := fz BK343 2; have hfz32_3 := fz BK343 3; have hfz32_4 := fz BK343 4))
   go_ret
   exact ⟨eE, lV2 GE342 GE343⟩
 ·rw [if_neg c3] at H
  have c3b0 : (a0_0 == a1_0) = false := beq_eq_false_iff_ne.mpr c3
  have c3b1 : (a0_0 != a1_0) = true := bne_iff_ne.mpr c3
  obtain rfl := Option.some.inj H
  go_enter Try.func23, Try.ntmps23
  go_wp2_with (first | ((with_reducible refine gate_dst (N := 2) rfl ?_); refine box_event rfl (N := 2) rfl (cs := #[.int .i64 a0_0, .int .i64 a0_1, .string a0_2, .string a0_3, .int .i64 a0_4]) (t := 45) sE ?_; intro gb342 hg w33 hbox hb; have BK342 := Aside0.mk hbox; have GW342 := gS w hg (lU); have GE342 := gS w hg (lU); replace HB := bH (lU) hb; clear hb hbox hg) | ((with_reducible refine gate_dst (N := 3) rfl ?_); refine box_event rfl (N := 3) rfl (cs := #[.int .i64 a1_0, .int .i64 a1_1, .string a1_2, .string a1_3, .int .i64 a1_4]) (t := 45) sE ?_; intro gb343 hg w34 hbox hb; have BK343 := Aside0.mk hbox; have GW343 := gS w hg (lV1 GE342); have GE343 := gS w hg (lV1 GE342); replace HB := bH (lV1 GE342) hb; have NB342_343 := nL hg (bV BK342); have NB343_342 := nG hg (bV BK342); replace BK342 := bB (bV BK342) hb; clear hb hbox hg; have hnb35 := NB342_343.out; have hnc35 := NB343_342.out; have hcz36_0 := cz BK342 0 (.int .i64 a0_0); have hcz36_1 := cz BK342 1 (.int .i64 a0_1); have hcz36_2 := cz BK342 2 (.string a0_2); have hcz36_3 := cz BK342 3 (.string a0_3); have hcz36_4 := cz BK342 4 (.int .i64 a0_4); have hfz36_0 := fz BK342 0; have hfz36_1 := fz BK342 1; have hfz36_2 := fz BK342 2; have hfz36_3 := fz BK342 3; have hfz36_4 := fz BK342 4; have hcz37_0 := cz BK343 0 (.int .i64 a1_0); have hcz37_1 := cz BK343 1 (.int .i64 a1_1); have hcz37_2 := cz BK343 2 (.string a1_2); have hcz37_3 := cz BK343 3 (.string a1_3); have hcz37_4 := cz BK343 4 (.int .i64 a1_4); have hfz37_0 := fz BK343 0; have hfz37_1 := fz BK343 1; have hfz37_2 := fz BK343 2; have hfz37_3 := fz BK343 3; have hfz37_4 := fz BK343 4))
  go_ret
  exact ⟨eE, lV2 GE342 GE343⟩
end Go.Proofs.Ytjjbkebodkjnkaa.PFnExactLoadSave
