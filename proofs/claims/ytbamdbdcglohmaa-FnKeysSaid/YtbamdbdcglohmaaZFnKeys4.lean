/- Texts of a row. -/
import Derived.Test.YtbamdbdcglohmaaZFnKeys3
namespace Go.Proofs.Ytbamdbdcglohmaa.PFnKeys
open Go.RowKit Go.Proofs.YtbamdbdcglohmaaW.PrintWords Go.Proofs.YtbamdbdcglohmaaW.PrintLast Go.Proofs.YtbamdbdcglohmaaW.PrintMore
attribute [local go_sem] max2_int min2_int max_two min_two max_three min_three max_four min_four   -- for this text's walks alone
set_option linter.unusedVariables false
set_option linter.unusedSimpArgs false
def spec_l1In.f (a0 : Int) (a1 : Int) (a2 : Int) : Option (Bool) := if a0 ≥ a1 then (some (decide (a0 ≤ a2))) else (some false)
set_option maxHeartbeats 8000000 in
set_option maxRecDepth 100000 in
theorem spec_l1In.calls (a0 : Int) (a1 : Int) (a2 : Int) (r : Bool) (w : World) (h : spec_l1In.f a0 a1 a2 = some r) :
  Calls Try.prog 26 #[.int .i64 a0, .int .i64 a1, .int .i64 a2] w fun e w' => e = .returned (.bool r) ∧ Drawn0 w w' := by
 have H : (if a0 ≥ a1 then (some (decide (a0 ≤ a2))) else (some false)) = some r := h
 clear h
 by_cases c4 : a0 ≥ a1
 ·rw [if_pos c4] at H
  have c4b0 : decide (a1 ≤ a0) = true := decide_eq_true c4
  clear c4
  obtain rfl := Option.some.inj H
  go_enter Try.func26, Try.ntmps26
  go_wp2
  go_ret
  exact ⟨by first | rfl | (simp; done) | (simp [*]; done) | exact not_isEmpty _ | exact (not_isEmpty _).symm | exact is_empty _ | exact (is_empty _).symm, by repeat (first | exact Drawn0.refl _ | apply Drawn0.step)⟩
 ·rw [if_neg c4] at H
  have c4b0 : decide (a1 ≤ a0) = false := decide_eq_false c4
  clear c4
  obtain rfl := Option.some.inj H
  go_enter Try.func26, Try.ntmps26
  go_wp2
  go_ret
  exact ⟨by first | rfl | (simp; done) | (simp [*]; done) | exact not_isEmpty _ | exact (not_isEmpty _).symm | exact is_empty _ | exact (is_empty _).symm, by repeat (first | exact Drawn0.refl _ | apply Drawn0.step)⟩
def spec_l11Value.f (a0 : Int) : Option (Bool) := (spec_l1In.f a0 (-100000) 100000).bind fun t229 => (some t229)
set_option maxHeartbeats 8000000 in
set_option maxRecDepth 100000 in
theorem spec_l11Value.calls (a0 : Int) (r : Bool) (w : World) (h : spec_l11Value.f a0 = some r) :
  Calls Try.prog 41 #[.int .i64 a0] w fun e w' => e = .returned (.bool r) ∧ Drawn0 w w' := by
 have H : ((spec_l1In.f a0 (-100000) 100000).bind fun t229 => (some t229)) = some r := h
 clear h
 replace H := Option.bind_eq_some_iff.mp H
 obtain ⟨t229, A20, H⟩ := H
 replace H : (some t229) = some r := H
 have A2 := Aside0.mk A20
 clear A20
 obtain rfl := Option.some.inj H
 go_enter Try.func41, Try.ntmps41
 go_wp2_with (first | ((with_reducible refine gate_callee (f := 26) rfl ?_); refine goesL_ (some 4) rfl rfl Try.func26 (by kernel_rfl) rfl #[.int .i64 a0, .int .i64 (-100000), .int .i64 100000] rfl aE ?_; (with_reducible refine (spec_l1In.calls a0 (-100000) 100000 t229 _ A2.out).mono ?_); rintro e w' ⟨rfl, ⟨nd, rfl⟩⟩; refine ⟨_, rfl, ?_⟩))
 go_ret
 exact ⟨by first | rfl | (simp; done) | (simp [*]; done) | exact not_isEmpty _ | exact (not_isEmpty _).symm | exact is_empty _ | exact (is_empty _).symm, by repeat (first | exact Drawn0.refl _ | apply Drawn0.step)⟩
mutual
def spec_l11Values.j0 : Nat → List Int → Bool → Option (Bool)
 | 0, _, _ => none
 | k + 1, x0, x12 => if x12 = true then (some false) else (spec_l11Values.l0 k x0 (x0.length : Int) 0)
def spec_l11Values.l0 : Nat → List Int → Int → Int → Option (Bool)
 | 0, _, _, _ => none
 | k + 1, x13, x14, x15 => if x15 < x14 then (if 0 ≤ x15 then (if x15 < (x13.length : Int) then ((spec_l11Value.f (rd x13 x15)).bind fun t231 => (if t231 = true then (spec_l11Values.l0 k x13 x14 (wrap64 (x15 + 1))) else (some false))) else (none)) else (none)) else (some true)
end
def spec_l11Values.f (k : Nat) (l0 : List Int) : Option (Bool) := if (l0.length : Int) < 1 then (spec_l11Values.j0 k l0 true) else (spec_l11Values.j0 k l0 (decide ((l0.length : Int) > 60)))
theorem spec_l11Values.mono_l : ∀ k, (∀ y0 y1, LeO (spec_l11Values.j0 k y0 y1) (spec_l11Values.j0 (k + 1) y0 y1)) ∧ (∀ y0 y1 y2, LeO (spec_l11Values.l0 k y0 y1 y2) (spec_l11Values.l0 (k + 1) y0 y1 y2))
 | 0 => ⟨fun _ _ r h => by simp [spec_l11Values.j0] at h, fun _ _ _ r h => by simp [spec_l11Values.l0] at h⟩
 | k + 1 => by
  obtain ⟨ih0, ih1⟩ := spec_l11Values.mono_l k
  refine ⟨?_, ?_⟩
  ·intro y0 y1
   unfold spec_l11Values.j0
   repeat' first
   | (with_reducible exact ih0 _ _)
   | (with_reducible exact ih1 _ _ _)
   | (with_reducible first | exact LeO.refl _ | exact LeO.none _ | refine LeO.ite ?_ ?_ | refine LeO.bind ?_ (fun _ => ?_))
   | exact ih0 _ _
   | exact ih1 _ _ _ | exact LeO.none _ | refine LeO.ite ?_ ?_ | refine LeO.bind ?_ (fun _ => ?_)
  ·intro y0 y1 y2
   unfold spec_l11Values.l0
   repeat' first
   | (with_reducible exact ih0 _ _)
   | (with_reducible exact ih1 _ _ _)
   | (with_reducible first | exact LeO.refl _ | exact LeO.none _ | refine LeO.ite ?_ ?_ | refine LeO.bind ?_ (fun _ => ?_))
   | exact ih0 _ _
   | exact ih1 _ _ _ | exact LeO.none _ | refine LeO.ite ?_ ?_ | refine LeO.bind ?_ (fun _ => ?_)
theorem spec_l11Values.mono : ∀ a0 k, LeO (spec_l11Values.f k a0) (spec_l11Values.f (k + 1) a0) := by
 intro a0 k
 obtain ⟨ih0, ih1⟩ := spec_l11Values.mono_l k
 unfold spec_l11Values.f
 repeat' first
   | (with_reducible exact ih0 _ _)
   | (with_reducible exact ih1 _ _ _)
   | (with_reducible first | exact LeO.refl _ | exact LeO.none _ | refine LeO.ite ?_ ?_ | refine LeO.bind ?_ (fun _ => ?_))
   | exact ih0 _ _
   | exact ih1 _ _ _ | exact LeO.none _ | refine LeO.ite ?_ ?_ | refine LeO.bind ?_ (fun _ => ?_)
set_option maxHeartbeats 8000000 in
set_option maxRecDepth 100000 in
theorem spec_l11Values.calls (k : Nat) (A0 : Option Addr) (c0 : Nat) (l0 : List Int) (r : Bool) (w : World) (hr0 : Kd.C (Kd.int .i64) w A0 l0.length l0) (hc0 : l0.length ≤ c0) (h : spec_l11Values.f k l0 = some r) :
  Calls Try.prog 25 #[.slice A0 l0.length c0] w fun e w' => e = .returned (.bool r) ∧ Drawn0 w w' := by
 have HR0 := Aside0.mk hr0
 have HC0 := Aside0.mk hc0
 clear hr0 hc0
 have H : (if (l0.length : Int) < 1 then (spec_l11Values.j0 k l0 true) else (spec_l11Values.j0 k l0 (decide ((l0.length : Int) > 60)))) = some r := h
 clear h
 have HC2 := Aside0.mk H
 clear H
 go_enter Try.func25, Try.ntmps25
 go_upto_region 1 with (fail)
 go_cut [12] (fun v12 wc => ∃ (kq : Nat) (x12_1 : Bool), v12 = .bool x12_1 ∧ Aside0 (spec_l11Values.j0 kq l0 x12_1 = some r) ∧ Aside0 (kq ≤ k) ∧ Drawn0 w wc)
 case first =>
  have H := HC2.out
  clear HC2
  by_cases c3 : (l0.length : Int) < 1
  ·rw [if_pos c3] at H
   have c3b0 : decide ((l0.length : Int) < 1) = true := decide_eq_true c3
   have c3b1 : decide (l0.length < 1) = true := decide_eq_true (by omega)
   clear c3
   (first | rw [c3b0] | (simp only [i64_w, i32_w]; rw [c3b0]) | (rw [c3b2]; simp only [Bool.not_false, Bool.not_true]) | skip)
   have H' := Aside0.mk H
   clear H
   go_wp2
   go_meet
   case rel => exact ⟨_, (true), tE, H', ⟨by first | omega | exact Nat.le_refl _⟩, by repeat (first | exact Drawn0.refl _ | apply Drawn0.step)⟩
  ·rw [if_neg c3] at H
   have c3b0 : decide ((l0.length : Int) < 1) = false := decide_eq_false c3
   have c3b1 : decide (l0.length < 1) = false := decide_eq_false (by omega)
   clear c3
   (first | rw [c3b0] | (simp only [i64_w, i32_w]; rw [c3b0]) | (rw [c3b2]; simp only [Bool.not_false, Bool.not_true]) | skip)
   have H' := Aside0.mk H
   clear H
   go_wp2
   go_meet
   case rel => exact ⟨_, (decide ((l0.length : Int) > 60)), tE, H', ⟨by first | omega | exact Nat.le_refl _⟩, by repeat (first | exact Drawn0.refl _ | apply Drawn0.step)⟩
 case rest =>
  clear HC2
  try clear c2
  try clear p2
  try clear c3
  try clear c3b0
  try clear c3b1
  try clear c3b2
  obtain ⟨kq, x12_1, rfl, HA, HJ1, ⟨mc1, rfl⟩⟩ := hcut
  cases kq with
  | zero => exact absurd HA.out (by simp [spec_l11Values.j0])
  | succ kj1 =>
   have H := HA.out
   clear HA
   simp only [spec_l11Values.j0] at H
   by_cases c4 : x12_1 = true
   ·subst c4
    have H1 : (some false) = some r := by rw [if_pos rfl] at H; exact H
    clear H
    have H := H1
    clear H1
    obtain rfl := Option.some.inj H
    go_wp2
    go_ret
    exact ⟨by first | rfl | (simp; done) | (simp [*]; done) | exact not_isEmpty _ | exact (not_isEmpty _).symm | exact is_empty _ | exact (is_empty _).symm, by repeat (first | exact Drawn0.refl _ | apply Drawn0.step)⟩
   ·replace c4 := Bool.eq_false_iff.mpr c4
    subst c4
    have H1 : (spec_l11Values.l0 kj1 l0 (l0.length : Int) 0) = some r := by rw [if_neg (show ¬ (false = true) by decide)] at H; exact H
    clear H
    have H := H1
    clear H1
    have H' := Aside0.mk H
    clear H
    go_wp2
    go_loopg [15] kj1 (fun kq v15 w' => ∃ (x15_2 : Int), v15 = .int .i64 x15_2 ∧ Aside0 (spec_l11Values.l0 kq l0 (l0.length : Int) x15_2 = some r) ∧ Aside0 (kq ≤ kj1) ∧ Drawn0 w w')
    case atStart => exact ⟨(0), tE, H', ⟨Nat.le_refl _⟩, by repeat (first | exact Drawn0.refl _ | apply Drawn0.step)⟩
    case round =>
     clear H'
     try clear c1
     try clear c2
     try clear p2
     try clear c3
     try clear c3b0
     try clear c3b1
     try clear c3b2
     try clear c4
     try clear p2
     obtain ⟨x15_2, rfl, HA, HK2, ⟨m2, rfl⟩⟩ := hrel
     cases gk with
     | zero => exact absurd HA.out (by simp [spec_l11Values.l0])
     | succ k2 =>
      have H := HA.out
      clear HA
      simp only [spec_l11Values.l0] at H
      by_cases c5 : x15_2 < (l0.length : Int)
      ·rw [if_pos c5] at H
       have c5b0 : decide (x15_2 < (l0.length : Int)) = true := decide_eq_true c5
       clear c5
       by_cases c6 : 0 ≤ x15_2
       ·rw [if_pos c6] at H
        have c6b0 : decide (0 ≤ x15_2) = true := decide_eq_true c6
        clear c6
        by_cases c7 : x15_2 < (l0.length : Int)
        ·rw [if_pos c7] at H
         have c7b0 : decide (x15_2 < (l0.length : Int)) = true := decide_eq_true c7
         clear c7
         replace H := Option.bind_eq_some_iff.mp H
         obtain ⟨t231, A80, H⟩ := H
         replace H : (if t231 = true then (spec_l11Values.l0 k2 l0 (l0.length : Int) (wrap64 (x15_2 + 1))) else (some false)) = some r := H
         have A8 := Aside0.mk A80
         clear A80
         by_cases c9 : t231 = true
         ·subst c9
          have H1 : (spec_l11Values.l0 k2 l0 (l0.length : Int) (wrap64 (x15_2 + 1))) = some r := by rw [if_pos rfl] at H; exact H
          clear H
          have H := H1
          clear H1
          have H' := Aside0.mk H
          clear H
          have p230 : 0 ≤ (x15_2 : Int) := of_decide_eq_true hE
          have q230 : x15_2 < (l0.length : Int) := of_decide_eq_true hE
          obtain ⟨ad230, e230, hx230_0⟩ := Kd.at_int HR0.out x15_2 p230 q230
          cases e230
          replace p230 := eq_true p230
          replace q230 := eq_true q230
          go_wp2_with (first | ((with_reducible refine gate_callee (f := 41) rfl ?_); refine goesL_ (some 20) rfl rfl Try.func41 (by kernel_rfl) rfl #[.int .i64 (rd l0 x15_2)] rfl aE ?_; (with_reducible refine (spec_l11Value.calls (rd l0 x15_2) true _ A8.out).mono ?_); rintro e w' ⟨rfl, ⟨nd, rfl⟩⟩; refine ⟨_, rfl, ?_⟩))
          go_roundg k2
          case measure => have := HJ1.out; have := HK2.out; omega
          case rel => exact ⟨(wrap64 (x15_2 + 1)), tE, H', ⟨by have := HJ1.out; have := HK2.out; omega⟩, by repeat (first | exact Drawn0.refl _ | apply Drawn0.step)⟩
         ·replace c9 := Bool.eq_false_iff.mpr c9
          subst c9
          have H1 : (some false) = some r := by rw [if_neg (show ¬ (false = true) by decide)] at H; exact H
          clear H
          have H := H1
          clear H1
          obtain rfl := Option.some.inj H
          have p230 : 0 ≤ (x15_2 : Int) := of_decide_eq_true hE
          have q230 : x15_2 < (l0.length : Int) := of_decide_eq_true hE
          obtain ⟨ad230, e230, hx230_0⟩ := Kd.at_int HR0.out x15_2 p230 q230
          cases e230
          replace p230 := eq_true p230
          replace q230 := eq_true q230
          go_wp2_with (first | ((with_reducible refine gate_callee (f := 41) rfl ?_); refine goesL_ (some 20) rfl rfl Try.func41 (by kernel_rfl) rfl #[.int .i64 (rd l0 x15_2)] rfl aE ?_; (with_reducible refine (spec_l11Value.calls (rd l0 x15_2) false _ A8.out).mono ?_); rintro e w' ⟨rfl, ⟨nd, rfl⟩⟩; refine ⟨_, rfl, ?_⟩))
          go_ret
          exact ⟨by first | rfl | (simp; done) | (simp [*]; done) | exact not_isEmpty _ | exact (not_isEmpty _).symm | exact is_empty _ | exact (is_empty _).symm, by repeat (first | exact Drawn0.refl _ | apply Drawn0.step)⟩
        ·rw [if_neg c7] at H
         exact absurd H (by simp)
       ·rw [if_neg c6] at H
        exact absurd H (by simp)
      ·rw [if_neg c5] at H
       have c5b0 : decide (x15_2 < (l0.length : Int)) = false := decide_eq_false c5
       clear c5
       obtain rfl := Option.some.inj H
       go_wp2
       go_ret
       exact ⟨by first | rfl | (simp; done) | (simp [*]; done) | exact not_isEmpty _ | exact (not_isEmpty _).symm | exact is_empty _ | exact (is_empty _).symm, by repeat (first | exact Drawn0.refl _ | apply Drawn0.step)⟩
def spec_l1Abs.f (a0 : Int) : Option (Int) := if a0 < 0 then (some (wrap64 (-a0))) else (some a0)
set_option maxHeartbeats 8000000 in
set_option maxRecDepth 100000 in
theorem spec_l1Abs.calls (a0 : Int) (r : Int) (w : World) (h : spec_l1Abs.f a0 = some r) :
  Calls Try.prog 32 #[.int .i64 a0] w fun e w' => e = .returned (.int .i64 r) ∧ Drawn0 w w' := by
 have H : (if a0 < 0 then (some (wrap64 (-a0))) else (some a0)) = some r := h
 clear h
 by_cases c2 : a0 < 0
 ·rw [if_pos c2] at H
  have c2b0 : decide (a0 < 0) = true := decide_eq_true c2
  clear c2
  obtain rfl := Option.some.inj H
  go_enter Try.func32, Try.ntmps32
  go_wp2
  go_ret
  exact ⟨by first | rfl | (simp; done) | (simp [*]; done) | exact not_isEmpty _ | exact (not_isEmpty _).symm | exact is_empty _ | exact (is_empty _).symm, by repeat (first | exact Drawn0.refl _ | apply Drawn0.step)⟩
 ·rw [if_neg c2] at H
  have c2b0 : decide (a0 < 0) = false := decide_eq_false c2
  clear c2
  obtain rfl := Option.some.inj H
  go_enter Try.func32, Try.ntmps32
  go_wp2
  go_ret
  exact ⟨by first | rfl | (simp; done) | (simp [*]; done) | exact not_isEmpty _ | exact (not_isEmpty _).symm | exact is_empty _ | exact (is_empty _).symm, by repeat (first | exact Drawn0.refl _ | apply Drawn0.step)⟩
def spec_l1Down.f (a0 : Int) (a1 : Int) : Option (Int) := if a1 = 0 then (none) else (if (Int.tmod a0 a1) = 0 then (some (wrap64 (Int.tdiv a0 a1))) else (if ((decide (a0 < 0)) != (decide (a1 < 0))) = true then (some (wrap64 ((wrap64 (Int.tdiv a0 a1)) - 1))) else (some (wrap64 (Int.tdiv a0 a1)))))
set_option maxHeartbeats 8000000 in
set_option maxRecDepth 100000 in
theorem spec_l1Down.calls (a0 : Int) (a1 : Int) (r : Int) (w : World) (h : spec_l1Down.f a0 a1 = some r) :
  Calls Try.prog 42 #[.int .i64 a0, .int .i64 a1] w fun e w' => e = .returned (.int .i64 r) ∧ Drawn0 w w' := by
 have H : (if a1 = 0 then (none) else (if (Int.tmod a0 a1) = 0 then (some (wrap64 (Int.tdiv a0 a1))) else (if ((decide (a0 < 0)) != (decide (a1 < 0))) = true then (some (wrap64 ((wrap64 (Int.tdiv a0 a1)) - 1))) else (some (wrap64 (Int.tdiv a0 a1)))))) = some r := h
 clear h
 by_cases c3 : a1 = 0
 ·rw [if_pos c3] at H
  exact absurd H (by simp)
 ·rw [if_neg c3] at H
  have c3b0 : (a1 == 0) = false := beq_eq_false_iff_ne.mpr c3
  have c3b1 : (a1 != 0) = true := bne_iff_ne.mpr c3
  by_cases c4 : (Int.tmod a0 a1) = 0
  ·rw [if_pos c4] at H
   have c4b0 : ((Int.tmod a0 a1) == 0) = true := beq_iff_eq.mpr c4
   have c4b1 : ((Int.tmod a0 a1) != 0) = false := bne_eq_false_iff_eq.mpr c4
   clear c4
   obtain rfl := Option.some.inj H
   go_enter Try.func42, Try.ntmps42
   go_wp2
   go_ret
   exact ⟨by first | rfl | (simp; done) | (simp [*]; done) | exact not_isEmpty _ | exact (not_isEmpty _).symm | exact is_empty _ | exact (is_empty _).symm, by repeat (first | exact Drawn0.refl _ | apply Drawn0.step)⟩
  ·rw [if_neg c4] at H
   have c4b0 : ((Int.tmod a0 a1) == 0) = false := beq_eq_false_iff_ne.mpr c4
   have c4b1 : ((Int.tmod a0 a1) != 0) = true := bne_iff_ne.mpr c4
   by_cases c5 : ((decide (a0 < 0)) != (decide (a1 < 0))) = true
   ·rw [if_pos c5] at H
    have c5b0 : ((decide (a0 < 0)) != (decide (a1 < 0))) = true := c5
    (try (have c5b1 : decide ((decide (a0 < 0)) = (decide (a1 < 0))) = false := by simpa using c5))
    (try (have c5b2 : ((decide (a0 < 0)) == (decide (a1 < 0))) = false := by simpa using c5))
    (try (have c5b3 : ¬ ((decide (a0 < 0)) = (decide (a1 < 0))) := by simpa using c5))
    clear c5
    obtain rfl := Option.some.inj H
    go_enter Try.func42, Try.ntmps42
    go_wp2
    go_ret
    exact ⟨by first | rfl | (simp; done) | (simp [*]; done) | exact not_isEmpty _ | exact (not_isEmpty _).symm | exact is_empty _ | exact (is_empty _).symm, by repeat (first | exact Drawn0.refl _ | apply Drawn0.step)⟩
   ·rw [if_neg c5] at H
    have c5b0 : ((decide (a0 < 0)) != (decide (a1 < 0))) = false := by simpa using c5
    (try (have c5b1 : decide ((decide (a0 < 0)) = (decide (a1 < 0))) = true := by simpa using c5))
    (try (have c5b2 : ((decide (a0 < 0)) == (decide (a1 < 0))) = true := by simpa using c5))
    clear c5
    obtain rfl := Option.some.inj H
    go_enter Try.func42, Try.ntmps42
    go_wp2
    go_ret
    exact ⟨by first | rfl | (simp; done) | (simp [*]; done) | exact not_isEmpty _ | exact (not_isEmpty _).symm | exact is_empty _ | exact (is_empty _).symm, by repeat (first | exact Drawn0.refl _ | apply Drawn0.step)⟩
def spec_l11At.l0 : Nat → List (S41) → Int → Int → Option (Int)
 | 0, _, _, _ => none
 | k + 1, x0, x1, x5 => if x5 < (x0.length : Int) then (if 0 ≤ (wrap64 (x5 - 1)) then (if (wrap64 (x5 - 1)) < (x0.length : Int) then (if 0 ≤ x5 then (if x1 ≤ ((rd_T41 x0 x5).f0) then ((spec_l1Down.f (wrap64 ((wrap64 (((rd_T41 x0 x5).f1) - ((rd_T41 x0 (wrap64 (x5 - 1))).f1))) * (wrap64 (x1 - ((rd_T41 x0 (wrap64 (x5 - 1))).f0))))) (wrap64 (((rd_T41 x0 x5).f0) - ((rd_T41 x0 (wrap64 (x5 - 1))).f0)))).bind fun t238 => (some (wrap64 (((rd_T41 x0 (wrap64 (x5 - 1))).f1) + t238)))) else (spec_l11At.l0 k x0 x1 (wrap64 (x5 + 1)))) else (none)) else (none)) else (none)) else (if 0 ≤ (wrap64 ((x0.length : Int) - 1)) then (if (wrap64 ((x0.length : Int) - 1)) < (x0.length : Int) then (some ((rd_T41 x0 (wrap64 ((x0.length : Int) - 1))).f1)) else (none)) else (none))
def spec_l11At.f (k : Nat) (l0 : List (S41)) (a1 : Int) : Option (Int) := if 0 < (l0.length : Int) then (if a1 ≤ ((rd_T41 l0 0).f0) then (some ((rd_T41 l0 0).f1)) else (spec_l11At.l0 k l0 a1 1)) else (none)
theorem spec_l11At.mono_l : ∀ k, (∀ y0 y1 y2, LeO (spec_l11At.l0 k y0 y1 y2) (spec_l11At.l0 (k + 1) y0 y1 y2))
 | 0 => fun _ _ _ r h => by simp [spec_l11At.l0] at h
 | k + 1 => by
  have ih0 := spec_l11At.mono_l k
  ·intro y0 y1 y2
   unfold spec_l11At.l0
   repeat' first
   | (with_reducible exact ih0 _ _ _)
   | (with_reducible first | exact LeO.refl _ | exact LeO.none _ | refine LeO.ite ?_ ?_ | refine LeO.bind ?_ (fun _ => ?_))
   | exact ih0 _ _ _ | exact LeO.none _ | refine LeO.ite ?_ ?_ | refine LeO.bind ?_ (fun _ => ?_)
theorem spec_l11At.mono : ∀ a0 a1 k, LeO (spec_l11At.f k a0 a1) (spec_l11At.f (k + 1) a0 a1) := by
 intro a0 a1 k
 have ih0 := spec_l11At.mono_l k
 unfold spec_l11At.f
 repeat' first
   | (with_reducible exact ih0 _ _ _)
   | (with_reducible first | exact LeO.refl _ | exact LeO.none _ | refine LeO.ite ?_ ?_ | refine LeO.bind ?_ (fun _ => ?_))
   | exact ih0 _ _ _ | exact LeO.none _ | refine LeO.ite ?_ ?_ | refine LeO.bind ?_ (fun _ => ?_)
set_option maxHeartbeats 8000000 in
set_option maxRecDepth 100000 in
theorem spec_l11At.calls (k : Nat) (A0 : Option Addr) (c0 : Nat) (l0 : List (S41)) (a1 : Int) (r : Int) (w : World) (hr0 : Kd.C k41 w A0 l0.length l0) (hc0 : l0.length ≤ c0) (h : spec_l11At.f k l0 a1 = some r) :
  Calls Try.prog 33 #[.slice A0 l0.length c0, .int .i64 a1] w fun e w' => e = .returned (.int .i64 r) ∧ Below w.heap.size w w' := by
 have hu41 := Try.underlying41
 have HR0 := Aside0.mk hr0
 have HC0 := Aside0.mk hc0
 clear hr0 hc0
 have HB := Aside0.mk (Below.refl w.heap.size w)
 have H : (if 0 < (l0.length : Int) then (if a1 ≤ ((rd_T41 l0 0).f0) then (some ((rd_T41 l0 0).f1)) else (spec_l11At.l0 k l0 a1 1)) else (none)) = some r := h
 clear h
 by_cases c3 : 0 < (l0.length : Int)
 ·rw [if_pos c3] at H
  have c3b0 : decide (0 < (l0.length : Int)) = true := decide_eq_true c3
  have c3b1 : decide (0 < l0.length) = true := decide_eq_true (by omega)
  clear c3
  by_cases c4 : a1 ≤ ((rd_T41 l0 0).f0)
  ·rw [if_pos c4] at H
   have c4b0 : decide (a1 ≤ ((rd_T41 l0 0).f0)) = true := decide_eq_true c4
   clear c4
   obtain rfl := Option.some.inj H
   have p232 : 0 ≤ (0 : Int) := (by omega)
   have q232 : 0 < (l0.length : Int) := of_decide_eq_true hE
   obtain ⟨ad232, e232, hx232_0, hx232_1⟩ := at_T41 HR0.out 0 p232 q232
   cases e232
   have qi232 : (0 < l0.length) = True := eq_true (by omega)
   (try rw [show ((0 : Int)).toNat = 0 from rfl] at hx232_0)
   (try rw [show 0 * 2 = 0 from rfl] at hx232_0)
   (try rw [Addr.add_zero'] at hx232_0)
   (try rw [show ((0 : Int)).toNat = 0 from rfl] at hx232_1)
   (try rw [show 0 * 2 = 0 from rfl] at hx232_1)
   (try rw [Addr.add_zero'] at hx232_1)
   replace p232 := eq_true p232
   replace q232 := eq_true q232
   have p233 : 0 ≤ (0 : Int) := (by omega)
   have q233 : 0 < (l0.length : Int) := of_decide_eq_true hE
   obtain ⟨ad233, e233, hx233_0, hx233_1⟩ := at_T41 HR0.out 0 p233 q233
   obtain rfl : ad232 = ad233 := (by injection e233)
   have qi233 : (0 < l0.length) = True := eq_true (by omega)
   (try rw [show ((0 : Int)).toNat = 0 from rfl] at hx233_0)
   (try rw [show 0 * 2 = 0 from rfl] at hx233_0)
   (try rw [Addr.add_zero'] at hx233_0)
   (try rw [show ((0 : Int)).toNat = 0 from rfl] at hx233_1)
   (try rw [show 0 * 2 = 0 from rfl] at hx233_1)
   (try rw [Addr.add_zero'] at hx233_1)
   replace p233 := eq_true p233
   replace q233 := eq_true q233
   go_enter Try.func33, Try.ntmps33
   go_wp2
   repeat (go_quiet (fail); try go_wp2)
   go_ret
   exact ⟨eE, lU⟩
  ·rw [if_neg c4] at H
   have c4b0 : decide (a1 ≤ ((rd_T41 l0 0).f0)) = false := decide_eq_false c4
   clear c4
   have H' := Aside0.mk H
   clear H
   have p232 : 0 ≤ (0 : Int) := (by omega)
   have q232 : 0 < (l0.length : Int) := of_decide_eq_true hE
   obtain ⟨ad232, e232, hx232_0, hx232_1⟩ := at_T41 HR0.out 0 p232 q232
   cases e232
   have qi232 : (0 < l0.length) = True := eq_true (by omega)
   (try rw [show ((0 : Int)).toNat = 0 from rfl] at hx232_0)
   (try rw [show 0 * 2 = 0 from rfl] at hx232_0)
   (try rw [Addr.add_zero'] at hx232_0)
   (try rw [show ((0 : Int)).toNat = 0 from rfl] at hx232_1)
   (try rw [show 0 * 2 = 0 from rfl] at hx232_1)
   (try rw [Addr.add_zero'] at hx232_1)
   replace p232 := eq_true p232
   replace q232 := eq_true q232
   go_enter Try.func33, Try.ntmps33
   go_wp2
   repeat (go_quiet (fail); try go_wp2)
   go_loopg [5] k (fun kq v5 w' => ∃ (x5_1 : Int), v5 = .int .i64 x5_1 ∧ Aside0 (spec_l11At.l0 kq l0 a1 x5_1 = some r) ∧ Aside0 (kq ≤ k) ∧ Aside0 (Below w.heap.size w w'))
   case atStart => exact ⟨(1), tE, H', ⟨Nat.le_refl _⟩, ⟨by repeat (first | (with_reducible first | exact HB.out | apply below_alloc | apply pw_below_drewN | apply below_drew1) | exact HB.out)⟩⟩
   case round =>
    clear H'
    try clear p2
    try clear q2
    try clear hx2
    try clear qi2
    try clear c3
    try clear c3b0
    try clear c3b1
    try clear c4
    try clear c4b0
    try clear hx232_0
    try clear hx232_1
    try clear hx233_0
    try clear hx233_1
    try clear p232
    try clear p233
    try clear q232
    try clear q233
    obtain ⟨x5_1, rfl, HA, HK1, HB⟩ := hrel
    cases gk with
    | zero => exact absurd HA.out (by simp [spec_l11At.l0])
    | succ k1 =>
     have H := HA.out
     clear HA
     simp only [spec_l11At.l0] at H
     by_cases c5 : x5_1 < (l0.length : Int)
     ·rw [if_pos c5] at H
      have c5b0 : decide (x5_1 < (l0.length : Int)) = true := decide_eq_true c5
      clear c5
      obtain ⟨ji6, hji6⟩ : ∃ j_ : Int, (wrap64 (x5_1 - 1)) = j_ := ⟨_, rfl⟩
      replace H : (if 0 ≤ (ji6) then (if (ji6) < (l0.length : Int) then (if 0 ≤ x5_1 then (if a1 ≤ ((rd_T41 l0 x5_1).f0) then ((spec_l1Down.f (wrap64 ((wrap64 (((rd_T41 l0 x5_1).f1) - ((rd_T41 l0 (ji6)).f1))) * (wrap64 (a1 - ((rd_T41 l0 (ji6)).f0))))) (wrap64 (((rd_T41 l0 x5_1).f0) - ((rd_T41 l0 (ji6)).f0)))).bind fun t238 => (some (wrap64 (((rd_T41 l0 (ji6)).f1) + t238)))) else (spec_l11At.l0 k1 l0 a1 (wrap64 (x5_1 + 1)))) else (none)) else (none)) else (none)) = some r := by first | (rw [hji6] at H; exact H) | (simp only [hji6] at H ⊢; exact H)
      have hji6w : (IntKind.i64.wrap (x5_1 - 1)) = ji6 := (i64_w _).trans hji6
      by_cases c7 : 0 ≤ (ji6)
      ·rw [if_pos c7] at H
       have c7b0 : decide (0 ≤ (ji6)) = true := decide_eq_true c7
       clear c7
       by_cases c8 : (ji6) < (l0.length : Int)
       ·rw [if_pos c8] at H
        have c8b0 : decide ((ji6) < (l0.length : Int)) = true := decide_eq_true c8
        clear c8
        by_cases c9 : 0 ≤ x5_1
        ·rw [if_pos c9] at H
         have c9b0 : decide (0 ≤ x5_1) = true := decide_eq_true c9
         clear c9
         by_cases c10 : a1 ≤ ((rd_T41 l0 x5_1).f0)
         ·rw [if_pos c10] at H
          have c10b0 : decide (a1 ≤ ((rd_T41 l0 x5_1).f0)) = true := decide_eq_true c10
          clear c10
          replace H := Option.bind_eq_some_iff.mp H
          obtain ⟨t238, A110, H⟩ := H
          replace H : (some (wrap64 (((rd_T41 l0 (ji6)).f1) + t238))) = some r := H
          have A11 := Aside0.mk A110
          clear A110
          obtain rfl := Option.some.inj H
          have p234 : 0 ≤ ((ji6) : Int) := of_decide_eq_true hE
          have q234 : (ji6) < (l0.length : Int) := of_decide_eq_true hE
          obtain ⟨ad234, e234, hx234_0, hx234_1⟩ := at_T41 HR0.out (ji6) p234 q234
          obtain rfl : ad232 = ad234 := (by injection e234)
          replace hx234_0 := (HB.out.cell (World.block_lt_of_cell? w _ hx234_0)).trans hx234_0
          replace hx234_1 := (HB.out.cell (World.block_lt_of_cell? w _ hx234_1)).trans hx234_1
          replace p234 := eq_true p234
          replace q234 := eq_true q234
          go_wp2_with (first | ((with_reducible refine gate_dst (N := 6) rfl ?_); refine box_event rfl (N := 6) rfl (cs := #[.int .i64 0, .int .i64 0]) (t := 41) sE ?_; intro gb235 hg w12 hbox hb; have BK235 := Aside0.mk hbox; have GW235 := gS w hg (lU); have GE235 := gS w hg (lU); replace HB := bH (lU) hb; clear hb hbox hg; have hcz13_0 := cz BK235 0 (.int .i64 0); have hcz13_1 := cz BK235 1 (.int .i64 0); have hfz13_0 := fz BK235 0; have hfz13_1 := fz BK235 1) | ((with_reducible refine gate_store (t := 41) (p := 6) rfl ?_); (try (rw [drewN_self w12]; generalize hq_ : World.drewN w12 _ = w12; replace BK235 := Aside0.mk (blk_at hq_ BK235.out); replace HB := Aside0.mk (below_at hq_ HB.out); clear hq_)); refine store_event (t := 41) (p := 6) (v := ?vo_w14) (w1 := ((w12.setCell ⟨gb235, 0, none⟩ (.int .i64 ((rd_T41 l0 (ji6)).f0))).setCell ⟨gb235, 1, none⟩ (.int .i64 ((rd_T41 l0 (ji6)).f1)))) ?hg ?ho ?hn ?hr ?_; (case ho => rfl); (case hg => rfl); (case hn => rfl); (case hr => first | (go_simp; done) | (go_simp; rfl) | (have hq0_ := (blk_cell BK235.out 0).trans (show _ = some _ from rfl); have hf0_ := blk_frozen BK235.out 0; have hq1_ := (blk_cell BK235.out 1).trans (show _ = some _ from rfl); have hf1_ := blk_frozen BK235.out 1; first | (go_simp; done) | (go_simp; rfl))); intro w14 hw; replace BK235 : Aside0 (w14.heap[gb235]? = some (.cells #[.int .i64 ((rd_T41 l0 (ji6)).f0), .int .i64 ((rd_T41 l0 (ji6)).f1)] 41 (0, 0))) := ⟨(by rw [hw]; exact (by refine bU ?_; refine blk_put (cs := #[.int .i64 ((rd_T41 l0 (ji6)).f0), .int .i64 0]) ?_ 1 _ rfl; refine bU ?_; refine blk_put (cs := #[.int .i64 0, .int .i64 0]) ?_ 0 _ rfl; refine bU ?_; exact BK235.out))⟩; replace HB : Aside0 (Below w.heap.size w w14) := ⟨(by rw [hw]; exact (lV1 GE235))⟩; clear hw; have p236 : 0 ≤ (x5_1 : Int) := of_decide_eq_true hE; have q236 : x5_1 < (l0.length : Int) := of_decide_eq_true hE; obtain ⟨ad236, e236, hx236_0, hx236_1⟩ := at_T41 HR0.out x5_1 p236 q236; obtain rfl : ad232 = ad236 := (by injection e236); replace hx236_0 := (HB.out.cell (World.block_lt_of_cell? w _ hx236_0)).trans hx236_0; replace hx236_1 := (HB.out.cell (World.block_lt_of_cell? w _ hx236_1)).trans hx236_1; replace p236 := eq_true p236; replace q236 := eq_true q236) | ((with_reducible refine gate_dst (N := 7) rfl ?_); refine box_event rfl (N := 7) rfl (cs := #[.int .i64 0, .int .i64 0]) (t := 41) sE ?_; intro gb237 hg w15 hbox hb; have BK237 := Aside0.mk hbox; have GW237 := gS w hg (lV1 GE235); have GE237 := gS w hg (lV1 GE235); replace HB := bH (lV1 GE235) hb; have NB235_237 := nL hg (bV BK235); have NB237_235 := nG hg (bV BK235); replace BK235 := bB (bV BK235) hb; clear hb hbox hg; have hnb16 := NB237_235.out; have hnc16 := NB235_237.out; have hcz17_0 := cz BK237 0 (.int .i64 0); have hcz17_1 := cz BK237 1 (.int .i64 0); have hfz17_0 := fz BK237 0; have hfz17_1 := fz BK237 1) | ((with_reducible refine gate_store (t := 41) (p := 7) rfl ?_); (try (rw [drewN_self w15]; generalize hq_ : World.drewN w15 _ = w15; replace BK235 := Aside0.mk (blk_at hq_ BK235.out); replace BK237 := Aside0.mk (blk_at hq_ BK237.out); replace HB := Aside0.mk (below_at hq_ HB.out); clear hq_)); refine store_event (t := 41) (p := 7) (v := ?vo_w18) (w1 := ((w15.setCell ⟨gb237, 0, none⟩ (.int .i64 ((rd_T41 l0 x5_1).f0))).setCell ⟨gb237, 1, none⟩ (.int .i64 ((rd_T41 l0 x5_1).f1)))) ?hg ?ho ?hn ?hr ?_; (case ho => rfl); (case hg => rfl); (case hn => rfl); (case hr => first | (go_simp; done) | (go_simp; rfl) | (have hq0_ := (blk_cell BK237.out 0).trans (show _ = some _ from rfl); have hf0_ := blk_frozen BK237.out 0; have hq1_ := (blk_cell BK237.out 1).trans (show _ = some _ from rfl); have hf1_ := blk_frozen BK237.out 1; first | (go_simp; done) | (go_simp; rfl))); intro w18 hw; replace BK235 : Aside0 (w18.heap[gb235]? = some (.cells #[.int .i64 ((rd_T41 l0 (ji6)).f0), .int .i64 ((rd_T41 l0 (ji6)).f1)] 41 (0, 0))) := ⟨(by rw [hw]; exact (bG NB235_237 BK235))⟩; replace BK237 : Aside0 (w18.heap[gb237]? = some (.cells #[.int .i64 ((rd_T41 l0 x5_1).f0), .int .i64 ((rd_T41 l0 x5_1).f1)] 41 (0, 0))) := ⟨(by rw [hw]; exact (by refine bU ?_; refine blk_put (cs := #[.int .i64 ((rd_T41 l0 x5_1).f0), .int .i64 0]) ?_ 1 _ rfl; refine bU ?_; refine blk_put (cs := #[.int .i64 0, .int .i64 0]) ?_ 0 _ rfl; refine bU ?_; exact BK237.out))⟩; replace HB : Aside0 (Below w.heap.size w w18) := ⟨(by rw [hw]; exact (lV2 GE235 GE237))⟩; clear hw; have hcz19_0 := cz BK237 0 (.int .i64 ((rd_T41 l0 x5_1).f0)); have hcz19_1 := cz BK237 1 (.int .i64 ((rd_T41 l0 x5_1).f1)); have hfz19_0 := fz BK237 0; have hfz19_1 := fz BK237 1; have hcz20_0 := cz BK235 0 (.int .i64 ((rd_T41 l0 (ji6)).f0)); have hcz20_1 := cz BK235 1 (.int .i64 ((rd_T41 l0 (ji6)).f1)); have hfz20_0 := fz BK235 0; have hfz20_1 := fz BK235 1) | (go_at_call 42; (with_reducible refine (spec_l1Down.calls (wrap64 ((wrap64 (((rd_T41 l0 x5_1).f1) - ((rd_T41 l0 (ji6)).f1))) * (wrap64 (a1 - ((rd_T41 l0 (ji6)).f0))))) (wrap64 (((rd_T41 l0 x5_1).f0) - ((rd_T41 l0 (ji6)).f0))) t238 _ A11.out).mono ?_); rintro e w' ⟨rfl, ⟨nd, rfl⟩⟩; (try first | exact ⟨rfl, _, World.drewN_drewN _ _ _⟩ | exact ⟨rfl, _, Eq.trans (World.drewN_drewN _ _ _) (congrArg (World.drewN _) (Nat.add_assoc _ _ _))⟩)))
          repeat (go_quiet (first | ((with_reducible refine gate_dst (N := 6) rfl ?_); refine box_event rfl (N := 6) rfl (cs := #[.int .i64 0, .int .i64 0]) (t := 41) sE ?_; intro gb235 hg w12 hbox hb; have BK235 := Aside0.mk hbox; have GW235 := gS w hg (lU); have GE235 := gS w hg (lU); replace HB := bH (lU) hb; clear hb hbox hg; have hcz13_0 := cz BK235 0 (.int .i64 0); have hcz13_1 := cz BK235 1 (.int .i64 0); have hfz13_0 := fz BK235 0; have hfz13_1 := fz BK235 1) | ((with_reducible refine gate_store (t := 41) (p := 6) rfl ?_); (try (rw [drewN_self w12]; generalize hq_ : World.drewN w12 _ = w12; replace BK235 := Aside0.mk (blk_at hq_ BK235.out); replace HB := Aside0.mk (below_at hq_ HB.out); clear hq_)); refine store_event (t := 41) (p := 6) (v := ?vo_w14) (w1 := ((w12.setCell ⟨gb235, 0, none⟩ (.int .i64 ((rd_T41 l0 (ji6)).f0))).setCell ⟨gb235, 1, none⟩ (.int .i64 ((rd_T41 l0 (ji6)).f1)))) ?hg ?ho ?hn ?hr ?_; (case ho => rfl); (case hg => rfl); (case hn => rfl); (case hr => first | (go_simp; done) | (go_simp; rfl) | (have hq0_ := (blk_cell BK235.out 0).trans (show _ = some _ from rfl); have hf0_ := blk_frozen BK235.out 0; have hq1_ := (blk_cell BK235.out 1).trans (show _ = some _ from rfl); have hf1_ := blk_frozen BK235.out 1; first | (go_simp; done) | (go_simp; rfl))); intro w14 hw; replace BK235 : Aside0 (w14.heap[gb235]? = some (.cells #[.int .i64 ((rd_T41 l0 (ji6)).f0), .int .i64 ((rd_T41 l0 (ji6)).f1)] 41 (0, 0))) := ⟨(by rw [hw]; exact (by refine bU ?_; refine blk_put (cs := #[.int .i64 ((rd_T41 l0 (ji6)).f0), .int .i64 0]) ?_ 1 _ rfl; refine bU ?_; refine blk_put (cs := #[.int .i64 0, .int .i64 0]) ?_ 0 _ rfl; refine bU ?_; exact BK235.out))⟩; replace HB : Aside0 (Below w.heap.size w w14) := ⟨(by rw [hw]; exact (lV1 GE235))⟩; clear hw; have p236 : 0 ≤ (x5_1 : Int) := of_decide_eq_true hE; have q236 : x5_1 < (l0.length : Int) := of_decide_eq_true hE; obtain ⟨ad236, e236, hx236_0, hx236_1⟩ := at_T41 HR0.out x5_1 p236 q236; obtain rfl : ad232 = ad236 := (by injection e236); replace hx236_0 := (HB.out.cell (World.block_lt_of_cell? w _ hx236_0)).trans hx236_0; replace hx236_1 := (HB.out.cell (World.block_lt_of_cell? w _ hx236_1)).trans hx236_1; replace p236 := eq_true p236; replace q236 := eq_true q236) | ((with_reducible refine gate_dst (N := 7) rfl ?_); refine box_event rfl (N := 7) rfl (cs := #[.int .i64 0, .int .i64 0]) (t := 41) sE ?_; intro gb237 hg w15 hbox hb; have BK237 := Aside0.mk hbox; have GW237 := gS w hg (lV1 GE235); have GE237 := gS w hg (lV1 GE235); replace HB := bH (lV1 GE235) hb; have NB235_237 := nL hg (bV BK235); have NB237_235 := nG hg (bV BK235); replace BK235 := bB (bV BK235) hb; clear hb hbox hg; have hnb16 := NB237_235.out; have hnc16 := NB235_237.out; have hcz17_0 := cz BK237 0 (.int .i64 0); have hcz17_1 := cz BK237 1 (.int .i64 0); have hfz17_0 := fz BK237 0; have hfz17_1 := fz BK237 1) | ((with_reducible refine gate_store (t := 41) (p := 7) rfl ?_); (try (rw [drewN_self w15]; generalize hq_ : World.drewN w15 _ = w15; replace BK235 := Aside0.mk (blk_at hq_ BK235.out); replace BK237 := Aside0.mk (blk_at hq_ BK237.out); replace HB := Aside0.mk (below_at hq_ HB.out); clear hq_)); refine store_event (t := 41) (p := 7) (v := ?vo_w18) (w1 := ((w15.setCell ⟨gb237, 0, none⟩ (.int .i64 ((rd_T41 l0 x5_1).f0))).setCell ⟨gb237, 1, none⟩ (.int .i64 ((rd_T41 l0 x5_1).f1)))) ?hg ?ho ?hn ?hr ?_; (case ho => rfl); (case hg => rfl); (case hn => rfl); (case hr => first | (go_simp; done) | (go_simp; rfl) | (have hq0_ := (blk_cell BK237.out 0).trans (show _ = some _ from rfl); have hf0_ := blk_frozen BK237.out 0; have hq1_ := (blk_cell BK237.out 1).trans (show _ = some _ from rfl); have hf1_ := blk_frozen BK237.out 1; first | (go_simp; done) | (go_simp; rfl))); intro w18 hw; replace BK235 : Aside0 (w18.heap[gb235]? = some (.cells #[.int .i64 ((rd_T41 l0 (ji6)).f0), .int .i64 ((rd_T41 l0 (ji6)).f1)] 41 (0, 0))) := ⟨(by rw [hw]; exact (bG NB235_237 BK235))⟩; replace BK237 : Aside0 (w18.heap[gb237]? = some (.cells #[.int .i64 ((rd_T41 l0 x5_1).f0), .int .i64 ((rd_T41 l0 x5_1).f1)] 41 (0, 0))) := ⟨(by rw [hw]; exact (by refine bU ?_; refine blk_put (cs := #[.int .i64 ((rd_T41 l0 x5_1).f0), .int .i64 0]) ?_ 1 _ rfl; refine bU ?_; refine blk_put (cs := #[.int .i64 0, .int .i64 0]) ?_ 0 _ rfl; refine bU ?_; exact BK237.out))⟩; replace HB : Aside0 (Below w.heap.size w w18) := ⟨(by rw [hw]; exact (lV2 GE235 GE237))⟩; clear hw; have hcz19_0 := cz BK237 0 (.int .i64 ((rd_T41 l0 x5_1).f0)); have hcz19_1 := cz BK237 1 (.int .i64 ((rd_T41 l0 x5_1).f1)); have hfz19_0 := fz BK237 0; have hfz19_1 := fz BK237 1; have hcz20_0 := cz BK235 0 (.int .i64 ((rd_T41 l0 (ji6)).f0)); have hcz20_1 := cz BK235 1 (.int .i64 ((rd_T41 l0 (ji6)).f1)); have hfz20_0 := fz BK235 0; have hfz20_1 := fz BK235 1) | (go_at_call 42; (with_reducible refine (spec_l1Down.calls (wrap64 ((wrap64 (((rd_T41 l0 x5_1).f1) - ((rd_T41 l0 (ji6)).f1))) * (wrap64 (a1 - ((rd_T41 l0 (ji6)).f0))))) (wrap64 (((rd_T41 l0 x5_1).f0) - ((rd_T41 l0 (ji6)).f0))) t238 _ A11.out).mono ?_); rintro e w' ⟨rfl, ⟨nd, rfl⟩⟩; (try first | exact ⟨rfl, _, World.drewN_drewN _ _ _⟩ | exact ⟨rfl, _, Eq.trans (World.drewN_drewN _ _ _) (congrArg (World.drewN _) (Nat.add_assoc _ _ _))⟩))); try go_wp2_with (first | ((with_reducible refine gate_dst (N := 6) rfl ?_); refine box_event rfl (N := 6) rfl (cs := #[.int .i64 0, .int .i64 0]) (t := 41) sE ?_; intro gb235 hg w12 hbox hb; have BK235 := Aside0.mk hbox; have GW235 := gS w hg (lU); have GE235 := gS w hg (lU); replace HB := bH (lU) hb; clear hb hbox hg; have hcz13_0 := cz BK235 0 (.int .i64 0); have hcz13_1 := cz BK235 1 (.int .i64 0); have hfz13_0 := fz BK235 0; have hfz13_1 := fz BK235 1) | ((with_reducible refine gate_store (t := 41) (p := 6) rfl ?_); (try (rw [drewN_self w12]; generalize hq_ : World.drewN w12 _ = w12; replace BK235 := Aside0.mk (blk_at hq_ BK235.out); replace HB := Aside0.mk (below_at hq_ HB.out); clear hq_)); refine store_event (t := 41) (p := 6) (v := ?vo_w14) (w1 := ((w12.setCell ⟨gb235, 0, none⟩ (.int .i64 ((rd_T41 l0 (ji6)).f0))).setCell ⟨gb235, 1, none⟩ (.int .i64 ((rd_T41 l0 (ji6)).f1)))) ?hg ?ho ?hn ?hr ?_; (case ho => rfl); (case hg => rfl); (case hn => rfl); (case hr => first | (go_simp; done) | (go_simp; rfl) | (have hq0_ := (blk_cell BK235.out 0).trans (show _ = some _ from rfl); have hf0_ := blk_frozen BK235.out 0; have hq1_ := (blk_cell BK235.out 1).trans (show _ = some _ from rfl); have hf1_ := blk_frozen BK235.out 1; first | (go_simp; done) | (go_simp; rfl))); intro w14 hw; replace BK235 : Aside0 (w14.heap[gb235]? = some (.cells #[.int .i64 ((rd_T41 l0 (ji6)).f0), .int .i64 ((rd_T41 l0 (ji6)).f1)] 41 (0, 0))) := ⟨(by rw [hw]; exact (by refine bU ?_; refine blk_put (cs := #[.int .i64 ((rd_T41 l0 (ji6)).f0), .int .i64 0]) ?_ 1 _ rfl; refine bU ?_; refine blk_put (cs := #[.int .i64 0, .int .i64 0]) ?_ 0 _ rfl; refine bU ?_; exact BK235.out))⟩; replace HB : Aside0 (Below w.heap.size w w14) := ⟨(by rw [hw]; exact (lV1 GE235))⟩; clear hw; have p236 : 0 ≤ (x5_1 : Int) := of_decide_eq_true hE; have q236 : x5_1 < (l0.length : Int) := of_decide_eq_true hE; obtain ⟨ad236, e236, hx236_0, hx236_1⟩ := at_T41 HR0.out x5_1 p236 q236; obtain rfl : ad232 = ad236 := (by injection e236); replace hx236_0 := (HB.out.cell (World.block_lt_of_cell? w _ hx236_0)).trans hx236_0; replace hx236_1 := (HB.out.cell (World.block_lt_of_cell? w _ hx236_1)).trans hx236_1; replace p236 := eq_true p236; replace q236 := eq_true q236) | ((with_reducible refine gate_dst (N := 7) rfl ?_); refine box_event rfl (N := 7) rfl (cs := #[.int .i64 0, .int .i64 0]) (t := 41) sE ?_; intro gb237 hg w15 hbox hb; have BK237 := Aside0.mk hbox; have GW237 := gS w hg (lV1 GE235); have GE237 := gS w hg (lV1 GE235); replace HB := bH (lV1 GE235) hb; have NB235_237 := nL hg (bV BK235); have NB237_235 := nG hg (bV BK235); replace BK235 := bB (bV BK235) hb; clear hb hbox hg; have hnb16 := NB237_235.out; have hnc16 := NB235_237.out; have hcz17_0 := cz BK237 0 (.int .i64 0); have hcz17_1 := cz BK237 1 (.int .i64 0); have hfz17_0 := fz BK237 0; have hfz17_1 := fz BK237 1) | ((with_reducible refine gate_store (t := 41) (p := 7) rfl ?_); (try (rw [drewN_self w15]; generalize hq_ : World.drewN w15 _ = w15; replace BK235 := Aside0.mk (blk_at hq_ BK235.out); replace BK237 := Aside0.mk (blk_at hq_ BK237.out); replace HB := Aside0.mk (below_at hq_ HB.out); clear hq_)); refine store_event (t := 41) (p := 7) (v := ?vo_w18) (w1 := ((w15.setCell ⟨gb237, 0, none⟩ (.int .i64 ((rd_T41 l0 x5_1).f0))).setCell ⟨gb237, 1, none⟩ (.int .i64 ((rd_T41 l0 x5_1).f1)))) ?hg ?ho ?hn ?hr ?_; (case ho => rfl); (case hg => rfl); (case hn => rfl); (case hr => first | (go_simp; done) | (go_simp; rfl) | (have hq0_ := (blk_cell BK237.out 0).trans (show _ = some _ from rfl); have hf0_ := blk_frozen BK237.out 0; have hq1_ := (blk_cell BK237.out 1).trans (show _ = some _ from rfl); have hf1_ := blk_frozen BK237.out 1; first | (go_simp; done) | (go_simp; rfl))); intro w18 hw; replace BK235 : Aside0 (w18.heap[gb235]? = some (.cells #[.int .i64 ((rd_T41 l0 (ji6)).f0), .int .i64 ((rd_T41 l0 (ji6)).f1)] 41 (0, 0))) := ⟨(by rw [hw]; exact (bG NB235_237 BK235))⟩; replace BK237 : Aside0 (w18.heap[gb237]? = some (.cells #[.int .i64 ((rd_T41 l0 x5_1).f0), .int .i64 ((rd_T41 l0 x5_1).f1)] 41 (0, 0))) := ⟨(by rw [hw]; exact (by refine bU ?_; refine blk_put (cs := #[.int .i64 ((rd_T41 l0 x5_1).f0), .int .i64 0]) ?_ 1 _ rfl; refine bU ?_; refine blk_put (cs := #[.int .i64 0, .int .i64 0]) ?_ 0 _ rfl; refine bU ?_; exact BK237.out))⟩; replace HB : Aside0 (Below w.heap.size w w18) := ⟨(by rw [hw]; exact (lV2 GE235 GE237))⟩; clear hw; have hcz19_0 := cz BK237 0 (.int .i64 ((rd_T41 l0 x5_1).f0)); have hcz19_1 := cz BK237 1 (.int .i64 ((rd_T41 l0 x5_1).f1)); have hfz19_0 := fz BK237 0; have hfz19_1 := fz BK237 1; have hcz20_0 := cz BK235 0 (.int .i64 ((rd_T41 l0 (ji6)).f0)); have hcz20_1 := cz BK235 1 (.int .i64 ((rd_T41 l0 (ji6)).f1)); have hfz20_0 := fz BK235 0; have hfz20_1 := fz BK235 1) | (go_at_call 42; (with_reducible refine (spec_l1Down.calls (wrap64 ((wrap64 (((rd_T41 l0 x5_1).f1) - ((rd_T41 l0 (ji6)).f1))) * (wrap64 (a1 - ((rd_T41 l0 (ji6)).f0))))) (wrap64 (((rd_T41 l0 x5_1).f0) - ((rd_T41 l0 (ji6)).f0))) t238 _ A11.out).mono ?_); rintro e w' ⟨rfl, ⟨nd, rfl⟩⟩; (try first | exact ⟨rfl, _, World.drewN_drewN _ _ _⟩ | exact ⟨rfl, _, Eq.trans (World.drewN_drewN _ _ _) (congrArg (World.drewN _) (Nat.add_assoc _ _ _))⟩))))
          go_ret
          exact ⟨by first | rfl | (simp [errW_none, errW_some] <;> rfl) | (simp only [← hji6]; first | rfl | (simp [errW_none, errW_some] <;> rfl)) | (simp [*, errW_none, errW_some] <;> rfl), lV2 GE235 GE237⟩
         ·rw [if_neg c10] at H
          have c10b0 : decide (a1 ≤ ((rd_T41 l0 x5_1).f0)) = false := decide_eq_false c10
          clear c10
          have H' := Aside0.mk H
          clear H
          have p234 : 0 ≤ ((ji6) : Int) := of_decide_eq_true hE
          have q234 : (ji6) < (l0.length : Int) := of_decide_eq_true hE
          obtain ⟨ad234, e234, hx234_0, hx234_1⟩ := at_T41 HR0.out (ji6) p234 q234
          obtain rfl : ad232 = ad234 := (by injection e234)
          replace hx234_0 := (HB.out.cell (World.block_lt_of_cell? w _ hx234_0)).trans hx234_0
          replace hx234_1 := (HB.out.cell (World.block_lt_of_cell? w _ hx234_1)).trans hx234_1
          replace p234 := eq_true p234
          replace q234 := eq_true q234
          go_wp2_with (first | ((with_reducible refine gate_dst (N := 6) rfl ?_); refine box_event rfl (N := 6) rfl (cs := #[.int .i64 0, .int .i64 0]) (t := 41) sE ?_; intro gb235 hg w21 hbox hb; have BK235 := Aside0.mk hbox; have GW235 := gS w hg (lU); have GE235 := gS w hg (lU); replace HB := bH (lU) hb; clear hb hbox hg; have hcz22_0 := cz BK235 0 (.int .i64 0); have hcz22_1 := cz BK235 1 (.int .i64 0); have hfz22_0 := fz BK235 0; have hfz22_1 := fz BK235 1) | ((with_reducible refine gate_store (t := 41) (p := 6) rfl ?_); (try (rw [drewN_self w21]; generalize hq_ : World.drewN w21 _ = w21; replace BK235 := Aside0.mk (blk_at hq_ BK235.out); replace HB := Aside0.mk (below_at hq_ HB.out); clear hq_)); refine store_event (t := 41) (p := 6) (v := ?vo_w23) (w1 := ((w21.setCell ⟨gb235, 0, none⟩ (.int .i64 ((rd_T41 l0 (ji6)).f0))).setCell ⟨gb235, 1, none⟩ (.int .i64 ((rd_T41 l0 (ji6)).f1)))) ?hg ?ho ?hn ?hr ?_; (case ho => rfl); (case hg => rfl); (case hn => rfl); (case hr => first | (go_simp; done) | (go_simp; rfl) | (have hq0_ := (blk_cell BK235.out 0).trans (show _ = some _ from rfl); have hf0_ := blk_frozen BK235.out 0; have hq1_ := (blk_cell BK235.out 1).trans (show _ = some _ from rfl); have hf1_ := blk_frozen BK235.out 1; first | (go_simp; done) | (go_simp; rfl))); intro w23 hw; replace BK235 : Aside0 (w23.heap[gb235]? = some (.cells #[.int .i64 ((rd_T41 l0 (ji6)).f0), .int .i64 ((rd_T41 l0 (ji6)).f1)] 41 (0, 0))) := ⟨(by rw [hw]; exact (by refine bU ?_; refine blk_put (cs := #[.int .i64 ((rd_T41 l0 (ji6)).f0), .int .i64 0]) ?_ 1 _ rfl; refine bU ?_; refine blk_put (cs := #[.int .i64 0, .int .i64 0]) ?_ 0 _ rfl; refine bU ?_; exact BK235.out))⟩; replace HB : Aside0 (Below w.heap.size w w23) := ⟨(by rw [hw]; exact (lV1 GE235))⟩; clear hw; have p236 : 0 ≤ (x5_1 : Int) := of_decide_eq_true hE; have q236 : x5_1 < (l0.length : Int) := of_decide_eq_true hE; obtain ⟨ad236, e236, hx236_0, hx236_1⟩ := at_T41 HR0.out x5_1 p236 q236; obtain rfl : ad232 = ad236 := (by injection e236); replace hx236_0 := (HB.out.cell (World.block_lt_of_cell? w _ hx236_0)).trans hx236_0; replace hx236_1 := (HB.out.cell (World.block_lt_of_cell? w _ hx236_1)).trans hx236_1; replace p236 := eq_true p236; replace q236 := eq_true q236) | ((with_reducible refine gate_dst (N := 7) rfl ?_); refine box_event rfl (N := 7) rfl (cs := #[.int .i64 0, .int .i64 0]) (t := 41) sE ?_; intro gb237 hg w24 hbox hb; have BK237 := Aside0.mk hbox; have GW237 := gS w hg (lV1 GE235); have GE237 := gS w hg (lV1 GE235); replace HB := bH (lV1 GE235) hb; have NB235_237 := nL hg (bV BK235); have NB237_235 := nG hg (bV BK235); replace BK235 := bB (bV BK235) hb; clear hb hbox hg; have hnb25 := NB237_235.out; have hnc25 := NB235_237.out; have hcz26_0 := cz BK237 0 (.int .i64 0); have hcz26_1 := cz BK237 1 (.int .i64 0); have hfz26_0 := fz BK237 0; have hfz26_1 := fz BK237 1) | ((with_reducible refine gate_store (t := 41) (p := 7) rfl ?_); (try (rw [drewN_self w24]; generalize hq_ : World.drewN w24 _ = w24; replace BK235 := Aside0.mk (blk_at hq_ BK235.out); replace BK237 := Aside0.mk (blk_at hq_ BK237.out); replace HB := Aside0.mk (below_at hq_ HB.out); clear hq_)); refine store_event (t := 41) (p := 7) (v := ?vo_w27) (w1 := ((w24.setCell ⟨gb237, 0, none⟩ (.int .i64 ((rd_T41 l0 x5_1).f0))).setCell ⟨gb237, 1, none⟩ (.int .i64 ((rd_T41 l0 x5_1).f1)))) ?hg ?ho ?hn ?hr ?_; (case ho => rfl); (case hg => rfl); (case hn => rfl); (case hr => first | (go_simp; done) | (go_simp; rfl) | (have hq0_ := (blk_cell BK237.out 0).trans (show _ = some _ from rfl); have hf0_ := blk_frozen BK237.out 0; have hq1_ := (blk_cell BK237.out 1).trans (show _ = some _ from rfl); have hf1_ := blk_frozen BK237.out 1; first | (go_simp; done) | (go_simp; rfl))); intro w27 hw; replace BK235 : Aside0 (w27.heap[gb235]? = some (.cells #[.int .i64 ((rd_T41 l0 (ji6)).f0), .int .i64 ((rd_T41 l0 (ji6)).f1)] 41 (0, 0))) := ⟨(by rw [hw]; exact (bG NB235_237 BK235))⟩; replace BK237 : Aside0 (w27.heap[gb237]? = some (.cells #[.int .i64 ((rd_T41 l0 x5_1).f0), .int .i64 ((rd_T41 l0 x5_1).f1)] 41 (0, 0))) := ⟨(by rw [hw]; exact (by refine bU ?_; refine blk_put (cs := #[.int .i64 ((rd_T41 l0 x5_1).f0), .int .i64 0]) ?_ 1 _ rfl; refine bU ?_; refine blk_put (cs := #[.int .i64 0, .int .i64 0]) ?_ 0 _ rfl; refine bU ?_; exact BK237.out))⟩; replace HB : Aside0 (Below w.heap.size w w27) := ⟨(by rw [hw]; exact (lV2 GE235 GE237))⟩; clear hw; have hcz28_0 := cz BK237 0 (.int .i64 ((rd_T41 l0 x5_1).f0)); have hcz28_1 := cz BK237 1 (.int .i64 ((rd_T41 l0 x5_1).f1)); have hfz28_0 := fz BK237 0; have hfz28_1 := fz BK237 1))
          repeat (go_quiet (first | ((with_reducible refine gate_dst (N := 6) rfl ?_); refine box_event rfl (N := 6) rfl (cs := #[.int .i64 0, .int .i64 0]) (t := 41) sE ?_; intro gb235 hg w21 hbox hb; have BK235 := Aside0.mk hbox; have GW235 := gS w hg (lU); have GE235 := gS w hg (lU); replace HB := bH (lU) hb; clear hb hbox hg; have hcz22_0 := cz BK235 0 (.int .i64 0); have hcz22_1 := cz BK235 1 (.int .i64 0); have hfz22_0 := fz BK235 0; have hfz22_1 := fz BK235 1) | ((with_reducible refine gate_store (t := 41) (p := 6) rfl ?_); (try (rw [drewN_self w21]; generalize hq_ : World.drewN w21 _ = w21; replace BK235 := Aside0.mk (blk_at hq_ BK235.out); replace HB := Aside0.mk (below_at hq_ HB.out); clear hq_)); refine store_event (t := 41) (p := 6) (v := ?vo_w23) (w1 := ((w21.setCell ⟨gb235, 0, none⟩ (.int .i64 ((rd_T41 l0 (ji6)).f0))).setCell ⟨gb235, 1, none⟩ (.int .i64 ((rd_T41 l0 (ji6)).f1)))) ?hg ?ho ?hn ?hr ?_; (case ho => rfl); (case hg => rfl); (case hn => rfl); (case hr => first | (go_simp; done) | (go_simp; rfl) | (have hq0_ := (blk_cell BK235.out 0).trans (show _ = some _ from rfl); have hf0_ := blk_frozen BK235.out 0; have hq1_ := (blk_cell BK235.out 1).trans (show _ = some _ from rfl); have hf1_ := blk_frozen BK235.out 1; first | (go_simp; done) | (go_simp; rfl))); intro w23 hw; replace BK235 : Aside0 (w23.heap[gb235]? = some (.cells #[.int .i64 ((rd_T41 l0 (ji6)).f0), .int .i64 ((rd_T41 l0 (ji6)).f1)] 41 (0, 0))) := ⟨(by rw [hw]; exact (by refine bU ?_; refine blk_put (cs := #[.int .i64 ((rd_T41 l0 (ji6)).f0), .int .i64 0]) ?_ 1 _ rfl; refine bU ?_; refine blk_put (cs := #[.int .i64 0, .int .i64 0]) ?_ 0 _ rfl; refine bU ?_; exact BK235.out))⟩; replace HB : Aside0 (Below w.heap.size w w23) := ⟨(by rw [hw]; exact (lV1 GE235))⟩; clear hw; have p236 : 0 ≤ (x5_1 : Int) := of_decide_eq_true hE; have q236 : x5_1 < (l0.length : Int) := of_decide_eq_true hE; obtain ⟨ad236, e236, hx236_0, hx236_1⟩ := at_T41 HR0.out x5_1 p236 q236; obtain rfl : ad232 = ad236 := (by injection e236); replace hx236_0 := (HB.out.cell (World.block_lt_of_cell? w _ hx236_0)).trans hx236_0; replace hx236_1 := (HB.out.cell (World.block_lt_of_cell? w _ hx236_1)).trans hx236_1; replace p236 := eq_true p236; replace q236 := eq_true q236) | ((with_reducible refine gate_dst (N := 7) rfl ?_); refine box_event rfl (N := 7) rfl (cs := #[.int .i64 0, .int .i64 0]) (t := 41) sE ?_; intro gb237 hg w24 hbox hb; have BK237 := Aside0.mk hbox; have GW237 := gS w hg (lV1 GE235); have GE237 := gS w hg (lV1 GE235); replace HB := bH (lV1 GE235) hb; have NB235_237 := nL hg (bV BK235); have NB237_235 := nG hg (bV BK235); replace BK235 := bB (bV BK235) hb; clear hb hbox hg; have hnb25 := NB237_235.out; have hnc25 := NB235_237.out; have hcz26_0 := cz BK237 0 (.int .i64 0); have hcz26_1 := cz BK237 1 (.int .i64 0); have hfz26_0 := fz BK237 0; have hfz26_1 := fz BK237 1) | ((with_reducible refine gate_store (t := 41) (p := 7) rfl ?_); (try (rw [drewN_self w24]; generalize hq_ : World.drewN w24 _ = w24; replace BK235 := Aside0.mk (blk_at hq_ BK235.out); replace BK237 := Aside0.mk (blk_at hq_ BK237.out); replace HB := Aside0.mk (below_at hq_ HB.out); clear hq_)); refine store_event (t := 41) (p := 7) (v := ?vo_w27) (w1 := ((w24.setCell ⟨gb237, 0, none⟩ (.int .i64 ((rd_T41 l0 x5_1).f0))).setCell ⟨gb237, 1, none⟩ (.int .i64 ((rd_T41 l0 x5_1).f1)))) ?hg ?ho ?hn ?hr ?_; (case ho => rfl); (case hg => rfl); (case hn => rfl); (case hr => first | (go_simp; done) | (go_simp; rfl) | (have hq0_ := (blk_cell BK237.out 0).trans (show _ = some _ from rfl); have hf0_ := blk_frozen BK237.out 0; have hq1_ := (blk_cell BK237.out 1).trans (show _ = some _ from rfl); have hf1_ := blk_frozen BK237.out 1; first | (go_simp; done) | (go_simp; rfl))); intro w27 hw; replace BK235 : Aside0 (w27.heap[gb235]? = some (.cells #[.int .i64 ((rd_T41 l0 (ji6)).f0), .int .i64 ((rd_T41 l0 (ji6)).f1)] 41 (0, 0))) := ⟨(by rw [hw]; exact (bG NB235_237 BK235))⟩; replace BK237 : Aside0 (w27.heap[gb237]? = some (.cells #[.int .i64 ((rd_T41 l0 x5_1).f0), .int .i64 ((rd_T41 l0 x5_1).f1)] 41 (0, 0))) := ⟨(by rw [hw]; exact (by refine bU ?_; refine blk_put (cs := #[.int .i64 ((rd_T41 l0 x5_1).f0), .int .i64 0]) ?_ 1 _ rfl; refine bU ?_; refine blk_put (cs := #[.int .i64 0, .int .i64 0]) ?_ 0 _ rfl; refine bU ?_; exact BK237.out))⟩; replace HB : Aside0 (Below w.heap.size w w27) := ⟨(by rw [hw]; exact (lV2 GE235 GE237))⟩; clear hw; have hcz28_0 := cz BK237 0 (.int .i64 ((rd_T41 l0 x5_1).f0)); have hcz28_1 := cz BK237 1 (.int .i64 ((rd_T41 l0 x5_1).f1)); have hfz28_0 := fz BK237 0; have hfz28_1 := fz BK237 1)); try go_wp2_with (first | ((with_reducible refine gate_dst (N := 6) rfl ?_); refine box_event rfl (N := 6) rfl (cs := #[.int .i64 0, .int .i64 0]) (t := 41) sE ?_; intro gb235 hg w21 hbox hb; have BK235 := Aside0.mk hbox; have GW235 := gS w hg (lU); have GE235 := gS w hg (lU); replace HB := bH (lU) hb; clear hb hbox hg; have hcz22_0 := cz BK235 0 (.int .i64 0); have hcz22_1 := cz BK235 1 (.int .i64 0); have hfz22_0 := fz BK235 0; have hfz22_1 := fz BK235 1) | ((with_reducible refine gate_store (t := 41) (p := 6) rfl ?_); (try (rw [drewN_self w21]; generalize hq_ : World.drewN w21 _ = w21; replace BK235 := Aside0.mk (blk_at hq_ BK235.out); replace HB := Aside0.mk (below_at hq_ HB.out); clear hq_)); refine store_event (t := 41) (p := 6) (v := ?vo_w23) (w1 := ((w21.setCell ⟨gb235, 0, none⟩ (.int .i64 ((rd_T41 l0 (ji6)).f0))).setCell ⟨gb235, 1, none⟩ (.int .i64 ((rd_T41 l0 (ji6)).f1)))) ?hg ?ho ?hn ?hr ?_; (case ho => rfl); (case hg => rfl); (case hn => rfl); (case hr => first | (go_simp; done) | (go_simp; rfl) | (have hq0_ := (blk_cell BK235.out 0).trans (show _ = some _ from rfl); have hf0_ := blk_frozen BK235.out 0; have hq1_ := (blk_cell BK235.out 1).trans (show _ = some _ from rfl); have hf1_ := blk_frozen BK235.out 1; first | (go_simp; done) | (go_simp; rfl))); intro w23 hw; replace BK235 : Aside0 (w23.heap[gb235]? = some (.cells #[.int .i64 ((rd_T41 l0 (ji6)).f0), .int .i64 ((rd_T41 l0 (ji6)).f1)] 41 (0, 0))) := ⟨(by rw [hw]; exact (by refine bU ?_; refine blk_put (cs := #[.int .i64 ((rd_T41 l0 (ji6)).f0), .int .i64 0]) ?_ 1 _ rfl; refine bU ?_; refine blk_put (cs := #[.int .i64 0, .int .i64 0]) ?_ 0 _ rfl; refine bU ?_; exact BK235.out))⟩; replace HB : Aside0 (Below w.heap.size w w23) := ⟨(by rw [hw]; exact (lV1 GE235))⟩; clear hw; have p236 : 0 ≤ (x5_1 : Int) := of_decide_eq_true hE; have q236 : x5_1 < (l0.length : Int) := of_decide_eq_true hE; obtain ⟨ad236, e236, hx236_0, hx236_1⟩ := at_T41 HR0.out x5_1 p236 q236; obtain rfl : ad232 = ad236 := (by injection e236); replace hx236_0 := (HB.out.cell (World.block_lt_of_cell? w _ hx236_0)).trans hx236_0; replace hx236_1 := (HB.out.cell (World.block_lt_of_cell? w _ hx236_1)).trans hx236_1; replace p236 := eq_true p236; replace q236 := eq_true q236) | ((with_reducible refine gate_dst (N := 7) rfl ?_); refine box_event rfl (N := 7) rfl (cs := #[.int .i64 0, .int .i64 0]) (t := 41) sE ?_; intro gb237 hg w24 hbox hb; have BK237 := Aside0.mk hbox; have GW237 := gS w hg (lV1 GE235); have GE237 := gS w hg (lV1 GE235); replace HB := bH (lV1 GE235) hb; have NB235_237 := nL hg (bV BK235); have NB237_235 := nG hg (bV BK235); replace BK235 := bB (bV BK235) hb; clear hb hbox hg; have hnb25 := NB237_235.out; have hnc25 := NB235_237.out; have hcz26_0 := cz BK237 0 (.int .i64 0); have hcz26_1 := cz BK237 1 (.int .i64 0); have hfz26_0 := fz BK237 0; have hfz26_1 := fz BK237 1) | ((with_reducible refine gate_store (t := 41) (p := 7) rfl ?_); (try (rw [drewN_self w24]; generalize hq_ : World.drewN w24 _ = w24; replace BK235 := Aside0.mk (blk_at hq_ BK235.out); replace BK237 := Aside0.mk (blk_at hq_ BK237.out); replace HB := Aside0.mk (below_at hq_ HB.out); clear hq_)); refine store_event (t := 41) (p := 7) (v := ?vo_w27) (w1 := ((w24.setCell ⟨gb237, 0, none⟩ (.int .i64 ((rd_T41 l0 x5_1).f0))).setCell ⟨gb237, 1, none⟩ (.int .i64 ((rd_T41 l0 x5_1).f1)))) ?hg ?ho ?hn ?hr ?_; (case ho => rfl); (case hg => rfl); (case hn => rfl); (case hr => first | (go_simp; done) | (go_simp; rfl) | (have hq0_ := (blk_cell BK237.out 0).trans (show _ = some _ from rfl); have hf0_ := blk_frozen BK237.out 0; have hq1_ := (blk_cell BK237.out 1).trans (show _ = some _ from rfl); have hf1_ := blk_frozen BK237.out 1; first | (go_simp; done) | (go_simp; rfl))); intro w27 hw; replace BK235 : Aside0 (w27.heap[gb235]? = some (.cells #[.int .i64 ((rd_T41 l0 (ji6)).f0), .int .i64 ((rd_T41 l0 (ji6)).f1)] 41 (0, 0))) := ⟨(by rw [hw]; exact (bG NB235_237 BK235))⟩; replace BK237 : Aside0 (w27.heap[gb237]? = some (.cells #[.int .i64 ((rd_T41 l0 x5_1).f0), .int .i64 ((rd_T41 l0 x5_1).f1)] 41 (0, 0))) := ⟨(by rw [hw]; exact (by refine bU ?_; refine blk_put (cs := #[.int .i64 ((rd_T41 l0 x5_1).f0), .int .i64 0]) ?_ 1 _ rfl; refine bU ?_; refine blk_put (cs := #[.int .i64 0, .int .i64 0]) ?_ 0 _ rfl; refine bU ?_; exact BK237.out))⟩; replace HB : Aside0 (Below w.heap.size w w27) := ⟨(by rw [hw]; exact (lV2 GE235 GE237))⟩; clear hw; have hcz28_0 := cz BK237 0 (.int .i64 ((rd_T41 l0 x5_1).f0)); have hcz28_1 := cz BK237 1 (.int .i64 ((rd_T41 l0 x5_1).f1)); have hfz28_0 := fz BK237 0; have hfz28_1 := fz BK237 1)))
          go_roundg k1
          case measure => have := HK1.out; omega
          case rel => exact ⟨(wrap64 (x5_1 + 1)), tE, H', ⟨by have := HK1.out; omega⟩, ⟨by repeat (first | (with_reducible first | exact HB.out | apply below_alloc | apply pw_below_drewN | apply below_drew1 | refine below_set ?_ GE235.out | refine below_set ?_ GE237.out) | exact HB.out)⟩⟩
        ·rw [if_neg c9] at H
         exact absurd H (by simp)
       ·rw [if_neg c8] at H
        exact absurd H (by simp)
      ·rw [if_neg c7] at H
       exact absurd H (by simp)
     ·rw [if_neg c5] at H
      have c5b0 : decide (x5_1 < (l0.length : Int)) = false := decide_eq_false c5
      clear c5
      obtain ⟨ji29, hji29⟩ : ∃ j_ : Int, (wrap64 ((l0.length : Int) - 1)) = j_ := ⟨_, rfl⟩
      replace H : (if 0 ≤ (ji29) then (if (ji29) < (l0.length : Int) then (some ((rd_T41 l0 (ji29)).f1)) else (none)) else (none)) = some r := by first | (rw [hji29] at H; exact H) | (simp only [hji29] at H ⊢; exact H)
      have hji29w : (IntKind.i64.wrap ((l0.length : Int) - 1)) = ji29 := (i64_w _).trans hji29
      by_cases c30 : 0 ≤ (ji29)
      ·rw [if_pos c30] at H
       have c30b0 : decide (0 ≤ (ji29)) = true := decide_eq_true c30
       clear c30
       by_cases c31 : (ji29) < (l0.length : Int)
       ·rw [if_pos c31] at H
        have c31b0 : decide ((ji29) < (l0.length : Int)) = true := decide_eq_true c31
        clear c31
        obtain rfl := Option.some.inj H
        have p239 : 0 ≤ ((ji29) : Int) := of_decide_eq_true hE
        have q239 : (ji29) < (l0.length : Int) := of_decide_eq_true hE
        obtain ⟨ad239, e239, hx239_0, hx239_1⟩ := at_T41 HR0.out (ji29) p239 q239
        obtain rfl : ad232 = ad239 := (by injection e239)
        replace hx239_0 := (HB.out.cell (World.block_lt_of_cell? w _ hx239_0)).trans hx239_0
        replace hx239_1 := (HB.out.cell (World.block_lt_of_cell? w _ hx239_1)).trans hx239_1
        replace p239 := eq_true p239
        replace q239 := eq_true q239
        go_wp2
        repeat (go_quiet (fail); try go_wp2)
        go_ret
        exact ⟨by first | rfl | (simp [errW_none, errW_some] <;> rfl) | (simp only [← hji29]; first | rfl | (simp [errW_none, errW_some] <;> rfl)) | (simp [*, errW_none, errW_some] <;> rfl), lU⟩
       ·rw [if_neg c31] at H
        exact absurd H (by simp)
      ·rw [if_neg c30] at H
       exact absurd H (by simp)
 ·rw [if_neg c3] at H
  exact absurd H (by simp)
end Go.Proofs.Ytbamdbdcglohmaa.PFnKeys
namespace Go.Proofs.Ytbamdbdcglohmaa.PFnKeys
open Go.RowKit Go.Proofs.YtbamdbdcglohmaaW.PrintWords Go.Proofs.YtbamdbdcglohmaaW.PrintLast Go.Proofs.YtbamdbdcglohmaaW.PrintMore
attribute [local go_sem] max2_int min2_int max_two min_two max_three min_three max_four min_four   -- for this text's walks alone
set_option linter.unusedVariables false
set_option linter.unusedSimpArgs false
def spec_l11Spans.l0 : Nat → List Int → Int → Int → List (S41) → Int → Option (Bool)
 | 0, _, _, _, _, _ => none
 | k + 1, x0, x2, x3, x9, x10 => if x10 ≤ x2 then ((spec_l11At.f k x9 x10).bind fun t245 => (if 0 ≤ x10 then (if x10 < (x0.length : Int) then ((spec_l1Abs.f (wrap64 (t245 - (rd x0 x10)))).bind fun t247 => (if t247 > x3 then (some false) else (spec_l11Spans.l0 k x0 x2 x3 x9 (wrap64 (x10 + 1))))) else (none)) else (none))) else (some true)
def spec_l11Spans.f (k : Nat) (l0 : List Int) (a1 : Int) (a2 : Int) (a3 : Int) : Option (Bool) := if 0 ≤ a1 then (if a1 < (l0.length : Int) then (if 0 ≤ a2 then (if a2 < (l0.length : Int) then (spec_l11Spans.l0 k l0 a2 a3 (([(⟨a1, rd l0 a1⟩ : S41), (⟨a2, rd l0 a2⟩ : S41)] : List (S41))) a1) else (none)) else (none)) else (none)) else (none)
theorem spec_l11Spans.mono_l : ∀ k, (∀ y0 y1 y2 y3 y4, LeO (spec_l11Spans.l0 k y0 y1 y2 y3 y4) (spec_l11Spans.l0 (k + 1) y0 y1 y2 y3 y4))
 | 0 => fun _ _ _ _ _ r h => by simp [spec_l11Spans.l0] at h
 | k + 1 => by
  have ih0 := spec_l11Spans.mono_l k
  ·intro y0 y1 y2 y3 y4
   unfold spec_l11Spans.l0
   repeat' first
   | (with_reducible exact ih0 _ _ _ _ _)
   | (with_reducible exact spec_l11At.mono _ _ _)
   | (with_reducible first | exact LeO.refl _ | exact LeO.none _ | refine LeO.ite ?_ ?_ | refine LeO.bind ?_ (fun _ => ?_))
   | exact ih0 _ _ _ _ _
   | exact spec_l11At.mono _ _ _ | exact LeO.none _ | refine LeO.ite ?_ ?_ | refine LeO.bind ?_ (fun _ => ?_)
theorem spec_l11Spans.mono : ∀ a0 a1 a2 a3 k, LeO (spec_l11Spans.f k a0 a1 a2 a3) (spec_l11Spans.f (k + 1) a0 a1 a2 a3) := by
 intro a0 a1 a2 a3 k
 have ih0 := spec_l11Spans.mono_l k
 unfold spec_l11Spans.f
 repeat' first
   | (with_reducible exact ih0 _ _ _ _ _)
   | (with_reducible exact spec_l11At.mono _ _ _)
   | (with_reducible first | exact LeO.refl _ | exact LeO.none _ | refine LeO.ite ?_ ?_ | refine LeO.bind ?_ (fun _ => ?_))
   | exact ih0 _ _ _ _ _
   | exact spec_l11At.mono _ _ _ | exact LeO.none _ | refine LeO.ite ?_ ?_ | refine LeO.bind ?_ (fun _ => ?_)
def spec_l11Spans.T1 : Bool × List (List Nat × List Nat) := (true, [([], []), ([], []), ([], []), ([1, 2], [1, 2]), ([3], [3]), ([0, 4], [0, 4]), ([], []), ([], []), ([], []), ([7, 8], [7, 8]), ([9], [9]), ([6, 10], [6, 10]), ([5, 11], [5, 11]), ([12, 0, 1, 2, 3, 4, 5, 6, 7, 8, 9, 10, 11, 12], [12])])
def spec_l11Spans.B1 : List Nat := [0, 0, 0, 6, 14, 31, 0, 0, 0, 384, 896, 1984, 4095, 8191]
theorem spec_l11Spans.tab1 : rtab .any (opsOf Try.f27 1) = spec_l11Spans.T1 := by kernel_rfl
theorem spec_l11Spans.bits1 : waitsOk spec_l11Spans.T1.2 spec_l11Spans.B1 = true := by kernel_rfl
def spec_l11Spans.T5 : Bool × List (List Nat × List Nat) := (true, [([], []), ([], []), ([0, 1], [0, 1]), ([], []), ([], []), ([3, 4], [3, 4]), ([5], [5]), ([2, 6], [2, 6]), ([7, 2], [7]), ([], []), ([8, 9], [8, 9])])
def spec_l11Spans.B5 : List Nat := [0, 0, 3, 0, 0, 24, 56, 127, 255, 0, 1023]
theorem spec_l11Spans.tab5 : rtab .any (opsOf Try.f27 5) = spec_l11Spans.T5 := by kernel_rfl
theorem spec_l11Spans.bits5 : waitsOk spec_l11Spans.T5.2 spec_l11Spans.B5 = true := by kernel_rfl
set_option maxHeartbeats 8000000 in
set_option maxRecDepth 100000 in
theorem spec_l11Spans.calls (k : Nat) (A0 : Option Addr) (c0 : Nat) (l0 : List Int) (a1 : Int) (a2 : Int) (a3 : Int) (r : Bool) (w : World) (hr0 : Kd.C (Kd.int .i64) w A0 l0.length l0) (hc0 : l0.length ≤ c0) (h : spec_l11Spans.f k l0 a1 a2 a3 = some r) :
  Calls Try.prog 27 #[.slice A0 l0.length c0, .int .i64 a1, .int .i64 a2, .int .i64 a3] w fun e w' => e = .returned (.bool r) ∧ Below w.heap.size w w' := by
 have hu41 := Try.underlying41
 have HR0 := Aside0.mk hr0
 have HC0 := Aside0.mk hc0
 clear hr0 hc0
 have HB := Aside0.mk (Below.refl w.heap.size w)
 have H : (if 0 ≤ a1 then (if a1 < (l0.length : Int) then (if 0 ≤ a2 then (if a2 < (l0.length : Int) then (spec_l11Spans.l0 k l0 a2 a3 (([(⟨a1, rd l0 a1⟩ : S41), (⟨a2, rd l0 a2⟩ : S41)] : List (S41))) a1) else (none)) else (none)) else (none)) else (none)) = some r := h
 clear h
 by_cases c5 : 0 ≤ a1
 ·rw [if_pos c5] at H
  have c5b0 : decide (0 ≤ a1) = true := decide_eq_true c5
  clear c5
  by_cases c6 : a1 < (l0.length : Int)
  ·rw [if_pos c6] at H
   have c6b0 : decide (a1 < (l0.length : Int)) = true := decide_eq_true c6
   clear c6
   by_cases c7 : 0 ≤ a2
   ·rw [if_pos c7] at H
    have c7b0 : decide (0 ≤ a2) = true := decide_eq_true c7
    clear c7
    by_cases c8 : a2 < (l0.length : Int)
    ·rw [if_pos c8] at H
     have c8b0 : decide (a2 < (l0.length : Int)) = true := decide_eq_true c8
     clear c8
     obtain ⟨y242, hy242⟩ : ∃ y_ : List (S41), y_ = (([(⟨a1, rd l0 a1⟩ : S41), (⟨a2, rd l0 a2⟩ : S41)] : List (S41))) := ⟨_, rfl⟩
     replace H : (spec_l11Spans.l0 k l0 a2 a3 y242 a1) = some r := by first | (rw [hy242]; with_reducible exact H) | (have H2_ := (Option.bind_some _ _).symm.trans H; rw [hy242]; with_reducible exact H2_) | (have H2_ := (Option.bind_some _ _).symm.trans H; with_reducible exact H2_) | with_reducible exact H | (rw [hy242]; exact H) | exact H
     have Ny242 := Aside0.mk hy242
     clear hy242
     have H' := Aside0.mk H
     clear H
     go_enter Try.func27, Try.ntmps27
     try go_wp2
     replace HB := Aside0.mk (below_drew1 HB.out)
     have p240 : 0 ≤ (a1 : Int) := of_decide_eq_true hE
     have q240 : a1 < (l0.length : Int) := of_decide_eq_true hE
     obtain ⟨ad240, e240, hx240_0⟩ := Kd.at_int HR0.out a1 p240 q240
     have hw240_0 := hx240_0
     cases e240
     replace hx240_0 := (HB.out.cell (World.block_lt_of_cell? w _ hx240_0)).trans hx240_0
     replace p240 := eq_true p240
     replace q240 := eq_true q240
     have p241 : 0 ≤ (a2 : Int) := of_decide_eq_true hE
     have q241 : a2 < (l0.length : Int) := of_decide_eq_true hE
     obtain ⟨ad241, e241, hx241_0⟩ := Kd.at_int HR0.out a2 p241 q241
     have hw241_0 := hx241_0
     obtain rfl : ad240 = ad241 := (by injection e241)
     replace hx241_0 := (HB.out.cell (World.block_lt_of_cell? w _ hx241_0)).trans hx241_0
     replace p241 := eq_true p241
     replace q241 := eq_true q241
     refine start_ (n := 14) (S := fun w' => w'.cell? (ad240.add (a1).toNat) = some (.int .i64 (rd l0 a1)) ∧ w'.cell? (ad240.add (a2).toNat) = some (.int .i64 (rd l0 a2))) (ds := []) #[false, false, false, false, false, false, false, false, false, false, false, false, false, false] (by kernel_rfl) rfl rfl ⟨((HB.out.cell (World.block_lt_of_cell? w _ hw240_0)).trans hw240_0), ((HB.out.cell (World.block_lt_of_cell? w _ hw241_0)).trans hw241_0)⟩ (fun hHeld => ?_); refine with_tabW spec_l11Spans.tab1 spec_l11Spans.bits1 (fun HT_ HW_ => ?_)
     generalize w.drew = w9 at HB hx240_0 hx241_0 hHeld ⊢
     refine pureA 0 11 (bz 14 1) rfl rfl (any_of HT_.out (by kernel_rfl)) ?_
     refine pureA 1 12 (bz 14 3) rfl rfl (any_of HT_.out (by kernel_rfl)) ?_
     refine pureA 2 13 (bz 14 7) rfl rfl (any_of HT_.out (by kernel_rfl)) ?_
     refine pureA 3 14 (bz 14 15) rfl rfl (any_of HT_.out (by kernel_rfl)) ?_
     refine pureA 6 17 (bz 14 79) rfl rfl (any_of HT_.out (by kernel_rfl)) ?_
     refine pureA 7 18 (bz 14 207) rfl rfl (any_of HT_.out (by kernel_rfl)) ?_
     refine pureA 8 19 (bz 14 463) rfl rfl (any_of HT_.out (by kernel_rfl)) ?_
     refine pureA 9 20 (bz 14 975) rfl rfl (any_of HT_.out (by kernel_rfl)) ?_
     refine takeA 4 15 (bz 14 991) rfl rfl (take_ofW HT_.out HW_.out (by kernel_rfl)) hHeld (by rintro w' ⟨s0, s1⟩; go_simp; with_reducible rfl) ?_
     refine pureA 5 16 (bz 14 1023) rfl rfl (any_of HT_.out (by kernel_rfl)) ?_
     refine takeA 10 21 (bz 14 2047) rfl rfl (take_ofW HT_.out HW_.out (by kernel_rfl)) hHeld (by rintro w' ⟨s0, s1⟩; go_simp; with_reducible rfl) ?_
     refine pureA 11 22 (bz 14 4095) rfl rfl (any_of HT_.out (by kernel_rfl)) ?_
     refine one_ (i := 12) (N := some 23) (bz 14 8191) rfl rfl (one_of HT_.out (by kernel_rfl)) (by decide) (fun K hK => ?_)
     refine Kd.R_lit_step k41 _ 41 ?hg (N := 23) ?hd (xs := ([(⟨a1, rd l0 a1⟩ : S41), (⟨a2, rd l0 a2⟩ : S41)] : List (S41))) (inner := [.int .i64 a1, .int .i64 (rd l0 a1), .int .i64 a2, .int .i64 (rd l0 a2)]) (ok := fun _ => True) (okp := fun _ => True) ?hr ?hp (fun _ hk => hk) trivial (Below.refl _ _) (Nat.le_refl _) (by simp) ?_; (case hd => rfl); (case hg => rfl); (case hr => exact sE); (case hp => exact (Reps.c2 (show Kd.M k41 _ _ _ (⟨a1, rd l0 a1⟩ : S41) [.int .i64 a1, .int .i64 (rd l0 a1)] from (k41_mkM _ _ _ (⟨a1, rd l0 a1⟩ : S41) )) (Reps.c2 (show Kd.M k41 _ _ _ (⟨a2, rd l0 a2⟩ : S41) [.int .i64 a2, .int .i64 (rd l0 a2)] from (k41_mkM _ _ _ (⟨a2, rd l0 a2⟩ : S41) )) (Reps.none _ _))))
     intro v243 w10 ho11 hb hg_ hnew_
     clear hg_ hnew_
     (first | rw [← Ny242.out] at ho11 | (simp only [Int.reduceToNat] at ho11; rw [← Ny242.out] at ho11))
     have HO244 := Aside0.mk (Kd.R_lower ho11 (below_size (lU)))
     replace HB := bH (lU) hb
     clear hb ho11
     refine hK.out _ _ ⟨((HB.out.cell (World.block_lt_of_cell? w _ hw240_0)).trans hw240_0), ((HB.out.cell (World.block_lt_of_cell? w _ hw241_0)).trans hw241_0)⟩ (fun hHeld => ?_)
     clear hK K
     refine norm_ (a' := ?_) ?_ ?_
     rotate_left
     ·show Act.put _ (some 23) _ = _
      simp only [Act.put, List.setIfInBounds_toArray, List.set_cons_zero, List.set_cons_succ, i64_w, i32_w]
      rfl
     refine pureA 13 9 (bz 14 16383) rfl rfl (any_of HT_.out (by kernel_rfl)) ?_
     refine done_ (done_of HT_.out (by kernel_rfl)) ?_
     try go_wp2
     go_loopg [10] k (fun kq v10 w' => ∃ (x10_1 : Int), v10 = .int .i64 x10_1 ∧ Aside0 (spec_l11Spans.l0 kq l0 a2 a3 y242 x10_1 = some r) ∧ Aside0 (kq ≤ k) ∧ Aside0 (Kd.R k41 41 w' w.heap.size (fun _ => True) v243 y242) ∧ Aside0 (Below w.heap.size w w'))
     case atStart => exact ⟨(a1), tE, H', ⟨Nat.le_refl _⟩, ⟨by (with_reducible repeat (first | apply Kd.R_alloc | apply Kd.R_drewN | apply Kd.R_drew)); exact HO244.out⟩, ⟨by repeat (first | (with_reducible first | exact HB.out | apply below_alloc | apply pw_below_drewN | apply below_drew1) | exact HB.out)⟩⟩
     case round =>
      clear H'
      try clear c2
      try clear p2
      try clear q2
      try clear hx2
      try clear c5
      try clear c5b0
      try clear c6
      try clear c6b0
      try clear c7
      try clear c7b0
      try clear c8
      try clear c8b0
      try clear hx240_0
      try clear hx241_0
      try clear p240
      try clear p241
      try clear q240
      try clear q241
      obtain ⟨x10_1, rfl, HA, HK1, HO_9, HB⟩ := hrel
      cases gk with
      | zero => exact absurd HA.out (by simp [spec_l11Spans.l0])
      | succ k1 =>
       have H := HA.out
       clear HA
       simp only [spec_l11Spans.l0] at H
       by_cases c12 : x10_1 ≤ a2
       ·rw [if_pos c12] at H
        have c12b0 : decide (x10_1 ≤ a2) = true := decide_eq_true c12
        clear c12
        replace H := Option.bind_eq_some_iff.mp H
        obtain ⟨t245, A130, H⟩ := H
        replace H : (if 0 ≤ x10_1 then (if x10_1 < (l0.length : Int) then ((spec_l1Abs.f (wrap64 (t245 - (rd l0 x10_1)))).bind fun t247 => (if t247 > a3 then (some false) else (spec_l11Spans.l0 k1 l0 a2 a3 y242 (wrap64 (x10_1 + 1))))) else (none)) else (none)) = some r := H
        have A13 := Aside0.mk A130
        clear A130
        by_cases c14 : 0 ≤ x10_1
        ·rw [if_pos c14] at H
         have c14b0 : decide (0 ≤ x10_1) = true := decide_eq_true c14
         clear c14
         by_cases c15 : x10_1 < (l0.length : Int)
         ·rw [if_pos c15] at H
          have c15b0 : decide (x10_1 < (l0.length : Int)) = true := decide_eq_true c15
          clear c15
          replace H := Option.bind_eq_some_iff.mp H
          obtain ⟨t247, A160, H⟩ := H
          replace H : (if t247 > a3 then (some false) else (spec_l11Spans.l0 k1 l0 a2 a3 y242 (wrap64 (x10_1 + 1)))) = some r := H
          have A16 := Aside0.mk A160
          clear A160
          by_cases c17 : t247 > a3
          ·rw [if_pos c17] at H
           have c17b0 : decide (a3 < t247) = true := decide_eq_true c17
           clear c17
           obtain rfl := Option.some.inj H
           try go_wp2
           replace HO_9 := Aside0.mk (Kd.R_drew HO_9.out)
           replace HB := Aside0.mk (below_drew1 HB.out)
           have p246 : 0 ≤ (x10_1 : Int) := of_decide_eq_true hE
           have q246 : x10_1 < (l0.length : Int) := of_decide_eq_true hE
           obtain ⟨ad246, e246, hx246_0⟩ := Kd.at_int HR0.out x10_1 p246 q246
           have hw246_0 := hx246_0
           obtain rfl : ad240 = ad246 := (by injection e246)
           replace hx246_0 := (HB.out.cell (World.block_lt_of_cell? w _ hx246_0)).trans hx246_0
           replace p246 := eq_true p246
           replace q246 := eq_true q246
           obtain ⟨Ao19, co19, eo19⟩ := Kd.R_slice HO_9.out
           (first | subst eo19 | (injection eo19 with f1_ f2_ f3_; have f4_ := f1_.symm; have f5_ := f3_.symm; clear f1_ f2_ f3_; subst f4_; subst f5_))
           refine start_ (n := 11) (S := fun w' => w'.cell? (ad240.add (x10_1).toNat) = some (.int .i64 (rd l0 x10_1))) (ds := []) #[false, false, false, false, false, false, false, false, false, false, false] (by kernel_rfl) rfl rfl (((HB.out.cell (World.block_lt_of_cell? w _ hw246_0)).trans hw246_0)) (fun hHeld => ?_); refine with_tabW spec_l11Spans.tab5 spec_l11Spans.bits5 (fun HT_ HW_ => ?_)
           generalize wr.drew = w18 at HO_9 HB hx246_0 hHeld ⊢
           refine pureA 0 30 (bz 11 1) rfl rfl (any_of HT_.out (by kernel_rfl)) ?_
           refine pureA 1 31 (bz 11 3) rfl rfl (any_of HT_.out (by kernel_rfl)) ?_
           refine pureA 3 33 (bz 11 11) rfl rfl (any_of HT_.out (by kernel_rfl)) ?_
           refine pureA 4 34 (bz 11 27) rfl rfl (any_of HT_.out (by kernel_rfl)) ?_
           refine pureA 5 35 (bz 11 59) rfl rfl (any_of HT_.out (by kernel_rfl)) ?_
           refine pureA 9 39 (bz 11 571) rfl rfl (any_of HT_.out (by kernel_rfl)) ?_
           refine take_ (i := 6) (N := some 36) (v := ?_) (a' := ?_) (bz 11 635) rfl rfl (take_ofW HT_.out HW_.out (by kernel_rfl)) (fun _ _ _ h => h) (Or.inl ⟨by rfl, ?_⟩) hHeld ?_ ?_
           rotate_left
           ·intro w' s0
            go_simp
            with_reducible rfl
           rotate_left
           ·simp only [Act.put, List.setIfInBounds_toArray, List.set_cons_zero, List.set_cons_succ, i64_w, i32_w]
            rfl
           refine one_ (i := 2) (N := some 32) (bz 11 639) rfl rfl (one_of HT_.out (by kernel_rfl)) (by decide) (fun K hK => ?_)
           refine goes_ Try.func33 (by kernel_rfl) rfl #[.slice Ao19 y242.length co19, .int .i64 x10_1] (by rfl) rfl rfl aE ?_
           with_reducible refine (spec_l11At.calls k1 _ _ y242 x10_1 t245 _ ?side1 ?side2 A13.out).mono ?_
           (case side1 => exact cU (Kd.R_reads' HO_9.out).2.2)
           (case side2 => exact (Kd.R_reads' HO_9.out).2.1)
           rintro e w20 ⟨rfl, hb⟩
           refine ⟨_, rfl, ?_⟩
           replace HO_9 := Aside0.mk (Kd.R_below (rU HO_9.out) hb)
           replace HB := bH (lU) hb
           (try clear hb)
           (try clear hb2)
           (try clear hk)
           (try clear hi)
           refine hK.out _ _ (((HB.out.cell (World.block_lt_of_cell? w _ hw246_0)).trans hw246_0)) (fun hHeld => ?_)
           clear hK K
           refine norm_ (a' := ?_) ?_ ?_
           rotate_left
           ·show Act.put _ (some 32) _ = _
            simp only [Act.put, List.setIfInBounds_toArray, List.set_cons_zero, List.set_cons_succ, i64_w, i32_w]
            rfl
           refine pureA 7 37 (bz 11 767) rfl rfl (any_of HT_.out (by kernel_rfl)) ?_
           refine one_ (i := 8) (N := some 38) (bz 11 1023) rfl rfl (one_of HT_.out (by kernel_rfl)) (by decide) (fun K hK => ?_)
           refine goes_ Try.func32 (by kernel_rfl) rfl #[.int .i64 (wrap64 (t245 - (rd l0 x10_1)))] (by rfl) rfl rfl aE ?_
           with_reducible refine (spec_l1Abs.calls (wrap64 (t245 - (rd l0 x10_1))) t247 _ A16.out).mono ?_
           rintro e w' ⟨rfl, ⟨nd, rfl⟩⟩
           refine ⟨_, rfl, ?_⟩
           refine hK.out _ _ (((HB.out.cell (World.block_lt_of_cell? w _ hw246_0)).trans hw246_0)) (fun hHeld => ?_)
           clear hK K
           refine norm_ (a' := ?_) ?_ ?_
           rotate_left
           ·show Act.put _ (some 38) _ = _
            simp only [Act.put, List.setIfInBounds_toArray, List.set_cons_zero, List.set_cons_succ, i64_w, i32_w]
            rfl
           refine pureA 10 40 (bz 11 2047) rfl rfl (any_of HT_.out (by kernel_rfl)) ?_
           refine done_ (done_of HT_.out (by kernel_rfl)) ?_
           try go_wp2
           go_ret
           exact ⟨eE, lU⟩
          ·rw [if_neg c17] at H
           have c17b0 : decide (a3 < t247) = false := decide_eq_false c17
           clear c17
           have H' := Aside0.mk H
           clear H
           try go_wp2
           replace HO_9 := Aside0.mk (Kd.R_drew HO_9.out)
           replace HB := Aside0.mk (below_drew1 HB.out)
           have p246 : 0 ≤ (x10_1 : Int) := of_decide_eq_true hE
           have q246 : x10_1 < (l0.length : Int) := of_decide_eq_true hE
           obtain ⟨ad246, e246, hx246_0⟩ := Kd.at_int HR0.out x10_1 p246 q246
           have hw246_0 := hx246_0
           obtain rfl : ad240 = ad246 := (by injection e246)
           replace hx246_0 := (HB.out.cell (World.block_lt_of_cell? w _ hx246_0)).trans hx246_0
           replace p246 := eq_true p246
           replace q246 := eq_true q246
           obtain ⟨Ao22, co22, eo22⟩ := Kd.R_slice HO_9.out
           (first | subst eo22 | (injection eo22 with f1_ f2_ f3_; have f4_ := f1_.symm; have f5_ := f3_.symm; clear f1_ f2_ f3_; subst f4_; subst f5_))
           refine start_ (n := 11) (S := fun w' => w'.cell? (ad240.add (x10_1).toNat) = some (.int .i64 (rd l0 x10_1))) (ds := []) #[false, false, false, false, false, false, false, false, false, false, false] (by kernel_rfl) rfl rfl (((HB.out.cell (World.block_lt_of_cell? w _ hw246_0)).trans hw246_0)) (fun hHeld => ?_); refine with_tabW spec_l11Spans.tab5 spec_l11Spans.bits5 (fun HT_ HW_ => ?_)
           generalize wr.drew = w21 at HO_9 HB hx246_0 hHeld ⊢
           refine pureA 0 30 (bz 11 1) rfl rfl (any_of HT_.out (by kernel_rfl)) ?_
           refine pureA 1 31 (bz 11 3) rfl rfl (any_of HT_.out (by kernel_rfl)) ?_
           refine pureA 3 33 (bz 11 11) rfl rfl (any_of HT_.out (by kernel_rfl)) ?_
           refine pureA 4 34 (bz 11 27) rfl rfl (any_of HT_.out (by kernel_rfl)) ?_
           refine pureA 5 35 (bz 11 59) rfl rfl (any_of HT_.out (by kernel_rfl)) ?_
           refine pureA 9 39 (bz 11 571) rfl rfl (any_of HT_.out (by kernel_rfl)) ?_
           refine take_ (i := 6) (N := some 36) (v := ?_) (a' := ?_) (bz 11 635) rfl rfl (take_ofW HT_.out HW_.out (by kernel_rfl)) (fun _ _ _ h => h) (Or.inl ⟨by rfl, ?_⟩) hHeld ?_ ?_
           rotate_left
           ·intro w' s0
            go_simp
            with_reducible rfl
           rotate_left
           ·simp only [Act.put, List.setIfInBounds_toArray, List.set_cons_zero, List.set_cons_succ, i64_w, i32_w]
            rfl
           refine one_ (i := 2) (N := some 32) (bz 11 639) rfl rfl (one_of HT_.out (by kernel_rfl)) (by decide) (fun K hK => ?_)
           refine goes_ Try.func33 (by kernel_rfl) rfl #[.slice Ao22 y242.length co22, .int .i64 x10_1] (by rfl) rfl rfl aE ?_
           with_reducible refine (spec_l11At.calls k1 _ _ y242 x10_1 t245 _ ?side1 ?side2 A13.out).mono ?_
           (case side1 => exact cU (Kd.R_reads' HO_9.out).2.2)
           (case side2 => exact (Kd.R_reads' HO_9.out).2.1)
           rintro e w23 ⟨rfl, hb⟩
           refine ⟨_, rfl, ?_⟩
           replace HO_9 := Aside0.mk (Kd.R_below (rU HO_9.out) hb)
           replace HB := bH (lU) hb
           (try clear hb)
           (try clear hb2)
           (try clear hk)
           (try clear hi)
           refine hK.out _ _ (((HB.out.cell (World.block_lt_of_cell? w _ hw246_0)).trans hw246_0)) (fun hHeld => ?_)
           clear hK K
           refine norm_ (a' := ?_) ?_ ?_
           rotate_left
           ·show Act.put _ (some 32) _ = _
            simp only [Act.put, List.setIfInBounds_toArray, List.set_cons_zero, List.set_cons_succ, i64_w, i32_w]
            rfl
           refine pureA 7 37 (bz 11 767) rfl rfl (any_of HT_.out (by kernel_rfl)) ?_
           refine one_ (i := 8) (N := some 38) (bz 11 1023) rfl rfl (one_of HT_.out (by kernel_rfl)) (by decide) (fun K hK => ?_)
           refine goes_ Try.func32 (by kernel_rfl) rfl #[.int .i64 (wrap64 (t245 - (rd l0 x10_1)))] (by rfl) rfl rfl aE ?_
           with_reducible refine (spec_l1Abs.calls (wrap64 (t245 - (rd l0 x10_1))) t247 _ A16.out).mono ?_
           rintro e w' ⟨rfl, ⟨nd, rfl⟩⟩
           refine ⟨_, rfl, ?_⟩
           refine hK.out _ _ (((HB.out.cell (World.block_lt_of_cell? w _ hw246_0)).trans hw246_0)) (fun hHeld => ?_)
           clear hK K
           refine norm_ (a' := ?_) ?_ ?_
           rotate_left
           ·show Act.put _ (some 38) _ = _
            simp only [Act.put, List.setIfInBounds_toArray, List.set_cons_zero, List.set_cons_succ, i64_w, i32_w]
            rfl
           refine pureA 10 40 (bz 11 2047) rfl rfl (any_of HT_.out (by kernel_rfl)) ?_
           refine done_ (done_of HT_.out (by kernel_rfl)) ?_
           try go_wp2
           go_roundg k1
           case measure => have := HK1.out; omega
           case rel => exact ⟨(wrap64 (x10_1 + 1)), tE, H', ⟨by have := HK1.out; omega⟩, ⟨by (with_reducible repeat (first | apply Kd.R_alloc | apply Kd.R_drewN | apply Kd.R_drew)); exact HO_9.out⟩, ⟨by repeat (first | (with_reducible first | exact HB.out | apply below_alloc | apply pw_below_drewN | apply below_drew1) | exact HB.out)⟩⟩
         ·rw [if_neg c15] at H
          exact absurd H (by simp)
        ·rw [if_neg c14] at H
         exact absurd H (by simp)
       ·rw [if_neg c12] at H
        have c12b0 : decide (x10_1 ≤ a2) = false := decide_eq_false c12
        clear c12
        obtain rfl := Option.some.inj H
        go_wp2
        go_ret
        exact ⟨eE, lU⟩
    ·rw [if_neg c8] at H
     exact absurd H (by simp)
   ·rw [if_neg c7] at H
    exact absurd H (by simp)
  ·rw [if_neg c6] at H
   exact absurd H (by simp)
 ·rw [if_neg c5] at H
  exact absurd H (by simp)
end Go.Proofs.Ytbamdbdcglohmaa.PFnKeys
namespace Go.Proofs.Ytbamdbdcglohmaa.PFnKeys
open Go.RowKit Go.Proofs.YtbamdbdcglohmaaW.PrintWords Go.Proofs.YtbamdbdcglohmaaW.PrintLast Go.Proofs.YtbamdbdcglohmaaW.PrintMore
attribute [local go_sem] max2_int min2_int max_two min_two max_three min_three max_four min_four   -- for this text's walks alone
set_option linter.unusedVariables false
set_option linter.unusedSimpArgs false
mutual
def spec_FewestKeys.j0 : Nat → List Int → Int → Bool → Option ((List (S41)) × Bool)
 | 0, _, _, _ => none
 | k + 1, x0, x1, x20 => if x20 = true then (some (([] : List (S41)), false)) else (if 0 ≤ (x0.length : Int) then (if ((x0.length : Int) : Int).toNat ≤ 35184372088832 then (spec_FewestKeys.l0 k x0 x1 (x0.length : Int) (List.replicate ((x0.length : Int) : Int).toNat 0) (List.replicate ((x0.length : Int) : Int).toNat 0) (wrap64 ((x0.length : Int) - 2))) else (none)) else (none))
def spec_FewestKeys.l0 : Nat → List Int → Int → Int → List Int → List Int → Int → Option ((List (S41)) × Bool)
 | 0, _, _, _, _, _, _ => none
 | k + 1, x0, x1, x6, x7, x8, x9 => if x9 ≥ 0 then (if 0 ≤ x9 then (if x9 < (x7.length : Int) then (spec_FewestKeys.l1 k x0 x1 x6 (x7.set (x9 : Int).toNat (-1)) x8 x9 (wrap64 (x9 + 1))) else (none)) else (none)) else (spec_FewestKeys.l2 k x0 x6 x8 ([] : List (S41)) 0)
def spec_FewestKeys.l1 : Nat → List Int → Int → Int → List Int → List Int → Int → Int → Option ((List (S41)) × Bool)
 | 0, _, _, _, _, _, _, _ => none
 | k + 1, x0, x1, x6, x7, x8, x9, x10 => if x10 < x6 then (if 0 ≤ x9 then (if x9 < (x7.length : Int) then (if (rd x7 x9) < 0 then ((spec_l11Spans.f k x0 x9 x10 x1).bind fun t258 => (if t258 = true then (if 0 ≤ x10 then (if x10 < (x7.length : Int) then (if x9 < (x8.length : Int) then (spec_FewestKeys.l1 k x0 x1 x6 (x7.set (x9 : Int).toNat (wrap64 ((rd x7 x10) + 1))) (x8.set (x9 : Int).toNat x10) x9 (wrap64 (x10 + 1))) else (none)) else (none)) else (none)) else (spec_FewestKeys.l1 k x0 x1 x6 x7 x8 x9 (wrap64 (x10 + 1))))) else (if 0 ≤ x10 then (if x10 < (x7.length : Int) then (if (wrap64 ((rd x7 x10) + 1)) < (rd x7 x9) then ((spec_l11Spans.f k x0 x9 x10 x1).bind fun t264 => (if t264 = true then (if x9 < (x8.length : Int) then (spec_FewestKeys.l1 k x0 x1 x6 (x7.set (x9 : Int).toNat (wrap64 ((rd x7 x10) + 1))) (x8.set (x9 : Int).toNat x10) x9 (wrap64 (x10 + 1))) else (none)) else (spec_FewestKeys.l1 k x0 x1 x6 x7 x8 x9 (wrap64 (x10 + 1))))) else (spec_FewestKeys.l1 k x0 x1 x6 x7 x8 x9 (wrap64 (x10 + 1)))) else (none)) else (none))) else (none)) else (none)) else (spec_FewestKeys.l0 k x0 x1 x6 x7 x8 (wrap64 (x9 - 1)))
def spec_FewestKeys.l2 : Nat → List Int → Int → List Int → List (S41) → Int → Option ((List (S41)) × Bool)
 | 0, _, _, _, _, _ => none
 | k + 1, x0, x6, x8, x11, x12 => if 0 ≤ x12 then (if x12 < (x0.length : Int) then (if x11.length < 8796093022208 then ((some (x11 ++ [(⟨x12, rd x0 x12⟩ : S41)] : List (S41))).bind fun y269 => (if x12 = (wrap64 (x6 - 1)) then (some (y269, true)) else (if x12 < (x8.length : Int) then (spec_FewestKeys.l2 k x0 x6 x8 y269 (rd x8 x12)) else (none)))) else (none)) else (none)) else (none)
end
def spec_FewestKeys.f (k : Nat) (l0 : List Int) (a1 : Int) : Option ((List (S41)) × Bool) := (spec_l11Values.f k l0).bind fun t248 => (if t248 = true then ((spec_l1In.f a1 0 100000).bind fun t249 => (spec_FewestKeys.j0 k l0 a1 (!t249))) else (spec_FewestKeys.j0 k l0 a1 true))
theorem spec_FewestKeys.mono_l : ∀ k, (∀ y0 y1 y2, LeO (spec_FewestKeys.j0 k y0 y1 y2) (spec_FewestKeys.j0 (k + 1) y0 y1 y2)) ∧ (∀ y0 y1 y2 y3 y4 y5, LeO (spec_FewestKeys.l0 k y0 y1 y2 y3 y4 y5) (spec_FewestKeys.l0 (k + 1) y0 y1 y2 y3 y4 y5)) ∧ (∀ y0 y1 y2 y3 y4 y5 y6, LeO (spec_FewestKeys.l1 k y0 y1 y2 y3 y4 y5 y6) (spec_FewestKeys.l1 (k + 1) y0 y1 y2 y3 y4 y5 y6)) ∧ (∀ y0 y1 y2 y3 y4, LeO (spec_FewestKeys.l2 k y0 y1 y2 y3 y4) (spec_FewestKeys.l2 (k + 1) y0 y1 y2 y3 y4))
 | 0 => ⟨fun _ _ _ r h => by simp [spec_FewestKeys.j0] at h, fun _ _ _ _ _ _ r h => by simp [spec_FewestKeys.l0] at h, fun _ _ _ _ _ _ _ r h => by simp [spec_FewestKeys.l1] at h, fun _ _ _ _ _ r h => by simp [spec_FewestKeys.l2] at h⟩
 | k + 1 => by
  obtain ⟨ih0, ih1, ih2, ih3⟩ := spec_FewestKeys.mono_l k
  refine ⟨?_, ?_, ?_, ?_⟩
  ·intro y0 y1 y2
   unfold spec_FewestKeys.j0
   repeat' first
   | (with_reducible exact ih0 _ _ _)
   | (with_reducible exact ih1 _ _ _ _ _ _)
   | (with_reducible exact ih2 _ _ _ _ _ _ _)
   | (with_reducible exact ih3 _ _ _ _ _)
   | (with_reducible exact spec_l11Spans.mono _ _ _ _ _)
   | (with_reducible exact spec_l11Values.mono _ _)
   | (with_reducible first | exact LeO.refl _ | exact LeO.none _ | refine LeO.ite ?_ ?_ | refine LeO.bind ?_ (fun _ => ?_))
   | exact ih0 _ _ _
   | exact ih1 _ _ _ _ _ _
   | exact ih2 _ _ _ _ _ _ _
   | exact ih3 _ _ _ _ _
   | exact spec_l11Spans.mono _ _ _ _ _
   | exact spec_l11Values.mono _ _ | exact LeO.none _ | refine LeO.ite ?_ ?_ | refine LeO.bind ?_ (fun _ => ?_)
  ·intro y0 y1 y2 y3 y4 y5
   unfold spec_FewestKeys.l0
   repeat' first
   | (with_reducible exact ih0 _ _ _)
   | (with_reducible exact ih1 _ _ _ _ _ _)
   | (with_reducible exact ih2 _ _ _ _ _ _ _)
   | (with_reducible exact ih3 _ _ _ _ _)
   | (with_reducible exact spec_l11Spans.mono _ _ _ _ _)
   | (with_reducible exact spec_l11Values.mono _ _)
   | (with_reducible first | exact LeO.refl _ | exact LeO.none _ | refine LeO.ite ?_ ?_ | refine LeO.bind ?_ (fun _ => ?_))
   | exact ih0 _ _ _
   | exact ih1 _ _ _ _ _ _
   | exact ih2 _ _ _ _ _ _ _
   | exact ih3 _ _ _ _ _
   | exact spec_l11Spans.mono _ _ _ _ _
   | exact spec_l11Values.mono _ _ | exact LeO.none _ | refine LeO.ite ?_ ?_ | refine LeO.bind ?_ (fun _ => ?_)
  ·intro y0 y1 y2 y3 y4 y5 y6
   unfold spec_FewestKeys.l1
   repeat' first
   | (with_reducible exact ih0 _ _ _)
   | (with_reducible exact ih1 _ _ _ _ _ _)
   | (with_reducible exact ih2 _ _ _ _ _ _ _)
   | (with_reducible exact ih3 _ _ _ _ _)
   | (with_reducible exact spec_l11Spans.mono _ _ _ _ _)
   | (with_reducible exact spec_l11Values.mono _ _)
   | (with_reducible first | exact LeO.refl _ | exact LeO.none _ | refine LeO.ite ?_ ?_ | refine LeO.bind ?_ (fun _ => ?_))
   | exact ih0 _ _ _
   | exact ih1 _ _ _ _ _ _
   | exact ih2 _ _ _ _ _ _ _
   | exact ih3 _ _ _ _ _
   | exact spec_l11Spans.mono _ _ _ _ _
   | exact spec_l11Values.mono _ _ | exact LeO.none _ | refine LeO.ite ?_ ?_ | refine LeO.bind ?_ (fun _ => ?_)
  ·intro y0 y1 y2 y3 y4
   unfold spec_FewestKeys.l2
   repeat' first
   | (with_reducible exact ih0 _ _ _)
   | (with_reducible exact ih1 _ _ _ _ _ _)
   | (with_reducible exact ih2 _ _ _ _ _ _ _)
   | (with_reducible exact ih3 _ _ _ _ _)
   | (with_reducible exact spec_l11Spans.mono _ _ _ _ _)
   | (with_reducible exact spec_l11Values.mono _ _)
   | (with_reducible first | exact LeO.refl _ | exact LeO.none _ | refine LeO.ite ?_ ?_ | refine LeO.bind ?_ (fun _ => ?_))
   | exact ih0 _ _ _
   | exact ih1 _ _ _ _ _ _
   | exact ih2 _ _ _ _ _ _ _
   | exact ih3 _ _ _ _ _
   | exact spec_l11Spans.mono _ _ _ _ _
   | exact spec_l11Values.mono _ _ | exact LeO.none _ | refine LeO.ite ?_ ?_ | refine LeO.bind ?_ (fun _ => ?_)
theorem spec_FewestKeys.mono : ∀ a0 a1 k, LeO (spec_FewestKeys.f k a0 a1) (spec_FewestKeys.f (k + 1) a0 a1) := by
 intro a0 a1 k
 obtain ⟨ih0, ih1, ih2, ih3⟩ := spec_FewestKeys.mono_l k
 unfold spec_FewestKeys.f
 repeat' first
   | (with_reducible exact ih0 _ _ _)
   | (with_reducible exact ih1 _ _ _ _ _ _)
   | (with_reducible exact ih2 _ _ _ _ _ _ _)
   | (with_reducible exact ih3 _ _ _ _ _)
   | (with_reducible exact spec_l11Spans.mono _ _ _ _ _)
   | (with_reducible exact spec_l11Values.mono _ _)
   | (with_reducible first | exact LeO.refl _ | exact LeO.none _ | refine LeO.ite ?_ ?_ | refine LeO.bind ?_ (fun _ => ?_))
   | exact ih0 _ _ _
   | exact ih1 _ _ _ _ _ _
   | exact ih2 _ _ _ _ _ _ _
   | exact ih3 _ _ _ _ _
   | exact spec_l11Spans.mono _ _ _ _ _
   | exact spec_l11Values.mono _ _ | exact LeO.none _ | refine LeO.ite ?_ ?_ | refine LeO.bind ?_ (fun _ => ?_)
def spec_FewestKeys.T13 : Bool × List (List Nat × List Nat) := (true, [([], []), ([], []), ([0, 1], [0, 1]), ([2], [2]), ([3], [3]), ([4], [4]), ([5], [5]), ([5], [5]), ([6, 7, 5], [5, 6, 7]), ([8, 5], [5, 8]), ([9, 5], [5, 9]), ([5], [5]), ([5], [5]), ([11, 12, 5], [5, 11, 12]), ([13, 5], [5, 13]), ([10, 14, 5], [5, 10, 14]), ([5, 15], [5, 15]), ([16, 5], [16]), ([17], [17]), ([17], [17]), ([17], [17]), ([17], [17]), ([18, 19, 20, 21, 17, 17], [17, 18, 19, 20, 21]), ([17, 22], [17, 22])])
def spec_FewestKeys.B13 : List Nat := [0, 0, 3, 7, 15, 31, 63, 63, 255, 511, 1023, 63, 63, 6207, 14399, 32767, 65535, 131071, 262143, 262143, 262143, 262143, 4194303, 8388607]
theorem spec_FewestKeys.tab13 : rtab .any (opsOf Try.f12 13) = spec_FewestKeys.T13 := by kernel_rfl
theorem spec_FewestKeys.bits13 : waitsOk spec_FewestKeys.T13.2 spec_FewestKeys.B13 = true := by kernel_rfl
set_option maxHeartbeats 8000000 in
set_option maxRecDepth 100000 in
theorem spec_FewestKeys.calls (k : Nat) (A0 : Option Addr) (c0 : Nat) (l0 : List Int) (a1 : Int) (r1 : List (S41)) (r2 : Bool) (w : World) (hr0 : Kd.C (Kd.int .i64) w A0 l0.length l0) (hc0 : l0.length ≤ c0) (h : spec_FewestKeys.f k l0 a1 = some (r1, r2)) :
  Calls Try.prog 12 #[.slice A0 l0.length c0, .int .i64 a1] w fun e w' => ∃ v0_ : Value, e = .returned (.tuple #[v0_, .bool r2]) ∧ Kd.R k41 41 w' w.heap.size (fun _ => True) v0_ r1 ∧ Below w.heap.size w w' := by
 have hu41 := Try.underlying41
 have HR0 := Aside0.mk hr0
 have HC0 := Aside0.mk hc0
 clear hr0 hc0
 have HB := Aside0.mk (Below.refl w.heap.size w)
 have H : ((spec_l11Values.f k l0).bind fun t248 => (if t248 = true then ((spec_l1In.f a1 0 100000).bind fun t249 => (spec_FewestKeys.j0 k l0 a1 (!t249))) else (spec_FewestKeys.j0 k l0 a1 true))) = some (r1, r2) := h
 clear h
 have HC3 := Aside0.mk H
 clear H
 go_enter Try.func12, Try.ntmps12
 go_upto_region 1 with (fail)
 go_cut [20] (fun v20 wc => ∃ (kq : Nat) (x20_2 : Bool), v20 = .bool x20_2 ∧ Aside0 (spec_FewestKeys.j0 kq l0 a1 x20_2 = some (r1, r2)) ∧ Aside0 (kq ≤ k) ∧ Aside0 (Below w.heap.size w wc))
 case first =>
  have H := HC3.out
  clear HC3
  replace H := Option.bind_eq_some_iff.mp H
  obtain ⟨t248, A40, H⟩ := H
  replace H : (if t248 = true then ((spec_l1In.f a1 0 100000).bind fun t249 => (spec_FewestKeys.j0 k l0 a1 (!t249))) else (spec_FewestKeys.j0 k l0 a1 true)) = some (r1, r2) := H
  have A4 := Aside0.mk A40
  clear A40
  by_cases c5 : t248 = true
  ·subst c5
   have H1 : ((spec_l1In.f a1 0 100000).bind fun t249 => (spec_FewestKeys.j0 k l0 a1 (!t249))) = some (r1, r2) := by rw [if_pos rfl] at H; exact H
   clear H
   have H := H1
   clear H1
   replace H := Option.bind_eq_some_iff.mp H
   obtain ⟨t249, A60, H⟩ := H
   replace H : (spec_FewestKeys.j0 k l0 a1 (!t249)) = some (r1, r2) := H
   have A6 := Aside0.mk A60
   clear A60
   have H' := Aside0.mk H
   clear H
   go_wp2_with (first | ((with_reducible refine gate_callee (f := 25) rfl ?_); refine goesL_ (some 14) rfl rfl Try.func25 (by kernel_rfl) rfl #[.slice A0 l0.length c0] rfl aE ?_; (with_reducible refine (spec_l11Values.calls k _ _ l0 true _ ?side1 ?side2 A4.out).mono ?_); (case side1 => exact cU (Kd.C_below HR0.out HB.out)); (case side2 => exact HC0.out); rintro e w' ⟨rfl, ⟨nd, rfl⟩⟩; refine ⟨_, rfl, ?_⟩) | (go_at_call 26; (with_reducible refine (spec_l1In.calls a1 0 100000 t249 _ A6.out).mono ?_); rintro e w' ⟨rfl, ⟨nd, rfl⟩⟩))
   go_meet
   case rel => exact ⟨_, (!t249), tE, H', ⟨by first | omega | exact Nat.le_refl _⟩, ⟨by repeat (first | (with_reducible first | exact HB.out | apply below_alloc | apply pw_below_drewN | apply below_drew1) | exact HB.out)⟩⟩
  ·replace c5 := Bool.eq_false_iff.mpr c5
   subst c5
   have H1 : (spec_FewestKeys.j0 k l0 a1 true) = some (r1, r2) := by rw [if_neg (show ¬ (false = true) by decide)] at H; exact H
   clear H
   have H := H1
   clear H1
   have H' := Aside0.mk H
   clear H
   go_wp2_with (first | ((with_reducible refine gate_callee (f := 25) rfl ?_); refine goesL_ (some 14) rfl rfl Try.func25 (by kernel_rfl) rfl #[.slice A0 l0.length c0] rfl aE ?_; (with_reducible refine (spec_l11Values.calls k _ _ l0 false _ ?side1 ?side2 A4.out).mono ?_); (case side1 => exact cU (Kd.C_below HR0.out HB.out)); (case side2 => exact HC0.out); rintro e w' ⟨rfl, ⟨nd, rfl⟩⟩; refine ⟨_, rfl, ?_⟩))
   go_meet
   case rel => exact ⟨_, (true), tE, H', ⟨by first | omega | exact Nat.le_refl _⟩, ⟨by repeat (first | (with_reducible first | exact HB.out | apply below_alloc | apply pw_below_drewN | apply below_drew1) | exact HB.out)⟩⟩
 case rest =>
  clear HC3
  try clear c1
  try clear c2
  try clear p2
  try clear c5
  obtain ⟨kq, x20_2, rfl, HA, HJ2, HB⟩ := hcut
  cases kq with
  | zero => exact absurd HA.out (by simp [spec_FewestKeys.j0])
  | succ kj2 =>
   have H := HA.out
   clear HA
   simp only [spec_FewestKeys.j0] at H
   by_cases c7 : x20_2 = true
   ·subst c7
    have H1 : (some (([] : List (S41)), false)) = some (r1, r2) := by rw [if_pos rfl] at H; exact H
    clear H
    have H := H1
    clear H1
    simp only [Option.some.injEq, Prod.mk.injEq] at H
    obtain ⟨rfl, rfl⟩ := H
    go_wp2
    go_ret2
    exact ⟨_, eE, by first | exact Kd.R_nil _ _ _ _ _ | exact Kd.N_nil _ _ _ _ _ | exact Kd.V_nil _ _ _ _ _ | exact Kd.Q_nil _ _ _ _ _ | exact Kd.S_nil _ _ _ _ _, lU⟩
   ·replace c7 := Bool.eq_false_iff.mpr c7
    subst c7
    have H1 : (if 0 ≤ (l0.length : Int) then (if ((l0.length : Int) : Int).toNat ≤ 35184372088832 then (spec_FewestKeys.l0 kj2 l0 a1 (l0.length : Int) (List.replicate ((l0.length : Int) : Int).toNat 0) (List.replicate ((l0.length : Int) : Int).toNat 0) (wrap64 ((l0.length : Int) - 2))) else (none)) else (none)) = some (r1, r2) := by rw [if_neg (show ¬ (false = true) by decide)] at H; exact H
    clear H
    have H := H1
    clear H1
    by_cases c8 : 0 ≤ (l0.length : Int)
    ·rw [if_pos c8] at H
     have c8b0 := eq_true c8
     have c8b1 : decide (0 ≤ (l0.length : Int)) = true := decide_eq_true c8
     clear c8
     by_cases c9 : ((l0.length : Int) : Int).toNat ≤ 35184372088832
     ·rw [if_pos c9] at H
      have c9b0 := eq_true c9
      have c9b1 : decide (((l0.length : Int) : Int).toNat ≤ 35184372088832) = true := decide_eq_true c9
      clear c9
      obtain ⟨y250, hy250⟩ : ∃ y_ : List Int, y_ = (List.replicate ((l0.length : Int) : Int).toNat 0) := ⟨_, rfl⟩
      replace H : (spec_FewestKeys.l0 kj2 l0 a1 (l0.length : Int) y250 (List.replicate ((l0.length : Int) : Int).toNat 0) (wrap64 ((l0.length : Int) - 2))) = some (r1, r2) := by first | (rw [hy250]; with_reducible exact H) | (have H2_ := (Option.bind_some _ _).symm.trans H; rw [hy250]; with_reducible exact H2_) | (have H2_ := (Option.bind_some _ _).symm.trans H; with_reducible exact H2_) | with_reducible exact H | (rw [hy250]; exact H) | exact H
      have Ny250 := Aside0.mk hy250
      clear hy250
      obtain ⟨y253, hy253⟩ : ∃ y_ : List Int, y_ = (List.replicate ((l0.length : Int) : Int).toNat 0) := ⟨_, rfl⟩
      replace H : (spec_FewestKeys.l0 kj2 l0 a1 (l0.length : Int) y250 y253 (wrap64 ((l0.length : Int) - 2))) = some (r1, r2) := by first | (rw [hy253]; with_reducible exact H) | (have H2_ := (Option.bind_some _ _).symm.trans H; rw [hy253]; with_reducible exact H2_) | (have H2_ := (Option.bind_some _ _).symm.trans H; with_reducible exact H2_) | with_reducible exact H | (rw [hy253]; exact H) | exact H
      have Ny253 := Aside0.mk hy253
      clear hy253
      have H' := Aside0.mk H
      clear H
      go_wp2_with (first | ((with_reducible refine gate_dst (N := 24) rfl ?_); refine Kd.R_make (Kd.int .i64) _ 3 rfl (N := 24) rfl 32 _ _ rfl (l0.length : Int) rfl rfl Try.underlying32 (.int .i64 0) 8 info3 rfl (by decide) (by omega) 0 (ok := fun _ => True) (okp := fun _ => True) rfl (fun _ hk => hk) trivial (of_decide_eq_true hE) (Nat.le_trans (Nat.mul_le_mul_right _ (of_decide_eq_true hE : (l0.length : Int).toNat ≤ 35184372088832)) (by omega)) (Below.refl _ _) (Nat.le_refl _) ?_; intro v251 w10 ho11 hb hg_ hnew_; clear hg_ hnew_; (first | rw [← Ny250.out] at ho11 | (simp only [Int.reduceToNat] at ho11; rw [← Ny250.out] at ho11)); have HO252 := Aside0.mk (Kd.R_lower ho11 (below_size (lU))); replace HB := bH (lU) hb; clear hb ho11) | ((with_reducible refine gate_dst (N := 26) rfl ?_); refine Kd.R_make (Kd.int .i64) _ 3 rfl (N := 26) rfl 32 _ _ rfl (l0.length : Int) rfl rfl Try.underlying32 (.int .i64 0) 8 info3 rfl (by decide) (by omega) 0 (ok := fun _ => True) (okp := fun _ => True) rfl (fun _ hk => hk) trivial (of_decide_eq_true hE) (Nat.le_trans (Nat.mul_le_mul_right _ (of_decide_eq_true hE : (l0.length : Int).toNat ≤ 35184372088832)) (by omega)) (Below.refl _ _) (Nat.le_refl _) ?_; intro v254 w12 ho13 hb hg_ hnew_; clear hg_ hnew_; (first | rw [← Ny253.out] at ho13 | (simp only [Int.reduceToNat] at ho13; rw [← Ny253.out] at ho13)); have HO255 := Aside0.mk (Kd.R_lower (Kd.R_new' ho13 (Kd.R_lt (rU HO252.out))) (below_size (lU))); replace HO252 := Aside0.mk (Kd.R_elder' (rU HO252.out) (Kd.R_base ho13) hb); replace HB := bH (lU) hb; clear hb ho13))
      (try simp only [Act.put, List.setIfInBounds_toArray, List.set_cons_zero, List.set_cons_succ])
      go_loopg [9] kj2 (fun kq v9 w' => ∃ (x7_2 : List Int) (x8_2 : List Int) (x9_2 : Int), v9 = .int .i64 x9_2 ∧ Aside0 (spec_FewestKeys.l0 kq l0 a1 (l0.length : Int) x7_2 x8_2 x9_2 = some (r1, r2)) ∧ Aside0 (kq ≤ kj2) ∧ Aside0 (Kd.R (Kd.int .i64) 3 w' w.heap.size (fun k_ => some k_ ≠ (v254 : Value).ownBlock) v251 x7_2) ∧ Aside0 (Kd.R (Kd.int .i64) 3 w' w.heap.size (fun k_ => some k_ ≠ (v251 : Value).ownBlock) v254 x8_2) ∧ Aside0 (Below w.heap.size w w'))
      case atStart => exact ⟨(y250), (y253), (wrap64 ((l0.length : Int) - 2)), tE, H', ⟨Nat.le_refl _⟩, ⟨by (with_reducible repeat (first | apply Kd.R_alloc | apply Kd.R_drewN | apply Kd.R_drew)); exact Kd.R_mono HO252.out (fun _ hk => hk.2)⟩, ⟨by (with_reducible repeat (first | apply Kd.R_alloc | apply Kd.R_drewN | apply Kd.R_drew)); exact Kd.R_mono HO255.out (fun _ hk => hk.2)⟩, ⟨by repeat (first | (with_reducible first | exact HB.out | apply below_alloc | apply pw_below_drewN | apply below_drew1) | exact HB.out)⟩⟩
      case round =>
       clear H'
       try clear c1
       try clear c2
       try clear p2
       try clear c5
       try clear p6
       try clear c7
       try clear c8
       try clear c8b0
       try clear c8b1
       try clear c9
       try clear c9b0
       try clear c9b1
       try clear c12
       try clear p2
       obtain ⟨x7_2, x8_2, x9_2, rfl, HA, HK2, HO_7, HO_8, HB⟩ := hrel
       cases gk with
       | zero => exact absurd HA.out (by simp [spec_FewestKeys.l0])
       | succ k2 =>
        have H := HA.out
        clear HA
        simp only [spec_FewestKeys.l0] at H
        by_cases c14 : x9_2 ≥ 0
        ·rw [if_pos c14] at H
         have c14b0 : decide (0 ≤ x9_2) = true := decide_eq_true c14
         clear c14
         by_cases c15 : 0 ≤ x9_2
         ·rw [if_pos c15] at H
          have c15b0 : decide (0 ≤ x9_2) = true := decide_eq_true c15
          clear c15
          by_cases c16 : x9_2 < (x7_2.length : Int)
          ·rw [if_pos c16] at H
           have c16b0 : decide (x9_2 < (x7_2.length : Int)) = true := decide_eq_true c16
           clear c16
           obtain ⟨y256, hy256⟩ : ∃ y_ : List Int, y_ = (x7_2.set (x9_2 : Int).toNat (-1)) := ⟨_, rfl⟩
           replace H : (spec_FewestKeys.l1 k2 l0 a1 (l0.length : Int) y256 x8_2 x9_2 (wrap64 (x9_2 + 1))) = some (r1, r2) := by first | (rw [hy256]; with_reducible exact H) | (have H2_ := (Option.bind_some _ _).symm.trans H; rw [hy256]; with_reducible exact H2_) | (have H2_ := (Option.bind_some _ _).symm.trans H; with_reducible exact H2_) | with_reducible exact H | (rw [hy256]; exact H) | exact H
           have Ny256 := Aside0.mk hy256
           clear hy256
           have H' := Aside0.mk H
           clear H
           have p17 : 0 ≤ (x9_2 : Int) := of_decide_eq_true hE
           have q17 : (x9_2 : Int) < ((x7_2.length : Int) : Int) := of_decide_eq_true hE
           obtain ⟨go17, co17, eo17, gb17, gl17, cl17, HG17⟩ := Kd.R_form HO_7.out (by omega)
           (first | cases eo17 | (injection eo17 with ea_ en_ ec_; (first | subst ea_ | (injection ea_ with ea_; subst ea_)); subst ec_; clear en_))
           have GB17 := Aside0.mk gb17
           have GG17 := Aside0.mk HG17
           clear gb17 gl17 HG17
           obtain ⟨hx17_0, hf17_0⟩ := Kd.R_celln 0 HO_7.out (x9_2 : Int) p17 q17
           replace p17 := eq_true p17
           replace q17 := eq_true q17
           have HP18 := Kd.R_putg HO_7.out (x9_2 : Int) (-1)
           go_wp2_with (first | ((with_reducible refine gate_store (t := 3) (p := 35) rfl ?_); refine store_event (t := 3) (p := 35) (v := ?vo_w19) (w1 := (wr.setCell ⟨go17, (x9_2 : Int).toNat, none⟩ (.int .i64 (-1)))) ?hg ?ho ?hn ?hr ?_; (case ho => rfl); (case hg => rfl); (case hn => rfl); (case hr => exact sE); intro w19 hw; have hg : wr.grownBy w19 (some go17) := (by rw [hw]; exact HP18.2); have hp_ : Kd.R (Kd.int .i64) 3 w19 w.heap.size (fun k_ => some k_ ≠ (v254 : Value).ownBlock) (.slice (some ⟨go17, 0, none⟩) x7_2.length co17) y256 := (by rw [hw, Ny256.out]; exact HP18.1); clear HP18; replace HO_7 := Aside0.mk hp_; replace HO_8 := Aside0.mk (Kd.R_after (v := (.slice (some ⟨go17, 0, none⟩) x7_2.length co17)) (v1 := (.slice (some ⟨go17, 0, none⟩) x7_2.length co17)) (ok := (fun _ => True)) (by (with_reducible repeat (first | apply Kd.R_alloc | apply Kd.R_drewN | apply Kd.R_drew)); exact Kd.R_mono HO_8.out (fun _ hk => ⟨trivial, hk⟩)) hg (.inl rfl)); replace HB := Aside0.mk ((by rw [hw]; exact below_set (HB.out) GB17.out : Below w.heap.size w w19)); clear hg hw hp_))
           (try simp only [Act.put, List.setIfInBounds_toArray, List.set_cons_zero, List.set_cons_succ])
           go_loopg [10] k2 (fun kq v10 w' => ∃ (x7_3 : List Int) (x8_3 : List Int) (x10_3 : Int), v10 = .int .i64 x10_3 ∧ Aside0 (spec_FewestKeys.l1 kq l0 a1 (l0.length : Int) x7_3 x8_3 x9_2 x10_3 = some (r1, r2)) ∧ Aside0 (kq ≤ k2) ∧ Aside0 (Kd.R (Kd.int .i64) 3 w' w.heap.size (fun k_ => some k_ ≠ (v254 : Value).ownBlock) (.slice (some ⟨go17, 0, none⟩) x7_2.length co17) x7_3) ∧ Aside0 (Kd.R (Kd.int .i64) 3 w' w.heap.size (fun k_ => some k_ ≠ ((.slice (some ⟨go17, 0, none⟩) x7_2.length co17) : Value).ownBlock) v254 x8_3) ∧ Aside0 (Below w.heap.size w w'))
           case atStart => exact ⟨(y256), (x8_2), (wrap64 (x9_2 + 1)), tE, H', ⟨Nat.le_refl _⟩, ⟨by (with_reducible repeat (first | apply Kd.R_alloc | apply Kd.R_drewN | apply Kd.R_drew)); exact HO_7.out⟩, ⟨by (with_reducible repeat (first | apply Kd.R_alloc | apply Kd.R_drewN | apply Kd.R_drew)); exact Kd.R_mono HO_8.out (fun _ hk => hk.2)⟩, ⟨by repeat (first | (with_reducible first | exact HB.out | apply below_alloc | apply pw_below_drewN | apply below_drew1) | exact HB.out)⟩⟩
           case round =>
            clear H'
            try clear c1
            try clear p1
            try clear q1
            try clear hx1
            try clear c2
            try clear p2
            try clear c5
            try clear p6
            try clear c7
            try clear c8
            try clear c8b0
            try clear c8b1
            try clear c9
            try clear c9b0
            try clear c9b1
            try clear c12
            try clear c14
            try clear c14b0
            try clear c15
            try clear c15b0
            try clear c16
            try clear c16b0
            try clear p17
            try clear q17
            try clear hx17
            try clear hf17
            try clear hx17_0
            try clear p17
            try clear p2
            try clear p6
            try clear q17
            obtain ⟨x7_3, x8_3, x10_3, rfl, HA, HK3, HO_7, HO_8, HB⟩ := hrel
            have hl7_3 := (Kd.R_reads' HO_7.out).1
            rw [hl7_3] at HO_7
            (try simp only [hl7_3])
            (try simp only [hl7_3] at HO_8)
            cases gk with
            | zero => exact absurd HA.out (by simp [spec_FewestKeys.l1])
            | succ k3 =>
             have H := HA.out
             clear HA
             simp only [spec_FewestKeys.l1] at H
             by_cases c20 : x10_3 < (l0.length : Int)
             ·rw [if_pos c20] at H
              have c20b0 : decide (x10_3 < (l0.length : Int)) = true := decide_eq_true c20
              clear c20
              by_cases c21 : 0 ≤ x9_2
              ·rw [if_pos c21] at H
               have c21b0 : decide (0 ≤ x9_2) = true := decide_eq_true c21
               clear c21
               by_cases c22 : x9_2 < (x7_3.length : Int)
               ·rw [if_pos c22] at H
                have c22b0 : decide (x9_2 < (x7_3.length : Int)) = true := decide_eq_true c22
                clear c22
                by_cases c23 : (rd x7_3 x9_2) < 0
                ·rw [if_pos c23] at H
                 have c23b0 : decide ((rd x7_3 x9_2) < 0) = true := decide_eq_true c23
                 clear c23
                 replace H := Option.bind_eq_some_iff.mp H
                 obtain ⟨t258, A240, H⟩ := H
                 replace H : (if t258 = true then (if 0 ≤ x10_3 then (if x10_3 < (x7_3.length : Int) then (if x9_2 < (x8_3.length : Int) then (spec_FewestKeys.l1 k3 l0 a1 (l0.length : Int) (x7_3.set (x9_2 : Int).toNat (wrap64 ((rd x7_3 x10_3) + 1))) (x8_3.set (x9_2 : Int).toNat x10_3) x9_2 (wrap64 (x10_3 + 1))) else (none)) else (none)) else (none)) else (spec_FewestKeys.l1 k3 l0 a1 (l0.length : Int) x7_3 x8_3 x9_2 (wrap64 (x10_3 + 1)))) = some (r1, r2) := H
                 have A24 := Aside0.mk A240
                 clear A240
                 by_cases c25 : t258 = true
                 ·subst c25
                  have H1 : (if 0 ≤ x10_3 then (if x10_3 < (x7_3.length : Int) then (if x9_2 < (x8_3.length : Int) then (spec_FewestKeys.l1 k3 l0 a1 (l0.length : Int) (x7_3.set (x9_2 : Int).toNat (wrap64 ((rd x7_3 x10_3) + 1))) (x8_3.set (x9_2 : Int).toNat x10_3) x9_2 (wrap64 (x10_3 + 1))) else (none)) else (none)) else (none)) = some (r1, r2) := by rw [if_pos rfl] at H; exact H
                  clear H
                  have H := H1
                  clear H1
                  by_cases c26 : 0 ≤ x10_3
                  ·rw [if_pos c26] at H
                   have c26b0 : decide (0 ≤ x10_3) = true := decide_eq_true c26
                   clear c26
                   by_cases c27 : x10_3 < (x7_3.length : Int)
                   ·rw [if_pos c27] at H
                    have c27b0 : decide (x10_3 < (x7_3.length : Int)) = true := decide_eq_true c27
                    clear c27
                    obtain ⟨y260, hy260⟩ : ∃ y_ : List Int, y_ = (x7_3.set (x9_2 : Int).toNat (wrap64 ((rd x7_3 x10_3) + 1))) := ⟨_, rfl⟩
                    replace H : (if x9_2 < (x8_3.length : Int) then (spec_FewestKeys.l1 k3 l0 a1 (l0.length : Int) y260 (x8_3.set (x9_2 : Int).toNat x10_3) x9_2 (wrap64 (x10_3 + 1))) else (none)) = some (r1, r2) := by first | (rw [hy260]; with_reducible exact H) | (have H2_ := (Option.bind_some _ _).symm.trans H; rw [hy260]; with_reducible exact H2_) | (have H2_ := (Option.bind_some _ _).symm.trans H; with_reducible exact H2_) | with_reducible exact H | (rw [hy260]; exact H) | exact H
                    have Ny260 := Aside0.mk hy260
                    clear hy260
                    by_cases c29 : x9_2 < (x8_3.length : Int)
                    ·rw [if_pos c29] at H
                     have c29b0 : decide (x9_2 < (x8_3.length : Int)) = true := decide_eq_true c29
                     clear c29
                     obtain ⟨y261, hy261⟩ : ∃ y_ : List Int, y_ = (x8_3.set (x9_2 : Int).toNat x10_3) := ⟨_, rfl⟩
                     replace H : (spec_FewestKeys.l1 k3 l0 a1 (l0.length : Int) y260 y261 x9_2 (wrap64 (x10_3 + 1))) = some (r1, r2) := by first | (rw [hy261]; with_reducible exact H) | (have H2_ := (Option.bind_some _ _).symm.trans H; rw [hy261]; with_reducible exact H2_) | (have H2_ := (Option.bind_some _ _).symm.trans H; with_reducible exact H2_) | with_reducible exact H | (rw [hy261]; exact H) | exact H
                     have Ny261 := Aside0.mk hy261
                     clear hy261
                     have H' := Aside0.mk H
                     clear H
                     try go_wp2
                     replace HO_7 := Aside0.mk (Kd.R_drew HO_7.out)
                     replace HO_8 := Aside0.mk (Kd.R_drew HO_8.out)
                     replace HB := Aside0.mk (below_drew1 HB.out)
                     have p257 : 0 ≤ (x9_2 : Int) := of_decide_eq_true hE
                     have q257 : x9_2 < (x7_3.length : Int) := of_decide_eq_true hE
                     obtain ⟨ad257, e257, hx257_0⟩ := Kd.at_int (Kd.R_reads' HO_7.out).2.2 x9_2 p257 q257
                     obtain rfl : (⟨go17, 0, none⟩ : Addr) = ad257 := (by injection e257)
                     (first | simp only [add_plain] at hx257_0 | simp only [add_at] at hx257_0 | simp only [Addr.add, Nat.zero_add] at hx257_0 | skip)
                     replace p257 := eq_true p257
                     replace q257 := eq_true q257
                     refine start_ (n := 24) (S := fun w' => w'.cell? ⟨go17, (x9_2).toNat, none⟩ = some (.int .i64 (rd x7_3 x9_2))) (ds := []) #[false, false, false, false, false, false, false, false, false, false, false, false, false, false, false, false, false, false, false, false, false, false, false, false] (by kernel_rfl) rfl rfl (hx257_0) (fun hHeld => ?_); refine with_tabW spec_FewestKeys.tab13 spec_FewestKeys.bits13 (fun HT_ HW_ => ?_)
                     generalize wr.drew = w31 at HO_7 HO_8 HB hx257_0 hHeld ⊢
                     refine pureA 0 43 (bz 24 1) rfl rfl (any_of HT_.out (by kernel_rfl)) ?_
                     refine pureA 1 44 (bz 24 3) rfl rfl (any_of HT_.out (by kernel_rfl)) ?_
                     refine pureA 2 45 (bz 24 7) rfl rfl (any_of HT_.out (by kernel_rfl)) ?_
                     refine take_ (i := 3) (N := some 46) (v := ?_) (a' := ?_) (bz 24 15) rfl rfl (take_ofW HT_.out HW_.out (by kernel_rfl)) (fun _ _ _ h => h) (Or.inl ⟨by rfl, ?_⟩) hHeld ?_ ?_
                     rotate_left
                     ·intro w' s0
                      go_simp
                      with_reducible rfl
                     rotate_left
                     ·simp only [Act.put, List.setIfInBounds_toArray, List.set_cons_zero, List.set_cons_succ, i64_w, i32_w]
                      rfl
                     refine pureA 4 47 (bz 24 31) rfl rfl (any_of HT_.out (by kernel_rfl)) ?_
                     refine pureA 5 48 (bz 24 63) rfl rfl (any_of HT_.out (by kernel_rfl)) ?_
                     refine pureU 6 49 (bz 24 127) rfl rfl (any_of HT_.out (by kernel_rfl)) ?_
                     refine pureU 7 50 (bz 24 255) rfl rfl (any_of HT_.out (by kernel_rfl)) ?_
                     refine pureU 8 51 (bz 24 511) rfl rfl (any_of HT_.out (by kernel_rfl)) ?_
                     refine pureU 9 52 (bz 24 1023) rfl rfl (any_of HT_.out (by kernel_rfl)) ?_
                     refine pureU 10 53 (bz 24 2047) rfl rfl (any_of HT_.out (by kernel_rfl)) ?_
                     refine pureU 11 54 (bz 24 4095) rfl rfl (any_of HT_.out (by kernel_rfl)) ?_
                     refine pureU 12 55 (bz 24 8191) rfl rfl (any_of HT_.out (by kernel_rfl)) ?_
                     refine pureU 13 56 (bz 24 16383) rfl rfl (any_of HT_.out (by kernel_rfl)) ?_
                     refine pureU 14 57 (bz 24 32767) rfl rfl (any_of HT_.out (by kernel_rfl)) ?_
                     refine pureU 15 58 (bz 24 65535) rfl rfl (any_of HT_.out (by kernel_rfl)) ?_
                     refine pureA 16 59 (bz 24 131071) rfl rfl (any_of HT_.out (by kernel_rfl)) ?_
                     refine pureA 17 60 (bz 24 262143) rfl rfl (any_of HT_.out (by kernel_rfl)) ?_
                     refine pureA 18 61 (bz 24 524287) rfl rfl (any_of HT_.out (by kernel_rfl)) ?_
                     refine pureA 19 62 (bz 24 1048575) rfl rfl (any_of HT_.out (by kernel_rfl)) ?_
                     refine pureA 20 63 (bz 24 2097151) rfl rfl (any_of HT_.out (by kernel_rfl)) ?_
                     refine pureA 21 64 (bz 24 4194303) rfl rfl (any_of HT_.out (by kernel_rfl)) ?_
                     refine one_ (i := 22) (N := some 65) (bz 24 8388607) rfl rfl (one_of HT_.out (by kernel_rfl)) (by decide) (fun K hK => ?_)
                     refine goes_ Try.func27 (by kernel_rfl) rfl #[.slice A0 l0.length c0, .int .i64 x9_2, .int .i64 x10_3, .int .i64 a1] (by rfl) rfl rfl aE ?_
                     with_reducible refine (spec_l11Spans.calls k3 _ _ l0 x9_2 x10_3 a1 true _ ?side1 ?side2 A24.out).mono ?_
                     (case side1 => exact cU (Kd.C_below HR0.out HB.out))
                     (case side2 => exact HC0.out)
                     rintro e w32 ⟨rfl, hb⟩
                     have HS0_ := (hb.cell (World.block_lt_of_cell? _ _ (hHeld))).trans (hHeld)
                     refine ⟨_, rfl, ?_⟩
                     replace HO_7 := Aside0.mk (Kd.R_below (rU HO_7.out) hb)
                     replace HO_8 := Aside0.mk (Kd.R_below (rU HO_8.out) hb)
                     replace HB := bH (lU) hb
                     (try clear hb)
                     (try clear hb2)
                     (try clear hk)
                     (try clear hi)
                     refine hK.out _ _ (HS0_) (fun hHeld => ?_)
                     clear hK K
                     refine norm_ (a' := ?_) ?_ ?_
                     rotate_left
                     ·show Act.put _ (some 65) _ = _
                      simp only [Act.put, List.setIfInBounds_toArray, List.set_cons_zero, List.set_cons_succ, i64_w, i32_w]
                      rfl
                     refine pureA 23 66 (bz 24 16777215) rfl rfl (any_of HT_.out (by kernel_rfl)) ?_
                     refine done_ (done_of HT_.out (by kernel_rfl)) ?_
                     have p259 : 0 ≤ (x10_3 : Int) := of_decide_eq_true hE
                     have q259 : x10_3 < (x7_3.length : Int) := of_decide_eq_true hE
                     obtain ⟨ad259, e259, hx259_0⟩ := Kd.at_int (Kd.R_reads' HO_7.out).2.2 x10_3 p259 q259
                     obtain rfl : (⟨go17, 0, none⟩ : Addr) = ad259 := (by injection e259)
                     (first | simp only [add_plain] at hx259_0 | simp only [add_at] at hx259_0 | simp only [Addr.add, Nat.zero_add] at hx259_0 | skip)
                     replace p259 := eq_true p259
                     replace q259 := eq_true q259
                     have p28 : 0 ≤ (x9_2 : Int) := of_decide_eq_true hE
                     have q28 : (x9_2 : Int) < ((x7_3.length : Int) : Int) := of_decide_eq_true hE
                     obtain ⟨hx28_0, hf28_0⟩ := Kd.R_celln 0 HO_7.out (x9_2 : Int) p28 q28
                     replace p28 := eq_true p28
                     replace q28 := eq_true q28
                     obtain ⟨hy33_, hz33_⟩ := Kd.R_celln 0 HO_7.out (x9_2 : Int) (of_decide_eq_true hE) (of_decide_eq_true hE)
                     have HP33 := Kd.R_putg HO_7.out (x9_2 : Int) (wrap64 ((rd x7_3 x10_3) + 1))
                     try go_wp2_with (first | ((with_reducible refine gate_store (t := 3) (p := 74) rfl ?_); refine store_event (t := 3) (p := 74) (v := ?vo_w34) (w1 := (w32.setCell ⟨go17, (x9_2 : Int).toNat, none⟩ (.int .i64 (wrap64 ((rd x7_3 x10_3) + 1))))) ?hg ?ho ?hn ?hr ?_; (case ho => rfl); (case hg => rfl); (case hn => rfl); (case hr => exact sE); intro w34 hw; have hg : w32.grownBy w34 (some go17) := (by rw [hw]; exact HP33.2); have hp_ : Kd.R (Kd.int .i64) 3 w34 w.heap.size (fun k_ => some k_ ≠ (v254 : Value).ownBlock) (.slice (some ⟨go17, 0, none⟩) x7_3.length co17) y260 := (by rw [hw, Ny260.out]; exact HP33.1); clear HP33; replace HO_7 := Aside0.mk hp_; replace HO_8 := Aside0.mk (Kd.R_after (v := (.slice (some ⟨go17, 0, none⟩) x7_3.length co17)) (v1 := (.slice (some ⟨go17, 0, none⟩) x7_3.length co17)) (ok := (fun _ => True)) (by (with_reducible repeat (first | apply Kd.R_alloc | apply Kd.R_drewN | apply Kd.R_drew)); exact Kd.R_mono HO_8.out (fun _ hk => ⟨trivial, hk⟩)) hg (.inl rfl)); replace HB := Aside0.mk ((by rw [hw]; exact below_set (HB.out) GB17.out : Below w.heap.size w w34)); clear hg hw hp_; have p30 : 0 ≤ (x9_2 : Int) := of_decide_eq_true hE; have q30 : (x9_2 : Int) < ((x8_3.length : Int) : Int) := of_decide_eq_true hE; obtain ⟨go30, co30, eo30, gb30, gl30, cl30, HG30⟩ := Kd.R_form HO_8.out (by omega); (first | cases eo30 | (injection eo30 with ea_ en_ ec_; (first | subst ea_ | (injection ea_ with ea_; subst ea_)); subst ec_; clear en_)); have GB30 := Aside0.mk gb30; have GG30 := Aside0.mk HG30; clear gb30 gl30 HG30; obtain ⟨hx30_0, hf30_0⟩ := Kd.R_celln 0 HO_8.out (x9_2 : Int) p30 q30; replace p30 := eq_true p30; replace q30 := eq_true q30; have n_ := Aside0.mk (Kd.R_mono (ok' := (fun k_ => some k_ ≠ (.slice (some ⟨go17, 0, none⟩) x7_3.length co17 : Value).ownBlock)) HO_8.out (fun k_ hk => hk.2)); clear HO_8; have HO_8 := n_; clear n_; obtain ⟨hy35_, hz35_⟩ := Kd.R_celln 0 HO_8.out (x9_2 : Int) (of_decide_eq_true hE) (of_decide_eq_true hE); have HP35 := Kd.R_putg HO_8.out (x9_2 : Int) x10_3) | ((with_reducible refine gate_store (t := 3) (p := 78) rfl ?_); refine store_event (t := 3) (p := 78) (v := ?vo_w36) (w1 := (w34.setCell ⟨go30, (x9_2 : Int).toNat, none⟩ (.int .i64 x10_3))) ?hg ?ho ?hn ?hr ?_; (case ho => rfl); (case hg => rfl); (case hn => rfl); (case hr => exact sE); intro w36 hw; have hg : w34.grownBy w36 (some go30) := (by rw [hw]; exact HP35.2); have hp_ : Kd.R (Kd.int .i64) 3 w36 w.heap.size (fun k_ => some k_ ≠ (.slice (some ⟨go17, 0, none⟩) x7_3.length co17 : Value).ownBlock) (.slice (some ⟨go30, 0, none⟩) x8_3.length co30) y261 := (by rw [hw, Ny261.out]; exact HP35.1); clear HP35; replace HO_7 := Aside0.mk (Kd.R_after (v := (.slice (some ⟨go30, 0, none⟩) x8_3.length co30)) (v1 := (.slice (some ⟨go30, 0, none⟩) x8_3.length co30)) (ok := (fun _ => True)) (by (with_reducible repeat (first | apply Kd.R_alloc | apply Kd.R_drewN | apply Kd.R_drew)); exact Kd.R_mono HO_7.out (fun _ hk => ⟨trivial, hk⟩)) hg (.inl rfl)); replace HO_8 := Aside0.mk hp_; replace HB := Aside0.mk ((by rw [hw]; exact below_set (HB.out) GB30.out : Below w.heap.size w w36)); clear hg hw hp_))
                     (try simp only [← hl7_3])
                     go_roundg k3
                     case measure => have := HJ2.out; have := HK2.out; have := HK3.out; omega
                     case rel => exact ⟨(y260), (y261), (wrap64 (x10_3 + 1)), tE, H', ⟨by have := HJ2.out; have := HK2.out; have := HK3.out; omega⟩, ⟨by (try simp only [hl7_3]); (with_reducible repeat (first | apply Kd.R_alloc | apply Kd.R_drewN | apply Kd.R_drew)); exact Kd.R_mono HO_7.out (fun _ hk => hk.2)⟩, ⟨by (try simp only [hl7_3]); (with_reducible repeat (first | apply Kd.R_alloc | apply Kd.R_drewN | apply Kd.R_drew)); exact HO_8.out⟩, ⟨by repeat (first | (with_reducible first | exact HB.out | apply below_alloc | apply pw_below_drewN | apply below_drew1) | exact HB.out)⟩⟩
                    ·rw [if_neg c29] at H
                     exact absurd H (by simp)
                   ·rw [if_neg c27] at H
                    exact absurd H (by simp)
                  ·rw [if_neg c26] at H
                   exact absurd H (by simp)
                 ·replace c25 := Bool.eq_false_iff.mpr c25
                  subst c25
                  have H1 : (spec_FewestKeys.l1 k3 l0 a1 (l0.length : Int) x7_3 x8_3 x9_2 (wrap64 (x10_3 + 1))) = some (r1, r2) := by rw [if_neg (show ¬ (false = true) by decide)] at H; exact H
                  clear H
                  have H := H1
                  clear H1
                  have H' := Aside0.mk H
                  clear H
                  try go_wp2
                  replace HO_7 := Aside0.mk (Kd.R_drew HO_7.out)
                  replace HO_8 := Aside0.mk (Kd.R_drew HO_8.out)
                  replace HB := Aside0.mk (below_drew1 HB.out)
                  have p257 : 0 ≤ (x9_2 : Int) := of_decide_eq_true hE
                  have q257 : x9_2 < (x7_3.length : Int) := of_decide_eq_true hE
                  obtain ⟨ad257, e257, hx257_0⟩ := Kd.at_int (Kd.R_reads' HO_7.out).2.2 x9_2 p257 q257
                  obtain rfl : (⟨go17, 0, none⟩ : Addr) = ad257 := (by injection e257)
                  (first | simp only [add_plain] at hx257_0 | simp only [add_at] at hx257_0 | simp only [Addr.add, Nat.zero_add] at hx257_0 | skip)
                  replace p257 := eq_true p257
                  replace q257 := eq_true q257
                  refine start_ (n := 24) (S := fun w' => w'.cell? ⟨go17, (x9_2).toNat, none⟩ = some (.int .i64 (rd x7_3 x9_2))) (ds := []) #[false, false, false, false, false, false, false, false, false, false, false, false, false, false, false, false, false, false, false, false, false, false, false, false] (by kernel_rfl) rfl rfl (hx257_0) (fun hHeld => ?_); refine with_tabW spec_FewestKeys.tab13 spec_FewestKeys.bits13 (fun HT_ HW_ => ?_)
                  generalize wr.drew = w37 at HO_7 HO_8 HB hx257_0 hHeld ⊢
                  refine pureA 0 43 (bz 24 1) rfl rfl (any_of HT_.out (by kernel_rfl)) ?_
                  refine pureA 1 44 (bz 24 3) rfl rfl (any_of HT_.out (by kernel_rfl)) ?_
                  refine pureA 2 45 (bz 24 7) rfl rfl (any_of HT_.out (by kernel_rfl)) ?_
                  refine take_ (i := 3) (N := some 46) (v := ?_) (a' := ?_) (bz 24 15) rfl rfl (take_ofW HT_.out HW_.out (by kernel_rfl)) (fun _ _ _ h => h) (Or.inl ⟨by rfl, ?_⟩) hHeld ?_ ?_
                  rotate_left
                  ·intro w' s0
                   go_simp
                   with_reducible rfl
                  rotate_left
                  ·simp only [Act.put, List.setIfInBounds_toArray, List.set_cons_zero, List.set_cons_succ, i64_w, i32_w]
                   rfl
                  refine pureA 4 47 (bz 24 31) rfl rfl (any_of HT_.out (by kernel_rfl)) ?_
                  refine pureA 5 48 (bz 24 63) rfl rfl (any_of HT_.out (by kernel_rfl)) ?_
                  refine pureU 6 49 (bz 24 127) rfl rfl (any_of HT_.out (by kernel_rfl)) ?_
                  refine pureU 7 50 (bz 24 255) rfl rfl (any_of HT_.out (by kernel_rfl)) ?_
                  refine pureU 8 51 (bz 24 511) rfl rfl (any_of HT_.out (by kernel_rfl)) ?_
                  refine pureU 9 52 (bz 24 1023) rfl rfl (any_of HT_.out (by kernel_rfl)) ?_
                  refine pureU 10 53 (bz 24 2047) rfl rfl (any_of HT_.out (by kernel_rfl)) ?_
                  refine pureU 11 54 (bz 24 4095) rfl rfl (any_of HT_.out (by kernel_rfl)) ?_
                  refine pureU 12 55 (bz 24 8191) rfl rfl (any_of HT_.out (by kernel_rfl)) ?_
                  refine pureU 13 56 (bz 24 16383) rfl rfl (any_of HT_.out (by kernel_rfl)) ?_
                  refine pureU 14 57 (bz 24 32767) rfl rfl (any_of HT_.out (by kernel_rfl)) ?_
                  refine pureU 15 58 (bz 24 65535) rfl rfl (any_of HT_.out (by kernel_rfl)) ?_
                  refine pureA 16 59 (bz 24 131071) rfl rfl (any_of HT_.out (by kernel_rfl)) ?_
                  refine pureA 17 60 (bz 24 262143) rfl rfl (any_of HT_.out (by kernel_rfl)) ?_
                  refine pureA 18 61 (bz 24 524287) rfl rfl (any_of HT_.out (by kernel_rfl)) ?_
                  refine pureA 19 62 (bz 24 1048575) rfl rfl (any_of HT_.out (by kernel_rfl)) ?_
                  refine pureA 20 63 (bz 24 2097151) rfl rfl (any_of HT_.out (by kernel_rfl)) ?_
                  refine pureA 21 64 (bz 24 4194303) rfl rfl (any_of HT_.out (by kernel_rfl)) ?_
                  refine one_ (i := 22) (N := some 65) (bz 24 8388607) rfl rfl (one_of HT_.out (by kernel_rfl)) (by decide) (fun K hK => ?_)
                  refine goes_ Try.func27 (by kernel_rfl) rfl #[.slice A0 l0.length c0, .int .i64 x9_2, .int .i64 x10_3, .int .i64 a1] (by rfl) rfl rfl aE ?_
                  with_reducible refine (spec_l11Spans.calls k3 _ _ l0 x9_2 x10_3 a1 false _ ?side1 ?side2 A24.out).mono ?_
                  (case side1 => exact cU (Kd.C_below HR0.out HB.out))
                  (case side2 => exact HC0.out)
                  rintro e w38 ⟨rfl, hb⟩
                  have HS0_ := (hb.cell (World.block_lt_of_cell? _ _ (hHeld))).trans (hHeld)
                  refine ⟨_, rfl, ?_⟩
                  replace HO_7 := Aside0.mk (Kd.R_below (rU HO_7.out) hb)
                  replace HO_8 := Aside0.mk (Kd.R_below (rU HO_8.out) hb)
                  replace HB := bH (lU) hb
                  (try clear hb)
                  (try clear hb2)
                  (try clear hk)
                  (try clear hi)
                  refine hK.out _ _ (HS0_) (fun hHeld => ?_)
                  clear hK K
                  refine norm_ (a' := ?_) ?_ ?_
                  rotate_left
                  ·show Act.put _ (some 65) _ = _
                   simp only [Act.put, List.setIfInBounds_toArray, List.set_cons_zero, List.set_cons_succ, i64_w, i32_w]
                   rfl
                  refine pureA 23 66 (bz 24 16777215) rfl rfl (any_of HT_.out (by kernel_rfl)) ?_
                  refine done_ (done_of HT_.out (by kernel_rfl)) ?_
                  try go_wp2
                  (try simp only [← hl7_3])
                  go_roundg k3
                  case measure => have := HJ2.out; have := HK2.out; have := HK3.out; omega
                  case rel => exact ⟨(x7_3), (x8_3), (wrap64 (x10_3 + 1)), tE, H', ⟨by have := HJ2.out; have := HK2.out; have := HK3.out; omega⟩, ⟨by (try simp only [hl7_3]); (with_reducible repeat (first | apply Kd.R_alloc | apply Kd.R_drewN | apply Kd.R_drew)); exact HO_7.out⟩, ⟨by (try simp only [hl7_3]); (with_reducible repeat (first | apply Kd.R_alloc | apply Kd.R_drewN | apply Kd.R_drew)); exact HO_8.out⟩, ⟨by repeat (first | (with_reducible first | exact HB.out | apply below_alloc | apply pw_below_drewN | apply below_drew1) | exact HB.out)⟩⟩
                ·rw [if_neg c23] at H
                 have c23b0 : decide ((rd x7_3 x9_2) < 0) = false := decide_eq_false c23
                 clear c23
                 by_cases c39 : 0 ≤ x10_3
                 ·rw [if_pos c39] at H
                  have c39b0 : decide (0 ≤ x10_3) = true := decide_eq_true c39
                  clear c39
                  by_cases c40 : x10_3 < (x7_3.length : Int)
                  ·rw [if_pos c40] at H
                   have c40b0 : decide (x10_3 < (x7_3.length : Int)) = true := decide_eq_true c40
                   clear c40
                   by_cases c41 : (wrap64 ((rd x7_3 x10_3) + 1)) < (rd x7_3 x9_2)
                   ·rw [if_pos c41] at H
                    have c41b0 : decide ((wrap64 ((rd x7_3 x10_3) + 1)) < (rd x7_3 x9_2)) = true := decide_eq_true c41
                    clear c41
                    replace H := Option.bind_eq_some_iff.mp H
                    obtain ⟨t264, A420, H⟩ := H
                    replace H : (if t264 = true then (if x9_2 < (x8_3.length : Int) then (spec_FewestKeys.l1 k3 l0 a1 (l0.length : Int) (x7_3.set (x9_2 : Int).toNat (wrap64 ((rd x7_3 x10_3) + 1))) (x8_3.set (x9_2 : Int).toNat x10_3) x9_2 (wrap64 (x10_3 + 1))) else (none)) else (spec_FewestKeys.l1 k3 l0 a1 (l0.length : Int) x7_3 x8_3 x9_2 (wrap64 (x10_3 + 1)))) = some (r1, r2) := H
                    have A42 := Aside0.mk A420
                    clear A420
                    by_cases c43 : t264 = true
                    ·subst c43
                     have H1 : (if x9_2 < (x8_3.length : Int) then (spec_FewestKeys.l1 k3 l0 a1 (l0.length : Int) (x7_3.set (x9_2 : Int).toNat (wrap64 ((rd x7_3 x10_3) + 1))) (x8_3.set (x9_2 : Int).toNat x10_3) x9_2 (wrap64 (x10_3 + 1))) else (none)) = some (r1, r2) := by rw [if_pos rfl] at H; exact H
                     clear H
                     have H := H1
                     clear H1
                     obtain ⟨y266, hy266⟩ : ∃ y_ : List Int, y_ = (x7_3.set (x9_2 : Int).toNat (wrap64 ((rd x7_3 x10_3) + 1))) := ⟨_, rfl⟩
                     replace H : (if x9_2 < (x8_3.length : Int) then (spec_FewestKeys.l1 k3 l0 a1 (l0.length : Int) y266 (x8_3.set (x9_2 : Int).toNat x10_3) x9_2 (wrap64 (x10_3 + 1))) else (none)) = some (r1, r2) := by first | (rw [hy266]; with_reducible exact H) | (have H2_ := (Option.bind_some _ _).symm.trans H; rw [hy266]; with_reducible exact H2_) | (have H2_ := (Option.bind_some _ _).symm.trans H; with_reducible exact H2_) | with_reducible exact H | (rw [hy266]; exact H) | exact H
                     have Ny266 := Aside0.mk hy266
                     clear hy266
                     by_cases c45 : x9_2 < (x8_3.length : Int)
                     ·rw [if_pos c45] at H
                      have c45b0 : decide (x9_2 < (x8_3.length : Int)) = true := decide_eq_true c45
                      clear c45
                      obtain ⟨y267, hy267⟩ : ∃ y_ : List Int, y_ = (x8_3.set (x9_2 : Int).toNat x10_3) := ⟨_, rfl⟩
                      replace H : (spec_FewestKeys.l1 k3 l0 a1 (l0.length : Int) y266 y267 x9_2 (wrap64 (x10_3 + 1))) = some (r1, r2) := by first | (rw [hy267]; with_reducible exact H) | (have H2_ := (Option.bind_some _ _).symm.trans H; rw [hy267]; with_reducible exact H2_) | (have H2_ := (Option.bind_some _ _).symm.trans H; with_reducible exact H2_) | with_reducible exact H | (rw [hy267]; exact H) | exact H
                      have Ny267 := Aside0.mk hy267
                      clear hy267
                      have H' := Aside0.mk H
                      clear H
                      try go_wp2
                      replace HO_7 := Aside0.mk (Kd.R_drew HO_7.out)
                      replace HO_8 := Aside0.mk (Kd.R_drew HO_8.out)
                      replace HB := Aside0.mk (below_drew1 HB.out)
                      have p257 : 0 ≤ (x9_2 : Int) := of_decide_eq_true hE
                      have q257 : x9_2 < (x7_3.length : Int) := of_decide_eq_true hE
                      obtain ⟨ad257, e257, hx257_0⟩ := Kd.at_int (Kd.R_reads' HO_7.out).2.2 x9_2 p257 q257
                      obtain rfl : (⟨go17, 0, none⟩ : Addr) = ad257 := (by injection e257)
                      (first | simp only [add_plain] at hx257_0 | simp only [add_at] at hx257_0 | simp only [Addr.add, Nat.zero_add] at hx257_0 | skip)
                      replace p257 := eq_true p257
                      replace q257 := eq_true q257
                      have p262 : 0 ≤ (x10_3 : Int) := of_decide_eq_true hE
                      have q262 : x10_3 < (x7_3.length : Int) := of_decide_eq_true hE
                      obtain ⟨ad262, e262, hx262_0⟩ := Kd.at_int (Kd.R_reads' HO_7.out).2.2 x10_3 p262 q262
                      obtain rfl : (⟨go17, 0, none⟩ : Addr) = ad262 := (by injection e262)
                      (first | simp only [add_plain] at hx262_0 | simp only [add_at] at hx262_0 | simp only [Addr.add, Nat.zero_add] at hx262_0 | skip)
                      replace p262 := eq_true p262
                      replace q262 := eq_true q262
                      have p263 : 0 ≤ (x9_2 : Int) := of_decide_eq_true hE
                      have q263 : x9_2 < (x7_3.length : Int) := of_decide_eq_true hE
                      obtain ⟨ad263, e263, hx263_0⟩ := Kd.at_int (Kd.R_reads' HO_7.out).2.2 x9_2 p263 q263
                      obtain rfl : (⟨go17, 0, none⟩ : Addr) = ad263 := (by injection e263)
                      (first | simp only [add_plain] at hx263_0 | simp only [add_at] at hx263_0 | simp only [Addr.add, Nat.zero_add] at hx263_0 | skip)
                      replace p263 := eq_true p263
                      replace q263 := eq_true q263
                      refine start_ (n := 24) (S := fun w' => w'.cell? ⟨go17, (x9_2).toNat, none⟩ = some (.int .i64 (rd x7_3 x9_2)) ∧ w'.cell? ⟨go17, (x10_3).toNat, none⟩ = some (.int .i64 (rd x7_3 x10_3)) ∧ w'.cell? ⟨go17, (x9_2).toNat, none⟩ = some (.int .i64 (rd x7_3 x9_2))) (ds := []) #[false, false, false, false, false, false, false, false, false, false, false, false, false, false, false, false, false, false, false, false, false, false, false, false] (by kernel_rfl) rfl rfl ⟨hx257_0, hx262_0, hx263_0⟩ (fun hHeld => ?_); refine with_tabW spec_FewestKeys.tab13 spec_FewestKeys.bits13 (fun HT_ HW_ => ?_)
                      generalize wr.drew = w47 at HO_7 HO_8 HB hx257_0 hx262_0 hx263_0 hHeld ⊢
                      refine pureA 0 43 (bz 24 1) rfl rfl (any_of HT_.out (by kernel_rfl)) ?_
                      refine pureA 1 44 (bz 24 3) rfl rfl (any_of HT_.out (by kernel_rfl)) ?_
                      refine pureA 2 45 (bz 24 7) rfl rfl (any_of HT_.out (by kernel_rfl)) ?_
                      refine takeA 3 46 (bz 24 15) rfl rfl (take_ofW HT_.out HW_.out (by kernel_rfl)) hHeld (by rintro w' ⟨s0, s1, s2⟩; go_simp; with_reducible rfl) ?_
                      refine pureA 4 47 (bz 24 31) rfl rfl (any_of HT_.out (by kernel_rfl)) ?_
                      refine pureA 5 48 (bz 24 63) rfl rfl (any_of HT_.out (by kernel_rfl)) ?_
                      refine pureA 6 49 (bz 24 127) rfl rfl (any_of HT_.out (by kernel_rfl)) ?_
                      refine pureA 7 50 (bz 24 255) rfl rfl (any_of HT_.out (by kernel_rfl)) ?_
                      refine pureA 8 51 (bz 24 511) rfl rfl (any_of HT_.out (by kernel_rfl)) ?_
                      refine pureA 11 54 (bz 24 2559) rfl rfl (any_of HT_.out (by kernel_rfl)) ?_
                      refine pureA 12 55 (bz 24 6655) rfl rfl (any_of HT_.out (by kernel_rfl)) ?_
                      refine pureA 13 56 (bz 24 14847) rfl rfl (any_of HT_.out (by kernel_rfl)) ?_
                      refine takeA 9 52 (bz 24 15359) rfl rfl (take_ofW HT_.out HW_.out (by kernel_rfl)) hHeld (by rintro w' ⟨s0, s1, s2⟩; go_simp; with_reducible rfl) ?_
                      refine pureA 10 53 (bz 24 16383) rfl rfl (any_of HT_.out (by kernel_rfl)) ?_
                      refine takeA 14 57 (bz 24 32767) rfl rfl (take_ofW HT_.out HW_.out (by kernel_rfl)) hHeld (by rintro w' ⟨s0, s1, s2⟩; go_simp; with_reducible rfl) ?_
                      refine pureA 15 58 (bz 24 65535) rfl rfl (any_of HT_.out (by kernel_rfl)) ?_
                      refine pureA 16 59 (bz 24 131071) rfl rfl (any_of HT_.out (by kernel_rfl)) ?_
                      refine pureA 17 60 (bz 24 262143) rfl rfl (any_of HT_.out (by kernel_rfl)) ?_
                      refine pureA 18 61 (bz 24 524287) rfl rfl (any_of HT_.out (by kernel_rfl)) ?_
                      refine pureA 19 62 (bz 24 1048575) rfl rfl (any_of HT_.out (by kernel_rfl)) ?_
                      refine pureA 20 63 (bz 24 2097151) rfl rfl (any_of HT_.out (by kernel_rfl)) ?_
                      refine pureA 21 64 (bz 24 4194303) rfl rfl (any_of HT_.out (by kernel_rfl)) ?_
                      refine one_ (i := 22) (N := some 65) (bz 24 8388607) rfl rfl (one_of HT_.out (by kernel_rfl)) (by decide) (fun K hK => ?_)
                      refine goes_ Try.func27 (by kernel_rfl) rfl #[.slice A0 l0.length c0, .int .i64 x9_2, .int .i64 x10_3, .int .i64 a1] (by rfl) rfl rfl aE ?_
                      with_reducible refine (spec_l11Spans.calls k3 _ _ l0 x9_2 x10_3 a1 true _ ?side1 ?side2 A42.out).mono ?_
                      (case side1 => exact cU (Kd.C_below HR0.out HB.out))
                      (case side2 => exact HC0.out)
                      rintro e w48 ⟨rfl, hb⟩
                      have HS0_ := (hb.cell (World.block_lt_of_cell? _ _ (hHeld.1))).trans (hHeld.1)
                      have HS1_ := (hb.cell (World.block_lt_of_cell? _ _ (hHeld.2.1))).trans (hHeld.2.1)
                      have HS2_ := (hb.cell (World.block_lt_of_cell? _ _ (hHeld.2.2))).trans (hHeld.2.2)
                      refine ⟨_, rfl, ?_⟩
                      replace HO_7 := Aside0.mk (Kd.R_below (rU HO_7.out) hb)
                      replace HO_8 := Aside0.mk (Kd.R_below (rU HO_8.out) hb)
                      replace HB := bH (lU) hb
                      (try clear hb)
                      (try clear hb2)
                      (try clear hk)
                      (try clear hi)
                      refine hK.out _ _ ⟨HS0_, HS1_, HS2_⟩ (fun hHeld => ?_)
                      clear hK K
                      refine norm_ (a' := ?_) ?_ ?_
                      rotate_left
                      ·show Act.put _ (some 65) _ = _
                       simp only [Act.put, List.setIfInBounds_toArray, List.set_cons_zero, List.set_cons_succ, i64_w, i32_w]
                       rfl
                      refine pureA 23 66 (bz 24 16777215) rfl rfl (any_of HT_.out (by kernel_rfl)) ?_
                      refine done_ (done_of HT_.out (by kernel_rfl)) ?_
                      have p265 : 0 ≤ (x10_3 : Int) := of_decide_eq_true hE
                      have q265 : x10_3 < (x7_3.length : Int) := of_decide_eq_true hE
                      obtain ⟨ad265, e265, hx265_0⟩ := Kd.at_int (Kd.R_reads' HO_7.out).2.2 x10_3 p265 q265
                      obtain rfl : (⟨go17, 0, none⟩ : Addr) = ad265 := (by injection e265)
                      (first | simp only [add_plain] at hx265_0 | simp only [add_at] at hx265_0 | simp only [Addr.add, Nat.zero_add] at hx265_0 | skip)
                      replace p265 := eq_true p265
                      replace q265 := eq_true q265
                      have p44 : 0 ≤ (x9_2 : Int) := of_decide_eq_true hE
                      have q44 : (x9_2 : Int) < ((x7_3.length : Int) : Int) := of_decide_eq_true hE
                      obtain ⟨hx44_0, hf44_0⟩ := Kd.R_celln 0 HO_7.out (x9_2 : Int) p44 q44
                      replace p44 := eq_true p44
                      replace q44 := eq_true q44
                      obtain ⟨hy49_, hz49_⟩ := Kd.R_celln 0 HO_7.out (x9_2 : Int) (of_decide_eq_true hE) (of_decide_eq_true hE)
                      have HP49 := Kd.R_putg HO_7.out (x9_2 : Int) (wrap64 ((rd x7_3 x10_3) + 1))
                      try go_wp2_with (first | ((with_reducible refine gate_store (t := 3) (p := 74) rfl ?_); refine store_event (t := 3) (p := 74) (v := ?vo_w50) (w1 := (w48.setCell ⟨go17, (x9_2 : Int).toNat, none⟩ (.int .i64 (wrap64 ((rd x7_3 x10_3) + 1))))) ?hg ?ho ?hn ?hr ?_; (case ho => rfl); (case hg => rfl); (case hn => rfl); (case hr => exact sE); intro w50 hw; have hg : w48.grownBy w50 (some go17) := (by rw [hw]; exact HP49.2); have hp_ : Kd.R (Kd.int .i64) 3 w50 w.heap.size (fun k_ => some k_ ≠ (v254 : Value).ownBlock) (.slice (some ⟨go17, 0, none⟩) x7_3.length co17) y266 := (by rw [hw, Ny266.out]; exact HP49.1); clear HP49; replace HO_7 := Aside0.mk hp_; replace HO_8 := Aside0.mk (Kd.R_after (v := (.slice (some ⟨go17, 0, none⟩) x7_3.length co17)) (v1 := (.slice (some ⟨go17, 0, none⟩) x7_3.length co17)) (ok := (fun _ => True)) (by (with_reducible repeat (first | apply Kd.R_alloc | apply Kd.R_drewN | apply Kd.R_drew)); exact Kd.R_mono HO_8.out (fun _ hk => ⟨trivial, hk⟩)) hg (.inl rfl)); replace HB := Aside0.mk ((by rw [hw]; exact below_set (HB.out) GB17.out : Below w.heap.size w w50)); clear hg hw hp_; have p46 : 0 ≤ (x9_2 : Int) := of_decide_eq_true hE; have q46 : (x9_2 : Int) < ((x8_3.length : Int) : Int) := of_decide_eq_true hE; obtain ⟨go46, co46, eo46, gb46, gl46, cl46, HG46⟩ := Kd.R_form HO_8.out (by omega); (first | cases eo46 | (injection eo46 with ea_ en_ ec_; (first | subst ea_ | (injection ea_ with ea_; subst ea_)); subst ec_; clear en_)); have GB46 := Aside0.mk gb46; have GG46 := Aside0.mk HG46; clear gb46 gl46 HG46; obtain ⟨hx46_0, hf46_0⟩ := Kd.R_celln 0 HO_8.out (x9_2 : Int) p46 q46; replace p46 := eq_true p46; replace q46 := eq_true q46; have n_ := Aside0.mk (Kd.R_mono (ok' := (fun k_ => some k_ ≠ (.slice (some ⟨go17, 0, none⟩) x7_3.length co17 : Value).ownBlock)) HO_8.out (fun k_ hk => hk.2)); clear HO_8; have HO_8 := n_; clear n_; obtain ⟨hy51_, hz51_⟩ := Kd.R_celln 0 HO_8.out (x9_2 : Int) (of_decide_eq_true hE) (of_decide_eq_true hE); have HP51 := Kd.R_putg HO_8.out (x9_2 : Int) x10_3) | ((with_reducible refine gate_store (t := 3) (p := 78) rfl ?_); refine store_event (t := 3) (p := 78) (v := ?vo_w52) (w1 := (w50.setCell ⟨go46, (x9_2 : Int).toNat, none⟩ (.int .i64 x10_3))) ?hg ?ho ?hn ?hr ?_; (case ho => rfl); (case hg => rfl); (case hn => rfl); (case hr => exact sE); intro w52 hw; have hg : w50.grownBy w52 (some go46) := (by rw [hw]; exact HP51.2); have hp_ : Kd.R (Kd.int .i64) 3 w52 w.heap.size (fun k_ => some k_ ≠ (.slice (some ⟨go17, 0, none⟩) x7_3.length co17 : Value).ownBlock) (.slice (some ⟨go46, 0, none⟩) x8_3.length co46) y267 := (by rw [hw, Ny267.out]; exact HP51.1); clear HP51; replace HO_7 := Aside0.mk (Kd.R_after (v := (.slice (some ⟨go46, 0, none⟩) x8_3.length co46)) (v1 := (.slice (some ⟨go46, 0, none⟩) x8_3.length co46)) (ok := (fun _ => True)) (by (with_reducible repeat (first | apply Kd.R_alloc | apply Kd.R_drewN | apply Kd.R_drew)); exact Kd.R_mono HO_7.out (fun _ hk => ⟨trivial, hk⟩)) hg (.inl rfl)); replace HO_8 := Aside0.mk hp_; replace HB := Aside0.mk ((by rw [hw]; exact below_set (HB.out) GB46.out : Below w.heap.size w w52)); clear hg hw hp_))
                      (try simp only [← hl7_3])
                      go_roundg k3
                      case measure => have := HJ2.out; have := HK2.out; have := HK3.out; omega
                      case rel => exact ⟨(y266), (y267), (wrap64 (x10_3 + 1)), tE, H', ⟨by have := HJ2.out; have := HK2.out; have := HK3.out; omega⟩, ⟨by (try simp only [hl7_3]); (with_reducible repeat (first | apply Kd.R_alloc | apply Kd.R_drewN | apply Kd.R_drew)); exact Kd.R_mono HO_7.out (fun _ hk => hk.2)⟩, ⟨by (try simp only [hl7_3]); (with_reducible repeat (first | apply Kd.R_alloc | apply Kd.R_drewN | apply Kd.R_drew)); exact HO_8.out⟩, ⟨by repeat (first | (with_reducible first | exact HB.out | apply below_alloc | apply pw_below_drewN | apply below_drew1) | exact HB.out)⟩⟩
                     ·rw [if_neg c45] at H
                      exact absurd H (by simp)
                    ·replace c43 := Bool.eq_false_iff.mpr c43
                     subst c43
                     have H1 : (spec_FewestKeys.l1 k3 l0 a1 (l0.length : Int) x7_3 x8_3 x9_2 (wrap64 (x10_3 + 1))) = some (r1, r2) := by rw [if_neg (show ¬ (false = true) by decide)] at H; exact H
                     clear H
                     have H := H1
                     clear H1
                     have H' := Aside0.mk H
                     clear H
                     try go_wp2
                     replace HO_7 := Aside0.mk (Kd.R_drew HO_7.out)
                     replace HO_8 := Aside0.mk (Kd.R_drew HO_8.out)
                     replace HB := Aside0.mk (below_drew1 HB.out)
                     have p257 : 0 ≤ (x9_2 : Int) := of_decide_eq_true hE
                     have q257 : x9_2 < (x7_3.length : Int) := of_decide_eq_true hE
                     obtain ⟨ad257, e257, hx257_0⟩ := Kd.at_int (Kd.R_reads' HO_7.out).2.2 x9_2 p257 q257
                     obtain rfl : (⟨go17, 0, none⟩ : Addr) = ad257 := (by injection e257)
                     (first | simp only [add_plain] at hx257_0 | simp only [add_at] at hx257_0 | simp only [Addr.add, Nat.zero_add] at hx257_0 | skip)
                     replace p257 := eq_true p257
                     replace q257 := eq_true q257
                     have p262 : 0 ≤ (x10_3 : Int) := of_decide_eq_true hE
                     have q262 : x10_3 < (x7_3.length : Int) := of_decide_eq_true hE
                     obtain ⟨ad262, e262, hx262_0⟩ := Kd.at_int (Kd.R_reads' HO_7.out).2.2 x10_3 p262 q262
                     obtain rfl : (⟨go17, 0, none⟩ : Addr) = ad262 := (by injection e262)
                     (first | simp only [add_plain] at hx262_0 | simp only [add_at] at hx262_0 | simp only [Addr.add, Nat.zero_add] at hx262_0 | skip)
                     replace p262 := eq_true p262
                     replace q262 := eq_true q262
                     have p263 : 0 ≤ (x9_2 : Int) := of_decide_eq_true hE
                     have q263 : x9_2 < (x7_3.length : Int) := of_decide_eq_true hE
                     obtain ⟨ad263, e263, hx263_0⟩ := Kd.at_int (Kd.R_reads' HO_7.out).2.2 x9_2 p263 q263
                     obtain rfl : (⟨go17, 0, none⟩ : Addr) = ad263 := (by injection e263)
                     (first | simp only [add_plain] at hx263_0 | simp only [add_at] at hx263_0 | simp only [Addr.add, Nat.zero_add] at hx263_0 | skip)
                     replace p263 := eq_true p263
                     replace q263 := eq_true q263
                     refine start_ (n := 24) (S := fun w' => w'.cell? ⟨go17, (x9_2).toNat, none⟩ = some (.int .i64 (rd x7_3 x9_2)) ∧ w'.cell? ⟨go17, (x10_3).toNat, none⟩ = some (.int .i64 (rd x7_3 x10_3)) ∧ w'.cell? ⟨go17, (x9_2).toNat, none⟩ = some (.int .i64 (rd x7_3 x9_2))) (ds := []) #[false, false, false, false, false, false, false, false, false, false, false, false, false, false, false, false, false, false, false, false, false, false, false, false] (by kernel_rfl) rfl rfl ⟨hx257_0, hx262_0, hx263_0⟩ (fun hHeld => ?_); refine with_tabW spec_FewestKeys.tab13 spec_FewestKeys.bits13 (fun HT_ HW_ => ?_)
                     generalize wr.drew = w53 at HO_7 HO_8 HB hx257_0 hx262_0 hx263_0 hHeld ⊢
                     refine pureA 0 43 (bz 24 1) rfl rfl (any_of HT_.out (by kernel_rfl)) ?_
                     refine pureA 1 44 (bz 24 3) rfl rfl (any_of HT_.out (by kernel_rfl)) ?_
                     refine pureA 2 45 (bz 24 7) rfl rfl (any_of HT_.out (by kernel_rfl)) ?_
                     refine takeA 3 46 (bz 24 15) rfl rfl (take_ofW HT_.out HW_.out (by kernel_rfl)) hHeld (by rintro w' ⟨s0, s1, s2⟩; go_simp; with_reducible rfl) ?_
                     refine pureA 4 47 (bz 24 31) rfl rfl (any_of HT_.out (by kernel_rfl)) ?_
                     refine pureA 5 48 (bz 24 63) rfl rfl (any_of HT_.out (by kernel_rfl)) ?_
                     refine pureA 6 49 (bz 24 127) rfl rfl (any_of HT_.out (by kernel_rfl)) ?_
                     refine pureA 7 50 (bz 24 255) rfl rfl (any_of HT_.out (by kernel_rfl)) ?_
                     refine pureA 8 51 (bz 24 511) rfl rfl (any_of HT_.out (by kernel_rfl)) ?_
                     refine pureA 11 54 (bz 24 2559) rfl rfl (any_of HT_.out (by kernel_rfl)) ?_
                     refine pureA 12 55 (bz 24 6655) rfl rfl (any_of HT_.out (by kernel_rfl)) ?_
                     refine pureA 13 56 (bz 24 14847) rfl rfl (any_of HT_.out (by kernel_rfl)) ?_
                     refine takeA 9 52 (bz 24 15359) rfl rfl (take_ofW HT_.out HW_.out (by kernel_rfl)) hHeld (by rintro w' ⟨s0, s1, s2⟩; go_simp; with_reducible rfl) ?_
                     refine pureA 10 53 (bz 24 16383) rfl rfl (any_of HT_.out (by kernel_rfl)) ?_
                     refine takeA 14 57 (bz 24 32767) rfl rfl (take_ofW HT_.out HW_.out (by kernel_rfl)) hHeld (by rintro w' ⟨s0, s1, s2⟩; go_simp; with_reducible rfl) ?_
                     refine pureA 15 58 (bz 24 65535) rfl rfl (any_of HT_.out (by kernel_rfl)) ?_
                     refine pureA 16 59 (bz 24 131071) rfl rfl (any_of HT_.out (by kernel_rfl)) ?_
                     refine pureA 17 60 (bz 24 262143) rfl rfl (any_of HT_.out (by kernel_rfl)) ?_
                     refine pureA 18 61 (bz 24 524287) rfl rfl (any_of HT_.out (by kernel_rfl)) ?_
                     refine pureA 19 62 (bz 24 1048575) rfl rfl (any_of HT_.out (by kernel_rfl)) ?_
                     refine pureA 20 63 (bz 24 2097151) rfl rfl (any_of HT_.out (by kernel_rfl)) ?_
                     refine pureA 21 64 (bz 24 4194303) rfl rfl (any_of HT_.out (by kernel_rfl)) ?_
                     refine one_ (i := 22) (N := some 65) (bz 24 8388607) rfl rfl (one_of HT_.out (by kernel_rfl)) (by decide) (fun K hK => ?_)
                     refine goes_ Try.func27 (by kernel_rfl) rfl #[.slice A0 l0.length c0, .int .i64 x9_2, .int .i64 x10_3, .int .i64 a1] (by rfl) rfl rfl aE ?_
                     with_reducible refine (spec_l11Spans.calls k3 _ _ l0 x9_2 x10_3 a1 false _ ?side1 ?side2 A42.out).mono ?_
                     (case side1 => exact cU (Kd.C_below HR0.out HB.out))
                     (case side2 => exact HC0.out)
                     rintro e w54 ⟨rfl, hb⟩
                     have HS0_ := (hb.cell (World.block_lt_of_cell? _ _ (hHeld.1))).trans (hHeld.1)
                     have HS1_ := (hb.cell (World.block_lt_of_cell? _ _ (hHeld.2.1))).trans (hHeld.2.1)
                     have HS2_ := (hb.cell (World.block_lt_of_cell? _ _ (hHeld.2.2))).trans (hHeld.2.2)
                     refine ⟨_, rfl, ?_⟩
                     replace HO_7 := Aside0.mk (Kd.R_below (rU HO_7.out) hb)
                     replace HO_8 := Aside0.mk (Kd.R_below (rU HO_8.out) hb)
                     replace HB := bH (lU) hb
                     (try clear hb)
                     (try clear hb2)
                     (try clear hk)
                     (try clear hi)
                     refine hK.out _ _ ⟨HS0_, HS1_, HS2_⟩ (fun hHeld => ?_)
                     clear hK K
                     refine norm_ (a' := ?_) ?_ ?_
                     rotate_left
                     ·show Act.put _ (some 65) _ = _
                      simp only [Act.put, List.setIfInBounds_toArray, List.set_cons_zero, List.set_cons_succ, i64_w, i32_w]
                      rfl
                     refine pureA 23 66 (bz 24 16777215) rfl rfl (any_of HT_.out (by kernel_rfl)) ?_
                     refine done_ (done_of HT_.out (by kernel_rfl)) ?_
                     try go_wp2
                     (try simp only [← hl7_3])
                     go_roundg k3
                     case measure => have := HJ2.out; have := HK2.out; have := HK3.out; omega
                     case rel => exact ⟨(x7_3), (x8_3), (wrap64 (x10_3 + 1)), tE, H', ⟨by have := HJ2.out; have := HK2.out; have := HK3.out; omega⟩, ⟨by (try simp only [hl7_3]); (with_reducible repeat (first | apply Kd.R_alloc | apply Kd.R_drewN | apply Kd.R_drew)); exact HO_7.out⟩, ⟨by (try simp only [hl7_3]); (with_reducible repeat (first | apply Kd.R_alloc | apply Kd.R_drewN | apply Kd.R_drew)); exact HO_8.out⟩, ⟨by repeat (first | (with_reducible first | exact HB.out | apply below_alloc | apply pw_below_drewN | apply below_drew1) | exact HB.out)⟩⟩
                   ·rw [if_neg c41] at H
                    have c41b0 : decide ((wrap64 ((rd x7_3 x10_3) + 1)) < (rd x7_3 x9_2)) = false := decide_eq_false c41
                    clear c41
                    have H' := Aside0.mk H
                    clear H
                    try go_wp2
                    replace HO_7 := Aside0.mk (Kd.R_drew HO_7.out)
                    replace HO_8 := Aside0.mk (Kd.R_drew HO_8.out)
                    replace HB := Aside0.mk (below_drew1 HB.out)
                    have p257 : 0 ≤ (x9_2 : Int) := of_decide_eq_true hE
                    have q257 : x9_2 < (x7_3.length : Int) := of_decide_eq_true hE
                    obtain ⟨ad257, e257, hx257_0⟩ := Kd.at_int (Kd.R_reads' HO_7.out).2.2 x9_2 p257 q257
                    obtain rfl : (⟨go17, 0, none⟩ : Addr) = ad257 := (by injection e257)
                    (first | simp only [add_plain] at hx257_0 | simp only [add_at] at hx257_0 | simp only [Addr.add, Nat.zero_add] at hx257_0 | skip)
                    replace p257 := eq_true p257
                    replace q257 := eq_true q257
                    have p262 : 0 ≤ (x10_3 : Int) := of_decide_eq_true hE
                    have q262 : x10_3 < (x7_3.length : Int) := of_decide_eq_true hE
                    obtain ⟨ad262, e262, hx262_0⟩ := Kd.at_int (Kd.R_reads' HO_7.out).2.2 x10_3 p262 q262
                    obtain rfl : (⟨go17, 0, none⟩ : Addr) = ad262 := (by injection e262)
                    (first | simp only [add_plain] at hx262_0 | simp only [add_at] at hx262_0 | simp only [Addr.add, Nat.zero_add] at hx262_0 | skip)
                    replace p262 := eq_true p262
                    replace q262 := eq_true q262
                    have p263 : 0 ≤ (x9_2 : Int) := of_decide_eq_true hE
                    have q263 : x9_2 < (x7_3.length : Int) := of_decide_eq_true hE
                    obtain ⟨ad263, e263, hx263_0⟩ := Kd.at_int (Kd.R_reads' HO_7.out).2.2 x9_2 p263 q263
                    obtain rfl : (⟨go17, 0, none⟩ : Addr) = ad263 := (by injection e263)
                    (first | simp only [add_plain] at hx263_0 | simp only [add_at] at hx263_0 | simp only [Addr.add, Nat.zero_add] at hx263_0 | skip)
                    replace p263 := eq_true p263
                    replace q263 := eq_true q263
                    refine start_ (n := 24) (S := fun w' => w'.cell? ⟨go17, (x9_2).toNat, none⟩ = some (.int .i64 (rd x7_3 x9_2)) ∧ w'.cell? ⟨go17, (x10_3).toNat, none⟩ = some (.int .i64 (rd x7_3 x10_3)) ∧ w'.cell? ⟨go17, (x9_2).toNat, none⟩ = some (.int .i64 (rd x7_3 x9_2))) (ds := []) #[false, false, false, false, false, false, false, false, false, false, false, false, false, false, false, false, false, false, false, false, false, false, false, false] (by kernel_rfl) rfl rfl ⟨hx257_0, hx262_0, hx263_0⟩ (fun hHeld => ?_); refine with_tabW spec_FewestKeys.tab13 spec_FewestKeys.bits13 (fun HT_ HW_ => ?_)
                    generalize wr.drew = w55 at HO_7 HO_8 HB hx257_0 hx262_0 hx263_0 hHeld ⊢
                    refine pureA 0 43 (bz 24 1) rfl rfl (any_of HT_.out (by kernel_rfl)) ?_
                    refine pureA 1 44 (bz 24 3) rfl rfl (any_of HT_.out (by kernel_rfl)) ?_
                    refine pureA 2 45 (bz 24 7) rfl rfl (any_of HT_.out (by kernel_rfl)) ?_
                    refine takeA 3 46 (bz 24 15) rfl rfl (take_ofW HT_.out HW_.out (by kernel_rfl)) hHeld (by rintro w' ⟨s0, s1, s2⟩; go_simp; with_reducible rfl) ?_
                    refine pureA 4 47 (bz 24 31) rfl rfl (any_of HT_.out (by kernel_rfl)) ?_
                    refine pureA 5 48 (bz 24 63) rfl rfl (any_of HT_.out (by kernel_rfl)) ?_
                    refine pureA 6 49 (bz 24 127) rfl rfl (any_of HT_.out (by kernel_rfl)) ?_
                    refine pureA 7 50 (bz 24 255) rfl rfl (any_of HT_.out (by kernel_rfl)) ?_
                    refine pureA 8 51 (bz 24 511) rfl rfl (any_of HT_.out (by kernel_rfl)) ?_
                    refine pureA 11 54 (bz 24 2559) rfl rfl (any_of HT_.out (by kernel_rfl)) ?_
                    refine pureA 12 55 (bz 24 6655) rfl rfl (any_of HT_.out (by kernel_rfl)) ?_
                    refine pureA 13 56 (bz 24 14847) rfl rfl (any_of HT_.out (by kernel_rfl)) ?_
                    refine takeA 9 52 (bz 24 15359) rfl rfl (take_ofW HT_.out HW_.out (by kernel_rfl)) hHeld (by rintro w' ⟨s0, s1, s2⟩; go_simp; with_reducible rfl) ?_
                    refine pureA 10 53 (bz 24 16383) rfl rfl (any_of HT_.out (by kernel_rfl)) ?_
                    refine takeA 14 57 (bz 24 32767) rfl rfl (take_ofW HT_.out HW_.out (by kernel_rfl)) hHeld (by rintro w' ⟨s0, s1, s2⟩; go_simp; with_reducible rfl) ?_
                    refine pureA 15 58 (bz 24 65535) rfl rfl (any_of HT_.out (by kernel_rfl)) ?_
                    refine pureA 16 59 (bz 24 131071) rfl rfl (any_of HT_.out (by kernel_rfl)) ?_
                    refine pureA 17 60 (bz 24 262143) rfl rfl (any_of HT_.out (by kernel_rfl)) ?_
                    refine pureU 18 61 (bz 24 524287) rfl rfl (any_of HT_.out (by kernel_rfl)) ?_
                    refine pureU 19 62 (bz 24 1048575) rfl rfl (any_of HT_.out (by kernel_rfl)) ?_
                    refine pureU 20 63 (bz 24 2097151) rfl rfl (any_of HT_.out (by kernel_rfl)) ?_
                    refine pureU 21 64 (bz 24 4194303) rfl rfl (any_of HT_.out (by kernel_rfl)) ?_
                    refine pureU 22 65 (bz 24 8388607) rfl rfl (any_of HT_.out (by kernel_rfl)) ?_
                    refine pureA 23 66 (bz 24 16777215) rfl rfl (any_of HT_.out (by kernel_rfl)) ?_
                    refine done_ (done_of HT_.out (by kernel_rfl)) ?_
                    try go_wp2
                    (try simp only [← hl7_3])
                    go_roundg k3
                    case measure => have := HJ2.out; have := HK2.out; have := HK3.out; omega
                    case rel => exact ⟨(x7_3), (x8_3), (wrap64 (x10_3 + 1)), tE, H', ⟨by have := HJ2.out; have := HK2.out; have := HK3.out; omega⟩, ⟨by (try simp only [hl7_3]); (with_reducible repeat (first | apply Kd.R_alloc | apply Kd.R_drewN | apply Kd.R_drew)); exact HO_7.out⟩, ⟨by (try simp only [hl7_3]); (with_reducible repeat (first | apply Kd.R_alloc | apply Kd.R_drewN | apply Kd.R_drew)); exact HO_8.out⟩, ⟨by repeat (first | (with_reducible first | exact HB.out | apply below_alloc | apply pw_below_drewN | apply below_drew1) | exact HB.out)⟩⟩
                  ·rw [if_neg c40] at H
                   exact absurd H (by simp)
                 ·rw [if_neg c39] at H
                  exact absurd H (by simp)
               ·rw [if_neg c22] at H
                exact absurd H (by simp)
              ·rw [if_neg c21] at H
               exact absurd H (by simp)
             ·rw [if_neg c20] at H
              have c20b0 : decide (x10_3 < (l0.length : Int)) = false := decide_eq_false c20
              clear c20
              have H' := Aside0.mk H
              clear H
              go_wp2
              (try simp only [← hl7_3])
              go_roundg k3
              case measure => have := HJ2.out; have := HK2.out; have := HK3.out; omega
              case rel => exact ⟨(x7_3), (x8_3), (wrap64 (x9_2 - 1)), tE, H', ⟨by have := HJ2.out; have := HK2.out; have := HK3.out; omega⟩, ⟨by (try simp only [hl7_3]); (with_reducible repeat (first | apply Kd.R_alloc | apply Kd.R_drewN | apply Kd.R_drew)); exact HO_7.out⟩, ⟨by (try simp only [hl7_3]); (with_reducible repeat (first | apply Kd.R_alloc | apply Kd.R_drewN | apply Kd.R_drew)); exact HO_8.out⟩, ⟨by repeat (first | (with_reducible first | exact HB.out | apply below_alloc | apply pw_below_drewN | apply below_drew1) | exact HB.out)⟩⟩
          ·rw [if_neg c16] at H
           exact absurd H (by simp)
         ·rw [if_neg c15] at H
          exact absurd H (by simp)
        ·rw [if_neg c14] at H
         have c14b0 : decide (0 ≤ x9_2) = false := decide_eq_false c14
         clear c14
         have H' := Aside0.mk H
         clear H
         go_wp2
         go_loopg [11, 12] k2 (fun kq v11 v12 w' => ∃ (x11_3 : List (S41)) (x12_3 : Int), v12 = .int .i64 x12_3 ∧ Aside0 (spec_FewestKeys.l2 kq l0 (l0.length : Int) x8_2 x11_3 x12_3 = some (r1, r2)) ∧ Aside0 (kq ≤ k2) ∧ Aside0 (Kd.R (Kd.int .i64) 3 w' w.heap.size (fun _ => True) v254 x8_2) ∧ Aside0 (Kd.R k41 41 w' w.heap.size (fun _ => True) v11 x11_3) ∧ Aside0 (Below w.heap.size w w'))
         case atStart => exact ⟨(([] : List (S41))), (0), tE, H', ⟨Nat.le_refl _⟩, ⟨by (with_reducible repeat (first | apply Kd.R_alloc | apply Kd.R_drewN | apply Kd.R_drew)); exact Kd.R_mono HO_8.out (fun _ hk => trivial)⟩, ⟨by first | exact Kd.R_nil _ _ _ _ _ | exact Kd.N_nil _ _ _ _ _ | exact Kd.V_nil _ _ _ _ _ | exact Kd.Q_nil _ _ _ _ _ | exact Kd.S_nil _ _ _ _ _⟩, ⟨by repeat (first | (with_reducible first | exact HB.out | apply below_alloc | apply pw_below_drewN | apply below_drew1) | exact HB.out)⟩⟩
         case round =>
          clear H'
          try clear c1
          try clear c2
          try clear p2
          try clear q2
          try clear hx2
          try clear c3
          try clear c4
          try clear p4
          try clear q4
          try clear hx4
          try clear hf4
          try clear p6
          try clear c14
          try clear c14b0
          try clear c15
          try clear c16
          try clear c20
          try clear c20b0
          try clear c21
          try clear c22
          try clear p25
          try clear q25
          try clear hx25
          try clear p26
          try clear q26
          try clear hx26
          try clear c27
          try clear c39
          try clear c40
          try clear c41
          try clear c41b0
          try clear c43
          try clear p44
          try clear q44
          try clear hx44
          try clear hf44
          try clear c45
          try clear p46
          try clear q46
          try clear hx46
          try clear hf46
          try clear hx257_0
          try clear hx262_0
          try clear hx263_0
          try clear hx265_0
          try clear hx44_0
          try clear hx46_0
          try clear p257
          try clear p262
          try clear p263
          try clear p265
          try clear p44
          try clear p46
          try clear q257
          try clear q262
          try clear q263
          try clear q265
          try clear q44
          try clear q46
          obtain ⟨x11_3, x12_3, rfl, HA, HK3, HO_8, HO_11, HB⟩ := hrel
          cases gk with
          | zero => exact absurd HA.out (by simp [spec_FewestKeys.l2])
          | succ k3 =>
           have H := HA.out
           clear HA
           simp only [spec_FewestKeys.l2] at H
           by_cases c56 : 0 ≤ x12_3
           ·rw [if_pos c56] at H
            have c56b0 : decide (0 ≤ x12_3) = true := decide_eq_true c56
            clear c56
            by_cases c57 : x12_3 < (l0.length : Int)
            ·rw [if_pos c57] at H
             have c57b0 : decide (x12_3 < (l0.length : Int)) = true := decide_eq_true c57
             clear c57
             by_cases c58 : x11_3.length < 8796093022208
             ·rw [if_pos c58] at H
              have LMc58 := Aside0.mk c58
              clear c58
              obtain ⟨y269, hy269⟩ : ∃ y_ : List (S41), y_ = (x11_3 ++ [(⟨x12_3, rd l0 x12_3⟩ : S41)]) := ⟨_, rfl⟩
              replace H : (if x12_3 = (wrap64 ((l0.length : Int) - 1)) then (some (y269, true)) else (if x12_3 < (x8_2.length : Int) then (spec_FewestKeys.l2 k3 l0 (l0.length : Int) x8_2 y269 (rd x8_2 x12_3)) else (none))) = some (r1, r2) := by first | (rw [hy269]; with_reducible exact H) | (have H2_ := (Option.bind_some _ _).symm.trans H; rw [hy269]; with_reducible exact H2_) | (have H2_ := (Option.bind_some _ _).symm.trans H; with_reducible exact H2_) | with_reducible exact H | (rw [hy269]; exact H) | exact H
              have Ny269 := Aside0.mk hy269
              clear hy269
              by_cases c59 : x12_3 = (wrap64 ((l0.length : Int) - 1))
              ·rw [if_pos c59] at H
               have c59b0 : (x12_3 == (wrap64 ((l0.length : Int) - 1))) = true := beq_iff_eq.mpr c59
               have c59b1 : (x12_3 != (wrap64 ((l0.length : Int) - 1))) = false := bne_eq_false_iff_eq.mpr c59
               clear c59
               simp only [Option.some.injEq, Prod.mk.injEq] at H
               obtain ⟨rfl, rfl⟩ := H
               have p268 : 0 ≤ (x12_3 : Int) := of_decide_eq_true hE
               have q268 : x12_3 < (l0.length : Int) := of_decide_eq_true hE
               obtain ⟨ad268, e268, hx268_0⟩ := Kd.at_int HR0.out x12_3 p268 q268
               cases e268
               replace hx268_0 := (HB.out.cell (World.block_lt_of_cell? w _ hx268_0)).trans hx268_0
               replace p268 := eq_true p268
               replace q268 := eq_true q268
               go_wp2_with (first | ((with_reducible refine gate_builtin (b := .append) (xs := #[.tmp 79, .tmp 86]) rfl ?_); at_builtin; refine Kd.R_append k41 (w0 := w) w.heap.size rfl (.tmp 79) (.tmp 86) 35 41 (.agg #[(.int .i64 0), (.int .i64 0)]) 16 rfl Try.underlying35 info41 rfl (by decide) (by omega) u11 x11_3 (⟨x12_3, rd l0 x12_3⟩ : S41) [.int .i64 x12_3, .int .i64 (rd l0 x12_3)] (fun _ => True) (fun _ => False) rfl rfl ?aP (fun _ hk => hk.elim) ?aF ?aO ?aB ?aS ?aL ?_; (case aP => exact k41_mkM _ _ _ (⟨x12_3, rd l0 x12_3⟩ : S41)); (case aB => exact (lU)); (case aF => exact (fun _ _ => trivial)); (case aO => exact (rU HO_11.out)); (case aS => exact (below_size (lU))); (case aL => have := LMc58.out; omega); intro v270 w60 ho hb hg hat; rw [← Ny269.out] at ho; replace HO_8 := Aside0.mk (Kd.R_over' (rU HO_8.out) (Kd.R_typed (rU HO_11.out)) (by decide) hg); replace HB := Aside0.mk hb; have HO271 := Aside0.mk ho; clear HO_11; clear ho hb hg hat))
               go_ret2
               exact ⟨_, eE, by (with_reducible repeat (first | apply Kd.R_alloc | apply Kd.R_drewN | apply Kd.R_drew)); exact HO271.out, lU⟩
              ·rw [if_neg c59] at H
               have c59b0 : (x12_3 == (wrap64 ((l0.length : Int) - 1))) = false := beq_eq_false_iff_ne.mpr c59
               have c59b1 : (x12_3 != (wrap64 ((l0.length : Int) - 1))) = true := bne_iff_ne.mpr c59
               by_cases c61 : x12_3 < (x8_2.length : Int)
               ·rw [if_pos c61] at H
                have c61b0 : decide (x12_3 < (x8_2.length : Int)) = true := decide_eq_true c61
                clear c61
                have H' := Aside0.mk H
                clear H
                have p268 : 0 ≤ (x12_3 : Int) := of_decide_eq_true hE
                have q268 : x12_3 < (l0.length : Int) := of_decide_eq_true hE
                obtain ⟨ad268, e268, hx268_0⟩ := Kd.at_int HR0.out x12_3 p268 q268
                cases e268
                replace hx268_0 := (HB.out.cell (World.block_lt_of_cell? w _ hx268_0)).trans hx268_0
                replace p268 := eq_true p268
                replace q268 := eq_true q268
                go_wp2_with (first | ((with_reducible refine gate_builtin (b := .append) (xs := #[.tmp 79, .tmp 86]) rfl ?_); at_builtin; refine Kd.R_append k41 (w0 := w) w.heap.size rfl (.tmp 79) (.tmp 86) 35 41 (.agg #[(.int .i64 0), (.int .i64 0)]) 16 rfl Try.underlying35 info41 rfl (by decide) (by omega) u11 x11_3 (⟨x12_3, rd l0 x12_3⟩ : S41) [.int .i64 x12_3, .int .i64 (rd l0 x12_3)] (fun _ => True) (fun _ => False) rfl rfl ?aP (fun _ hk => hk.elim) ?aF ?aO ?aB ?aS ?aL ?_; (case aP => exact k41_mkM _ _ _ (⟨x12_3, rd l0 x12_3⟩ : S41)); (case aB => exact (lU)); (case aF => exact (fun _ _ => trivial)); (case aO => exact (rU HO_11.out)); (case aS => exact (below_size (lU))); (case aL => have := LMc58.out; omega); intro v270 w62 ho hb hg hat; rw [← Ny269.out] at ho; replace HO_8 := Aside0.mk (Kd.R_over' (rU HO_8.out) (Kd.R_typed (rU HO_11.out)) (by decide) hg); replace HB := Aside0.mk hb; have HO271 := Aside0.mk ho; clear HO_11; clear ho hb hg hat; obtain ⟨Ao63, co63, eo63⟩ := Kd.R_slice HO_8.out; subst eo63; have p272 : 0 ≤ (x12_3 : Int) := of_decide_eq_true hE; have q272 : x12_3 < (x8_2.length : Int) := of_decide_eq_true hE; obtain ⟨ad272, e272, hx272_0⟩ := Kd.at_int (Kd.R_reads' HO_8.out).2.2 x12_3 p272 q272; cases e272; replace p272 := eq_true p272; replace q272 := eq_true q272))
                go_roundg k3
                case measure => have := HJ2.out; have := HK2.out; have := HK3.out; omega
                case rel => exact ⟨(y269), (rd x8_2 x12_3), tE, H', ⟨by have := HJ2.out; have := HK2.out; have := HK3.out; omega⟩, ⟨by (with_reducible repeat (first | apply Kd.R_alloc | apply Kd.R_drewN | apply Kd.R_drew)); exact HO_8.out⟩, ⟨by (with_reducible repeat (first | apply Kd.R_alloc | apply Kd.R_drewN | apply Kd.R_drew)); exact HO271.out⟩, ⟨by repeat (first | (with_reducible first | exact HB.out | apply below_alloc | apply pw_below_drewN | apply below_drew1) | exact HB.out)⟩⟩
               ·rw [if_neg c61] at H
                exact absurd H (by simp)
             ·rw [if_neg c58] at H
              exact absurd H (by simp)
            ·rw [if_neg c57] at H
             exact absurd H (by simp)
           ·rw [if_neg c56] at H
            exact absurd H (by simp)
     ·rw [if_neg c9] at H
      exact absurd H (by simp)
    ·rw [if_neg c8] at H
     exact absurd H (by simp)
end Go.Proofs.Ytbamdbdcglohmaa.PFnKeys
namespace Go.Proofs.Ytbamdbdcglohmaa.PFnKeys
open Go.RowKit Go.Proofs.YtbamdbdcglohmaaW.PrintWords Go.Proofs.YtbamdbdcglohmaaW.PrintLast Go.Proofs.YtbamdbdcglohmaaW.PrintMore
attribute [local go_sem] max2_int min2_int max_two min_two max_three min_three max_four min_four   -- for this text's walks alone
set_option linter.unusedVariables false
set_option linter.unusedSimpArgs false
def impl_areKeys.l0 : Nat → List (S41) → Int → List (S41) → Int → Int → Option (Bool)
 | 0, _, _, _, _, _ => none
 | k + 1, x0, x1, x7, x8, x9 => if x9 < x8 then (if 0 ≤ x9 then (if x9 < (x7.length : Int) then ((impl_inRange.f ((rd_T41 x7 x9).f0) 0 (wrap64 (x1 - 1))).bind fun t276 => (if t276 = true then ((impl_isKeyValue.f ((rd_T41 x7 x9).f1)).bind fun t277 => (if t277 = true then (if x9 > 0 then (if 0 ≤ (wrap64 (x9 - 1)) then (if (wrap64 (x9 - 1)) < (x0.length : Int) then (if ((rd_T41 x0 (wrap64 (x9 - 1))).f0) ≥ ((rd_T41 x7 x9).f0) then (some false) else (impl_areKeys.l0 k x0 x1 x7 x8 (wrap64 (x9 + 1)))) else (none)) else (none)) else (impl_areKeys.l0 k x0 x1 x7 x8 (wrap64 (x9 + 1)))) else (some false))) else (some false))) else (none)) else (none)) else ((impl_inRange.f (x0.length : Int) 1 60).bind fun t273 => (some t273))
def impl_areKeys.f (k : Nat) (l0 : List (S41)) (a1 : Int) : Option (Bool) := impl_areKeys.l0 k l0 a1 l0 (l0.length : Int) 0
theorem impl_areKeys.mono_l : ∀ k, (∀ y0 y1 y2 y3 y4, LeO (impl_areKeys.l0 k y0 y1 y2 y3 y4) (impl_areKeys.l0 (k + 1) y0 y1 y2 y3 y4))
 | 0 => fun _ _ _ _ _ r h => by simp [impl_areKeys.l0] at h
 | k + 1 => by
  have ih0 := impl_areKeys.mono_l k
  ·intro y0 y1 y2 y3 y4
   unfold impl_areKeys.l0
   repeat' first
   | (with_reducible exact ih0 _ _ _ _ _)
   | (with_reducible first | exact LeO.refl _ | exact LeO.none _ | refine LeO.ite ?_ ?_ | refine LeO.bind ?_ (fun _ => ?_))
   | exact ih0 _ _ _ _ _ | exact LeO.none _ | refine LeO.ite ?_ ?_ | refine LeO.bind ?_ (fun _ => ?_)
theorem impl_areKeys.mono : ∀ a0 a1 k, LeO (impl_areKeys.f k a0 a1) (impl_areKeys.f (k + 1) a0 a1) := by
 intro a0 a1 k
 have ih0 := impl_areKeys.mono_l k
 unfold impl_areKeys.f
 repeat' first
   | (with_reducible exact ih0 _ _ _ _ _)
   | (with_reducible first | exact LeO.refl _ | exact LeO.none _ | refine LeO.ite ?_ ?_ | refine LeO.bind ?_ (fun _ => ?_))
   | exact ih0 _ _ _ _ _ | exact LeO.none _ | refine LeO.ite ?_ ?_ | refine LeO.bind ?_ (fun _ => ?_)
set_option maxHeartbeats 8000000 in
set_option maxRecDepth 100000 in
theorem impl_areKeys.calls (k : Nat) (A0 : Option Addr) (c0 : Nat) (l0 : List (S41)) (a1 : Int) (r : Bool) (w : World) (hr0 : Kd.C k41 w A0 l0.length l0) (hc0 : l0.length ≤ c0) (h : impl_areKeys.f k l0 a1 = some r) :
  Calls Try.prog 28 #[.slice A0 l0.length c0, .int .i64 a1] w fun e w' => e = .returned (.bool r) ∧ Below w.heap.size w w' := by
 have hu41 := Try.underlying41
 have HR0 := Aside0.mk hr0
 have HC0 := Aside0.mk hc0
 clear hr0 hc0
 have HB := Aside0.mk (Below.refl w.heap.size w)
 have H : (impl_areKeys.l0 k l0 a1 l0 (l0.length : Int) 0) = some r := h
 clear h
 have H' := Aside0.mk H
 clear H
 go_enter Try.func28, Try.ntmps28
 go_wp2
 repeat (go_quiet (fail); try go_wp2)
 go_loopg [9] k (fun kq v9 w' => ∃ (x9_1 : Int), v9 = .int .i64 x9_1 ∧ Aside0 (impl_areKeys.l0 kq l0 a1 l0 (l0.length : Int) x9_1 = some r) ∧ Aside0 (kq ≤ k) ∧ Aside0 (Below w.heap.size w w'))
 case atStart => exact ⟨(0), tE, H', ⟨Nat.le_refl _⟩, ⟨by repeat (first | (with_reducible first | exact HB.out | apply below_alloc | apply pw_below_drewN | apply below_drew1) | exact HB.out)⟩⟩
 case round =>
  clear H'
  try clear c2
  try clear p2
  obtain ⟨x9_1, rfl, HA, HK1, HB⟩ := hrel
  cases gk with
  | zero => exact absurd HA.out (by simp [impl_areKeys.l0])
  | succ k1 =>
   have H := HA.out
   clear HA
   simp only [impl_areKeys.l0] at H
   by_cases c3 : x9_1 < (l0.length : Int)
   ·rw [if_pos c3] at H
    have c3b0 : decide (x9_1 < (l0.length : Int)) = true := decide_eq_true c3
    clear c3
    by_cases c4 : 0 ≤ x9_1
    ·rw [if_pos c4] at H
     have c4b0 : decide (0 ≤ x9_1) = true := decide_eq_true c4
     clear c4
     by_cases c5 : x9_1 < (l0.length : Int)
     ·rw [if_pos c5] at H
      have c5b0 : decide (x9_1 < (l0.length : Int)) = true := decide_eq_true c5
      clear c5
      replace H := Option.bind_eq_some_iff.mp H
      obtain ⟨t276, A60, H⟩ := H
      replace H : (if t276 = true then ((impl_isKeyValue.f ((rd_T41 l0 x9_1).f1)).bind fun t277 => (if t277 = true then (if x9_1 > 0 then (if 0 ≤ (wrap64 (x9_1 - 1)) then (if (wrap64 (x9_1 - 1)) < (l0.length : Int) then (if ((rd_T41 l0 (wrap64 (x9_1 - 1))).f0) ≥ ((rd_T41 l0 x9_1).f0) then (some false) else (impl_areKeys.l0 k1 l0 a1 l0 (l0.length : Int) (wrap64 (x9_1 + 1)))) else (none)) else (none)) else (impl_areKeys.l0 k1 l0 a1 l0 (l0.length : Int) (wrap64 (x9_1 + 1)))) else (some false))) else (some false)) = some r := H
      have A6 := Aside0.mk A60
      clear A60
      by_cases c7 : t276 = true
      ·subst c7
       have H1 : ((impl_isKeyValue.f ((rd_T41 l0 x9_1).f1)).bind fun t277 => (if t277 = true then (if x9_1 > 0 then (if 0 ≤ (wrap64 (x9_1 - 1)) then (if (wrap64 (x9_1 - 1)) < (l0.length : Int) then (if ((rd_T41 l0 (wrap64 (x9_1 - 1))).f0) ≥ ((rd_T41 l0 x9_1).f0) then (some false) else (impl_areKeys.l0 k1 l0 a1 l0 (l0.length : Int) (wrap64 (x9_1 + 1)))) else (none)) else (none)) else (impl_areKeys.l0 k1 l0 a1 l0 (l0.length : Int) (wrap64 (x9_1 + 1)))) else (some false))) = some r := by rw [if_pos rfl] at H; exact H
       clear H
       have H := H1
       clear H1
       replace H := Option.bind_eq_some_iff.mp H
       obtain ⟨t277, A80, H⟩ := H
       replace H : (if t277 = true then (if x9_1 > 0 then (if 0 ≤ (wrap64 (x9_1 - 1)) then (if (wrap64 (x9_1 - 1)) < (l0.length : Int) then (if ((rd_T41 l0 (wrap64 (x9_1 - 1))).f0) ≥ ((rd_T41 l0 x9_1).f0) then (some false) else (impl_areKeys.l0 k1 l0 a1 l0 (l0.length : Int) (wrap64 (x9_1 + 1)))) else (none)) else (none)) else (impl_areKeys.l0 k1 l0 a1 l0 (l0.length : Int) (wrap64 (x9_1 + 1)))) else (some false)) = some r := H
       have A8 := Aside0.mk A80
       clear A80
       by_cases c9 : t277 = true
       ·subst c9
        have H1 : (if x9_1 > 0 then (if 0 ≤ (wrap64 (x9_1 - 1)) then (if (wrap64 (x9_1 - 1)) < (l0.length : Int) then (if ((rd_T41 l0 (wrap64 (x9_1 - 1))).f0) ≥ ((rd_T41 l0 x9_1).f0) then (some false) else (impl_areKeys.l0 k1 l0 a1 l0 (l0.length : Int) (wrap64 (x9_1 + 1)))) else (none)) else (none)) else (impl_areKeys.l0 k1 l0 a1 l0 (l0.length : Int) (wrap64 (x9_1 + 1)))) = some r := by rw [if_pos rfl] at H; exact H
        clear H
        have H := H1
        clear H1
        by_cases c10 : x9_1 > 0
        ·rw [if_pos c10] at H
         have c10b0 : decide (0 < x9_1) = true := decide_eq_true c10
         clear c10
         obtain ⟨ji11, hji11⟩ : ∃ j_ : Int, (wrap64 (x9_1 - 1)) = j_ := ⟨_, rfl⟩
         replace H : (if 0 ≤ (ji11) then (if (ji11) < (l0.length : Int) then (if ((rd_T41 l0 (ji11)).f0) ≥ ((rd_T41 l0 x9_1).f0) then (some false) else (impl_areKeys.l0 k1 l0 a1 l0 (l0.length : Int) (wrap64 (x9_1 + 1)))) else (none)) else (none)) = some r := by first | (rw [hji11] at H; exact H) | (simp only [hji11] at H ⊢; exact H)
         (try rw [hji11] at A6)
         (try rw [hji11] at A8)
         have hji11w : (IntKind.i64.wrap (x9_1 - 1)) = ji11 := (i64_w _).trans hji11
         by_cases c12 : 0 ≤ (ji11)
         ·rw [if_pos c12] at H
          have c12b0 : decide (0 ≤ (ji11)) = true := decide_eq_true c12
          clear c12
          by_cases c13 : (ji11) < (l0.length : Int)
          ·rw [if_pos c13] at H
           have c13b0 : decide ((ji11) < (l0.length : Int)) = true := decide_eq_true c13
           clear c13
           by_cases c14 : ((rd_T41 l0 (ji11)).f0) ≥ ((rd_T41 l0 x9_1).f0)
           ·rw [if_pos c14] at H
            have c14b0 : decide (((rd_T41 l0 x9_1).f0) ≤ ((rd_T41 l0 (ji11)).f0)) = true := decide_eq_true c14
            clear c14
            obtain rfl := Option.some.inj H
            have p274 : 0 ≤ (x9_1 : Int) := of_decide_eq_true hE
            have q274 : x9_1 < (l0.length : Int) := of_decide_eq_true hE
            obtain ⟨ad274, e274, hx274_0, hx274_1⟩ := at_T41 HR0.out x9_1 p274 q274
            cases e274
            replace hx274_0 := (HB.out.cell (World.block_lt_of_cell? w _ hx274_0)).trans hx274_0
            replace hx274_1 := (HB.out.cell (World.block_lt_of_cell? w _ hx274_1)).trans hx274_1
            replace p274 := eq_true p274
            replace q274 := eq_true q274
            go_wp2_with (first | ((with_reducible refine gate_dst (N := 6) rfl ?_); refine box_event rfl (N := 6) rfl (cs := #[.int .i64 0, .int .i64 0]) (t := 41) sE ?_; intro gb275 hg w15 hbox hb; have BK275 := Aside0.mk hbox; have GW275 := gS w hg (lU); have GE275 := gS w hg (lU); replace HB := bH (lU) hb; clear hb hbox hg; have hcz16_0 := cz BK275 0 (.int .i64 0); have hcz16_1 := cz BK275 1 (.int .i64 0); have hfz16_0 := fz BK275 0; have hfz16_1 := fz BK275 1) | ((with_reducible refine gate_store (t := 41) (p := 6) rfl ?_); (try (rw [drewN_self w15]; generalize hq_ : World.drewN w15 _ = w15; replace BK275 := Aside0.mk (blk_at hq_ BK275.out); replace HB := Aside0.mk (below_at hq_ HB.out); clear hq_)); refine store_event (t := 41) (p := 6) (v := ?vo_w17) (w1 := ((w15.setCell ⟨gb275, 0, none⟩ (.int .i64 ((rd_T41 l0 x9_1).f0))).setCell ⟨gb275, 1, none⟩ (.int .i64 ((rd_T41 l0 x9_1).f1)))) ?hg ?ho ?hn ?hr ?_; (case ho => rfl); (case hg => rfl); (case hn => rfl); (case hr => first | (go_simp; done) | (go_simp; rfl) | (have hq0_ := (blk_cell BK275.out 0).trans (show _ = some _ from rfl); have hf0_ := blk_frozen BK275.out 0; have hq1_ := (blk_cell BK275.out 1).trans (show _ = some _ from rfl); have hf1_ := blk_frozen BK275.out 1; first | (go_simp; done) | (go_simp; rfl))); intro w17 hw; replace BK275 : Aside0 (w17.heap[gb275]? = some (.cells #[.int .i64 ((rd_T41 l0 x9_1).f0), .int .i64 ((rd_T41 l0 x9_1).f1)] 41 (0, 0))) := ⟨(by rw [hw]; exact (by refine bU ?_; refine blk_put (cs := #[.int .i64 ((rd_T41 l0 x9_1).f0), .int .i64 0]) ?_ 1 _ rfl; refine bU ?_; refine blk_put (cs := #[.int .i64 0, .int .i64 0]) ?_ 0 _ rfl; refine bU ?_; exact BK275.out))⟩; replace HB : Aside0 (Below w.heap.size w w17) := ⟨(by rw [hw]; exact (lV1 GE275))⟩; clear hw; have hcz18_0 := cz BK275 0 (.int .i64 ((rd_T41 l0 x9_1).f0)); have hcz18_1 := cz BK275 1 (.int .i64 ((rd_T41 l0 x9_1).f1)); have hfz18_0 := fz BK275 0; have hfz18_1 := fz BK275 1) | (go_at_call 17; (with_reducible refine (impl_inRange.calls ((rd_T41 l0 x9_1).f0) 0 (wrap64 (a1 - 1)) true _ A6.out).mono ?_); rintro e w' ⟨rfl, ⟨nd, rfl⟩⟩; (try first | exact ⟨rfl, _, World.drewN_drewN _ _ _⟩ | exact ⟨rfl, _, Eq.trans (World.drewN_drewN _ _ _) (congrArg (World.drewN _) (Nat.add_assoc _ _ _))⟩)) | (go_at_call 39; (with_reducible refine (impl_isKeyValue.calls ((rd_T41 l0 x9_1).f1) true _ A8.out).mono ?_); rintro e w' ⟨rfl, ⟨nd, rfl⟩⟩; (try first | exact ⟨rfl, _, World.drewN_drewN _ _ _⟩ | exact ⟨rfl, _, Eq.trans (World.drewN_drewN _ _ _) (congrArg (World.drewN _) (Nat.add_assoc _ _ _))⟩); have p278 : 0 ≤ ((ji11) : Int) := of_decide_eq_true hE; have q278 : (ji11) < (l0.length : Int) := of_decide_eq_true hE; obtain ⟨ad278, e278, hx278_0, hx278_1⟩ := at_T41 HR0.out (ji11) p278 q278; obtain rfl : ad274 = ad278 := (by injection e278); replace hx278_0 := (HB.out.cell (World.block_lt_of_cell? w _ hx278_0)).trans hx278_0; replace hx278_1 := (HB.out.cell (World.block_lt_of_cell? w _ hx278_1)).trans hx278_1; replace p278 := eq_true p278; replace q278 := eq_true q278))
            have p278 : 0 ≤ ((ji11) : Int) := of_decide_eq_true hE
            have q278 : (ji11) < (l0.length : Int) := of_decide_eq_true hE
            obtain ⟨ad278, e278, hx278_0, hx278_1⟩ := at_T41 HR0.out (ji11) p278 q278
            obtain rfl : ad274 = ad278 := (by injection e278)
            replace hx278_0 := (HB.out.cell (World.block_lt_of_cell? w _ hx278_0)).trans hx278_0
            replace hx278_1 := (HB.out.cell (World.block_lt_of_cell? w _ hx278_1)).trans hx278_1
            replace p278 := eq_true p278
            replace q278 := eq_true q278
            repeat (go_quiet (first | ((with_reducible refine gate_dst (N := 6) rfl ?_); refine box_event rfl (N := 6) rfl (cs := #[.int .i64 0, .int .i64 0]) (t := 41) sE ?_; intro gb275 hg w15 hbox hb; have BK275 := Aside0.mk hbox; have GW275 := gS w hg (lU); have GE275 := gS w hg (lU); replace HB := bH (lU) hb; clear hb hbox hg; have hcz16_0 := cz BK275 0 (.int .i64 0); have hcz16_1 := cz BK275 1 (.int .i64 0); have hfz16_0 := fz BK275 0; have hfz16_1 := fz BK275 1) | ((with_reducible refine gate_store (t := 41) (p := 6) rfl ?_); (try (rw [drewN_self w15]; generalize hq_ : World.drewN w15 _ = w15; replace BK275 := Aside0.mk (blk_at hq_ BK275.out); replace HB := Aside0.mk (below_at hq_ HB.out); clear hq_)); refine store_event (t := 41) (p := 6) (v := ?vo_w17) (w1 := ((w15.setCell ⟨gb275, 0, none⟩ (.int .i64 ((rd_T41 l0 x9_1).f0))).setCell ⟨gb275, 1, none⟩ (.int .i64 ((rd_T41 l0 x9_1).f1)))) ?hg ?ho ?hn ?hr ?_; (case ho => rfl); (case hg => rfl); (case hn => rfl); (case hr => first | (go_simp; done) | (go_simp; rfl) | (have hq0_ := (blk_cell BK275.out 0).trans (show _ = some _ from rfl); have hf0_ := blk_frozen BK275.out 0; have hq1_ := (blk_cell BK275.out 1).trans (show _ = some _ from rfl); have hf1_ := blk_frozen BK275.out 1; first | (go_simp; done) | (go_simp; rfl))); intro w17 hw; replace BK275 : Aside0 (w17.heap[gb275]? = some (.cells #[.int .i64 ((rd_T41 l0 x9_1).f0), .int .i64 ((rd_T41 l0 x9_1).f1)] 41 (0, 0))) := ⟨(by rw [hw]; exact (by refine bU ?_; refine blk_put (cs := #[.int .i64 ((rd_T41 l0 x9_1).f0), .int .i64 0]) ?_ 1 _ rfl; refine bU ?_; refine blk_put (cs := #[.int .i64 0, .int .i64 0]) ?_ 0 _ rfl; refine bU ?_; exact BK275.out))⟩; replace HB : Aside0 (Below w.heap.size w w17) := ⟨(by rw [hw]; exact (lV1 GE275))⟩; clear hw; have hcz18_0 := cz BK275 0 (.int .i64 ((rd_T41 l0 x9_1).f0)); have hcz18_1 := cz BK275 1 (.int .i64 ((rd_T41 l0 x9_1).f1)); have hfz18_0 := fz BK275 0; have hfz18_1 := fz BK275 1) | (go_at_call 17; (with_reducible refine (impl_inRange.calls ((rd_T41 l0 x9_1).f0) 0 (wrap64 (a1 - 1)) true _ A6.out).mono ?_); rintro e w' ⟨rfl, ⟨nd, rfl⟩⟩; (try first | exact ⟨rfl, _, World.drewN_drewN _ _ _⟩ | exact ⟨rfl, _, Eq.trans (World.drewN_drewN _ _ _) (congrArg (World.drewN _) (Nat.add_assoc _ _ _))⟩)) |(go_at_call 39; (with_reducible refine (impl_isKeyValue.calls ((rd_T41 l0 x9_1).f1) true _ A8.out).mono ?_); rintro e w' ⟨rfl, ⟨nd, rfl⟩⟩; (try first | exact ⟨rfl, _, World.drewN_drewN _ _ _⟩ | exact ⟨rfl, _, Eq.trans (World.drewN_drewN _ _ _) (congrArg (World.drewN _) (Nat.add_assoc _ _ _))⟩)) ); try go_wp2_with (first | ((with_reducible refine gate_dst (N := 6) rfl ?_); refine box_event rfl (N := 6) rfl (cs := #[.int .i64 0, .int .i64 0]) (t := 41) sE ?_; intro gb275 hg w15 hbox hb; have BK275 := Aside0.mk hbox; have GW275 := gS w hg (lU); have GE275 := gS w hg (lU); replace HB := bH (lU) hb; clear hb hbox hg; have hcz16_0 := cz BK275 0 (.int .i64 0); have hcz16_1 := cz BK275 1 (.int .i64 0); have hfz16_0 := fz BK275 0; have hfz16_1 := fz BK275 1) | ((with_reducible refine gate_store (t := 41) (p := 6) rfl ?_); (try (rw [drewN_self w15]; generalize hq_ : World.drewN w15 _ = w15; replace BK275 := Aside0.mk (blk_at hq_ BK275.out); replace HB := Aside0.mk (below_at hq_ HB.out); clear hq_)); refine store_event (t := 41) (p := 6) (v := ?vo_w17) (w1 := ((w15.setCell ⟨gb275, 0, none⟩ (.int .i64 ((rd_T41 l0 x9_1).f0))).setCell ⟨gb275, 1, none⟩ (.int .i64 ((rd_T41 l0 x9_1).f1)))) ?hg ?ho ?hn ?hr ?_; (case ho => rfl); (case hg => rfl); (case hn => rfl); (case hr => first | (go_simp; done) | (go_simp; rfl) | (have hq0_ := (blk_cell BK275.out 0).trans (show _ = some _ from rfl); have hf0_ := blk_frozen BK275.out 0; have hq1_ := (blk_cell BK275.out 1).trans (show _ = some _ from rfl); have hf1_ := blk_frozen BK275.out 1; first | (go_simp; done) | (go_simp; rfl))); intro w17 hw; replace BK275 : Aside0 (w17.heap[gb275]? = some (.cells #[.int .i64 ((rd_T41 l0 x9_1).f0), .int .i64 ((rd_T41 l0 x9_1).f1)] 41 (0, 0))) := ⟨(by rw [hw]; exact (by refine bU ?_; refine blk_put (cs := #[.int .i64 ((rd_T41 l0 x9_1).f0), .int .i64 0]) ?_ 1 _ rfl; refine bU ?_; refine blk_put (cs := #[.int .i64 0, .int .i64 0]) ?_ 0 _ rfl; refine bU ?_; exact BK275.out))⟩; replace HB : Aside0 (Below w.heap.size w w17) := ⟨(by rw [hw]; exact (lV1 GE275))⟩; clear hw; have hcz18_0 := cz BK275 0 (.int .i64 ((rd_T41 l0 x9_1).f0)); have hcz18_1 := cz BK275 1 (.int .i64 ((rd_T41 l0 x9_1).f1)); have hfz18_0 := fz BK275 0; have hfz18_1 := fz BK275 1) | (go_at_call 17; (with_reducible refine (impl_inRange.calls ((rd_T41 l0 x9_1).f0) 0 (wrap64 (a1 - 1)) true _ A6.out).mono ?_); rintro e w' ⟨rfl, ⟨nd, rfl⟩⟩; (try first | exact ⟨rfl, _, World.drewN_drewN _ _ _⟩ | exact ⟨rfl, _, Eq.trans (World.drewN_drewN _ _ _) (congrArg (World.drewN _) (Nat.add_assoc _ _ _))⟩)) | (go_at_call 39; (with_reducible refine (impl_isKeyValue.calls ((rd_T41 l0 x9_1).f1) true _ A8.out).mono ?_); rintro e w' ⟨rfl, ⟨nd, rfl⟩⟩; (try first | exact ⟨rfl, _, World.drewN_drewN _ _ _⟩ | exact ⟨rfl, _, Eq.trans (World.drewN_drewN _ _ _) (congrArg (World.drewN _) (Nat.add_assoc _ _ _))⟩); have p278 : 0 ≤ ((ji11) : Int) := of_decide_eq_true hE; have q278 : (ji11) < (l0.length : Int) := of_decide_eq_true hE; obtain ⟨ad278, e278, hx278_0, hx278_1⟩ := at_T41 HR0.out (ji11) p278 q278; obtain rfl : ad274 = ad278 := (by injection e278); replace hx278_0 := (HB.out.cell (World.block_lt_of_cell? w _ hx278_0)).trans hx278_0; replace hx278_1 := (HB.out.cell (World.block_lt_of_cell? w _ hx278_1)).trans hx278_1; replace p278 := eq_true p278; replace q278 := eq_true q278)))
            go_ret
            exact ⟨by first | rfl | (simp [errW_none, errW_some] <;> rfl) | (simp only [← hji11]; first | rfl | (simp [errW_none, errW_some] <;> rfl)) | (simp [*, errW_none, errW_some] <;> rfl), lV1 GE275⟩
           ·rw [if_neg c14] at H
            have c14b0 : decide (((rd_T41 l0 x9_1).f0) ≤ ((rd_T41 l0 (ji11)).f0)) = false := decide_eq_false c14
            clear c14
            have H' := Aside0.mk H
            clear H
            have p274 : 0 ≤ (x9_1 : Int) := of_decide_eq_true hE
            have q274 : x9_1 < (l0.length : Int) := of_decide_eq_true hE
            obtain ⟨ad274, e274, hx274_0, hx274_1⟩ := at_T41 HR0.out x9_1 p274 q274
            cases e274
            replace hx274_0 := (HB.out.cell (World.block_lt_of_cell? w _ hx274_0)).trans hx274_0
            replace hx274_1 := (HB.out.cell (World.block_lt_of_cell? w _ hx274_1)).trans hx274_1
            replace p274 := eq_true p274
            replace q274 := eq_true q274
            go_wp2_with (first | ((with_reducible refine gate_dst (N := 6) rfl ?_); refine box_event rfl (N := 6) rfl (cs := #[.int .i64 0, .int .i64 0]) (t := 41) sE ?_; intro gb275 hg w19 hbox hb; have BK275 := Aside0.mk hbox; have GW275 := gS w hg (lU); have GE275 := gS w hg (lU); replace HB := bH (lU) hb; clear hb hbox hg; have hcz20_0 := cz BK275 0 (.int .i64 0); have hcz20_1 := cz BK275 1 (.int .i64 0); have hfz20_0 := fz BK275 0; have hfz20_1 := fz BK275 1) | ((with_reducible refine gate_store (t := 41) (p := 6) rfl ?_); (try (rw [drewN_self w19]; generalize hq_ : World.drewN w19 _ = w19; replace BK275 := Aside0.mk (blk_at hq_ BK275.out); replace HB := Aside0.mk (below_at hq_ HB.out); clear hq_)); refine store_event (t := 41) (p := 6) (v := ?vo_w21) (w1 := ((w19.setCell ⟨gb275, 0, none⟩ (.int .i64 ((rd_T41 l0 x9_1).f0))).setCell ⟨gb275, 1, none⟩ (.int .i64 ((rd_T41 l0 x9_1).f1)))) ?hg ?ho ?hn ?hr ?_; (case ho => rfl); (case hg => rfl); (case hn => rfl); (case hr => first | (go_simp; done) | (go_simp; rfl) | (have hq0_ := (blk_cell BK275.out 0).trans (show _ = some _ from rfl); have hf0_ := blk_frozen BK275.out 0; have hq1_ := (blk_cell BK275.out 1).trans (show _ = some _ from rfl); have hf1_ := blk_frozen BK275.out 1; first | (go_simp; done) | (go_simp; rfl))); intro w21 hw; replace BK275 : Aside0 (w21.heap[gb275]? = some (.cells #[.int .i64 ((rd_T41 l0 x9_1).f0), .int .i64 ((rd_T41 l0 x9_1).f1)] 41 (0, 0))) := ⟨(by rw [hw]; exact (by refine bU ?_; refine blk_put (cs := #[.int .i64 ((rd_T41 l0 x9_1).f0), .int .i64 0]) ?_ 1 _ rfl; refine bU ?_; refine blk_put (cs := #[.int .i64 0, .int .i64 0]) ?_ 0 _ rfl; refine bU ?_; exact BK275.out))⟩; replace HB : Aside0 (Below w.heap.size w w21) := ⟨(by rw [hw]; exact (lV1 GE275))⟩; clear hw; have hcz22_0 := cz BK275 0 (.int .i64 ((rd_T41 l0 x9_1).f0)); have hcz22_1 := cz BK275 1 (.int .i64 ((rd_T41 l0 x9_1).f1)); have hfz22_0 := fz BK275 0; have hfz22_1 := fz BK275 1) | (go_at_call 17; (with_reducible refine (impl_inRange.calls ((rd_T41 l0 x9_1).f0) 0 (wrap64 (a1 - 1)) true _ A6.out).mono ?_); rintro e w' ⟨rfl, ⟨nd, rfl⟩⟩; (try first | exact ⟨rfl, _, World.drewN_drewN _ _ _⟩ | exact ⟨rfl, _, Eq.trans (World.drewN_drewN _ _ _) (congrArg (World.drewN _) (Nat.add_assoc _ _ _))⟩)) | (go_at_call 39; (with_reducible refine (impl_isKeyValue.calls ((rd_T41 l0 x9_1).f1) true _ A8.out).mono ?_); rintro e w' ⟨rfl, ⟨nd, rfl⟩⟩; (try first | exact ⟨rfl, _, World.drewN_drewN _ _ _⟩ | exact ⟨rfl, _, Eq.trans (World.drewN_drewN _ _ _) (congrArg (World.drewN _) (Nat.add_assoc _ _ _))⟩); have p278 : 0 ≤ ((ji11) : Int) := of_decide_eq_true hE; have q278 : (ji11) < (l0.length : Int) := of_decide_eq_true hE; obtain ⟨ad278, e278, hx278_0, hx278_1⟩ := at_T41 HR0.out (ji11) p278 q278; obtain rfl : ad274 = ad278 := (by injection e278); replace hx278_0 := (HB.out.cell (World.block_lt_of_cell? w _ hx278_0)).trans hx278_0; replace hx278_1 := (HB.out.cell (World.block_lt_of_cell? w _ hx278_1)).trans hx278_1; replace p278 := eq_true p278; replace q278 := eq_true q278))
            have p278 : 0 ≤ ((ji11) : Int) := of_decide_eq_true hE
            have q278 : (ji11) < (l0.length : Int) := of_decide_eq_true hE
            obtain ⟨ad278, e278, hx278_0, hx278_1⟩ := at_T41 HR0.out (ji11) p278 q278
            obtain rfl : ad274 = ad278 := (by injection e278)
            replace hx278_0 := (HB.out.cell (World.block_lt_of_cell? w _ hx278_0)).trans hx278_0
            replace hx278_1 := (HB.out.cell (World.block_lt_of_cell? w _ hx278_1)).trans hx278_1
            replace p278 := eq_true p278
            replace q278 := eq_true q278
            repeat (go_quiet (first | ((with_reducible refine gate_dst (N := 6) rfl ?_); refine box_event rfl (N := 6) rfl (cs := #[.int .i64 0, .int .i64 0]) (t := 41) sE ?_; intro gb275 hg w19 hbox hb; have BK275 := Aside0.mk hbox; have GW275 := gS w hg (lU); have GE275 := gS w hg (lU); replace HB := bH (lU) hb; clear hb hbox hg; have hcz20_0 := cz BK275 0 (.int .i64 0); have hcz20_1 := cz BK275 1 (.int .i64 0); have hfz20_0 := fz BK275 0; have hfz20_1 := fz BK275 1) | ((with_reducible refine gate_store (t := 41) (p := 6) rfl ?_); (try (rw [drewN_self w19]; generalize hq_ : World.drewN w19 _ = w19; replace BK275 := Aside0.mk (blk_at hq_ BK275.out); replace HB := Aside0.mk (below_at hq_ HB.out); clear hq_)); refine store_event (t := 41) (p := 6) (v := ?vo_w21) (w1 := ((w19.setCell ⟨gb275, 0, none⟩ (.int .i64 ((rd_T41 l0 x9_1).f0))).setCell ⟨gb275, 1, none⟩ (.int .i64 ((rd_T41 l0 x9_1).f1)))) ?hg ?ho ?hn ?hr ?_; (case ho => rfl); (case hg => rfl); (case hn => rfl); (case hr => first | (go_simp; done) | (go_simp; rfl) | (have hq0_ := (blk_cell BK275.out 0).trans (show _ = some _ from rfl); have hf0_ := blk_frozen BK275.out 0; have hq1_ := (blk_cell BK275.out 1).trans (show _ = some _ from rfl); have hf1_ := blk_frozen BK275.out 1; first | (go_simp; done) | (go_simp; rfl))); intro w21 hw; replace BK275 : Aside0 (w21.heap[gb275]? = some (.cells #[.int .i64 ((rd_T41 l0 x9_1).f0), .int .i64 ((rd_T41 l0 x9_1).f1)] 41 (0, 0))) := ⟨(by rw [hw]; exact (by refine bU ?_; refine blk_put (cs := #[.int .i64 ((rd_T41 l0 x9_1).f0), .int .i64 0]) ?_ 1 _ rfl; refine bU ?_; refine blk_put (cs := #[.int .i64 0, .int .i64 0]) ?_ 0 _ rfl; refine bU ?_; exact BK275.out))⟩; replace HB : Aside0 (Below w.heap.size w w21) := ⟨(by rw [hw]; exact (lV1 GE275))⟩; clear hw; have hcz22_0 := cz BK275 0 (.int .i64 ((rd_T41 l0 x9_1).f0)); have hcz22_1 := cz BK275 1 (.int .i64 ((rd_T41 l0 x9_1).f1)); have hfz22_0 := fz BK275 0; have hfz22_1 := fz BK275 1) | (go_at_call 17; (with_reducible refine (impl_inRange.calls ((rd_T41 l0 x9_1).f0) 0 (wrap64 (a1 - 1)) true _ A6.out).mono ?_); rintro e w' ⟨rfl, ⟨nd, rfl⟩⟩; (try first | exact ⟨rfl, _, World.drewN_drewN _ _ _⟩ | exact ⟨rfl, _, Eq.trans (World.drewN_drewN _ _ _) (congrArg (World.drewN _) (Nat.add_assoc _ _ _))⟩)) |(go_at_call 39; (with_reducible refine (impl_isKeyValue.calls ((rd_T41 l0 x9_1).f1) true _ A8.out).mono ?_); rintro e w' ⟨rfl, ⟨nd, rfl⟩⟩; (try first | exact ⟨rfl, _, World.drewN_drewN _ _ _⟩ | exact ⟨rfl, _, Eq.trans (World.drewN_drewN _ _ _) (congrArg (World.drewN _) (Nat.add_assoc _ _ _))⟩)) ); try go_wp2_with (first | ((with_reducible refine gate_dst (N := 6) rfl ?_); refine box_event rfl (N := 6) rfl (cs := #[.int .i64 0, .int .i64 0]) (t := 41) sE ?_; intro gb275 hg w19 hbox hb; have BK275 := Aside0.mk hbox; have GW275 := gS w hg (lU); have GE275 := gS w hg (lU); replace HB := bH (lU) hb; clear hb hbox hg; have hcz20_0 := cz BK275 0 (.int .i64 0); have hcz20_1 := cz BK275 1 (.int .i64 0); have hfz20_0 := fz BK275 0; have hfz20_1 := fz BK275 1) | ((with_reducible refine gate_store (t := 41) (p := 6) rfl ?_); (try (rw [drewN_self w19]; generalize hq_ : World.drewN w19 _ = w19; replace BK275 := Aside0.mk (blk_at hq_ BK275.out); replace HB := Aside0.mk (below_at hq_ HB.out); clear hq_)); refine store_event (t := 41) (p := 6) (v := ?vo_w21) (w1 := ((w19.setCell ⟨gb275, 0, none⟩ (.int .i64 ((rd_T41 l0 x9_1).f0))).setCell ⟨gb275, 1, none⟩ (.int .i64 ((rd_T41 l0 x9_1).f1)))) ?hg ?ho ?hn ?hr ?_; (case ho => rfl); (case hg => rfl); (case hn => rfl); (case hr => first | (go_simp; done) | (go_simp; rfl) | (have hq0_ := (blk_cell BK275.out 0).trans (show _ = some _ from rfl); have hf0_ := blk_frozen BK275.out 0; have hq1_ := (blk_cell BK275.out 1).trans (show _ = some _ from rfl); have hf1_ := blk_frozen BK275.out 1; first | (go_simp; done) | (go_simp; rfl))); intro w21 hw; replace BK275 : Aside0 (w21.heap[gb275]? = some (.cells #[.int .i64 ((rd_T41 l0 x9_1).f0), .int .i64 ((rd_T41 l0 x9_1).f1)] 41 (0, 0))) := ⟨(by rw [hw]; exact (by refine bU ?_; refine blk_put (cs := #[.int .i64 ((rd_T41 l0 x9_1).f0), .int .i64 0]) ?_ 1 _ rfl; refine bU ?_; refine blk_put (cs := #[.int .i64 0, .int .i64 0]) ?_ 0 _ rfl; refine bU ?_; exact BK275.out))⟩; replace HB : Aside0 (Below w.heap.size w w21) := ⟨(by rw [hw]; exact (lV1 GE275))⟩; clear hw; have hcz22_0 := cz BK275 0 (.int .i64 ((rd_T41 l0 x9_1).f0)); have hcz22_1 := cz BK275 1 (.int .i64 ((rd_T41 l0 x9_1).f1)); have hfz22_0 := fz BK275 0; have hfz22_1 := fz BK275 1) | (go_at_call 17; (with_reducible refine (impl_inRange.calls ((rd_T41 l0 x9_1).f0) 0 (wrap64 (a1 - 1)) true _ A6.out).mono ?_); rintro e w' ⟨rfl, ⟨nd, rfl⟩⟩; (try first | exact ⟨rfl, _, World.drewN_drewN _ _ _⟩ | exact ⟨rfl, _, Eq.trans (World.drewN_drewN _ _ _) (congrArg (World.drewN _) (Nat.add_assoc _ _ _))⟩)) | (go_at_call 39; (with_reducible refine (impl_isKeyValue.calls ((rd_T41 l0 x9_1).f1) true _ A8.out).mono ?_); rintro e w' ⟨rfl, ⟨nd, rfl⟩⟩; (try first | exact ⟨rfl, _, World.drewN_drewN _ _ _⟩ | exact ⟨rfl, _, Eq.trans (World.drewN_drewN _ _ _) (congrArg (World.drewN _) (Nat.add_assoc _ _ _))⟩); have p278 : 0 ≤ ((ji11) : Int) := of_decide_eq_true hE; have q278 : (ji11) < (l0.length : Int) := of_decide_eq_true hE; obtain ⟨ad278, e278, hx278_0, hx278_1⟩ := at_T41 HR0.out (ji11) p278 q278; obtain rfl : ad274 = ad278 := (by injection e278); replace hx278_0 := (HB.out.cell (World.block_lt_of_cell? w _ hx278_0)).trans hx278_0; replace hx278_1 := (HB.out.cell (World.block_lt_of_cell? w _ hx278_1)).trans hx278_1; replace p278 := eq_true p278; replace q278 := eq_true q278)))
            go_roundg k1
            case measure => have := HK1.out; omega
            case rel => exact ⟨(wrap64 (x9_1 + 1)), tE, H', ⟨by have := HK1.out; omega⟩, ⟨by repeat (first | (with_reducible first | exact HB.out | apply below_alloc | apply pw_below_drewN | apply below_drew1 | refine below_set ?_ GE275.out) | exact HB.out)⟩⟩
          ·rw [if_neg c13] at H
           exact absurd H (by simp)
         ·rw [if_neg c12] at H
          exact absurd H (by simp)
        ·rw [if_neg c10] at H
         have c10b0 : decide (0 < x9_1) = false := decide_eq_false c10
         clear c10
         have H' := Aside0.mk H
         clear H
         have p274 : 0 ≤ (x9_1 : Int) := of_decide_eq_true hE
         have q274 : x9_1 < (l0.length : Int) := of_decide_eq_true hE
         obtain ⟨ad274, e274, hx274_0, hx274_1⟩ := at_T41 HR0.out x9_1 p274 q274
         cases e274
         replace hx274_0 := (HB.out.cell (World.block_lt_of_cell? w _ hx274_0)).trans hx274_0
         replace hx274_1 := (HB.out.cell (World.block_lt_of_cell? w _ hx274_1)).trans hx274_1
         replace p274 := eq_true p274
         replace q274 := eq_true q274
         go_wp2_with (first | ((with_reducible refine gate_dst (N := 6) rfl ?_); refine box_event rfl (N := 6) rfl (cs := #[.int .i64 0, .int .i64 0]) (t := 41) sE ?_; intro gb275 hg w23 hbox hb; have BK275 := Aside0.mk hbox; have GW275 := gS w hg (lU); have GE275 := gS w hg (lU); replace HB := bH (lU) hb; clear hb hbox hg; have hcz24_0 := cz BK275 0 (.int .i64 0); have hcz24_1 := cz BK275 1 (.int .i64 0); have hfz24_0 := fz BK275 0; have hfz24_1 := fz BK275 1) | ((with_reducible refine gate_store (t := 41) (p := 6) rfl ?_); (try (rw [drewN_self w23]; generalize hq_ : World.drewN w23 _ = w23; replace BK275 := Aside0.mk (blk_at hq_ BK275.out); replace HB := Aside0.mk (below_at hq_ HB.out); clear hq_)); refine store_event (t := 41) (p := 6) (v := ?vo_w25) (w1 := ((w23.setCell ⟨gb275, 0, none⟩ (.int .i64 ((rd_T41 l0 x9_1).f0))).setCell ⟨gb275, 1, none⟩ (.int .i64 ((rd_T41 l0 x9_1).f1)))) ?hg ?ho ?hn ?hr ?_; (case ho => rfl); (case hg => rfl); (case hn => rfl); (case hr => first | (go_simp; done) | (go_simp; rfl) | (have hq0_ := (blk_cell BK275.out 0).trans (show _ = some _ from rfl); have hf0_ := blk_frozen BK275.out 0; have hq1_ := (blk_cell BK275.out 1).trans (show _ = some _ from rfl); have hf1_ := blk_frozen BK275.out 1; first | (go_simp; done) | (go_simp; rfl))); intro w25 hw; replace BK275 : Aside0 (w25.heap[gb275]? = some (.cells #[.int .i64 ((rd_T41 l0 x9_1).f0), .int .i64 ((rd_T41 l0 x9_1).f1)] 41 (0, 0))) := ⟨(by rw [hw]; exact (by refine bU ?_; refine blk_put (cs := #[.int .i64 ((rd_T41 l0 x9_1).f0), .int .i64 0]) ?_ 1 _ rfl; refine bU ?_; refine blk_put (cs := #[.int .i64 0, .int .i64 0]) ?_ 0 _ rfl; refine bU ?_; exact BK275.out))⟩; replace HB : Aside0 (Below w.heap.size w w25) := ⟨(by rw [hw]; exact (lV1 GE275))⟩; clear hw; have hcz26_0 := cz BK275 0 (.int .i64 ((rd_T41 l0 x9_1).f0)); have hcz26_1 := cz BK275 1 (.int .i64 ((rd_T41 l0 x9_1).f1)); have hfz26_0 := fz BK275 0; have hfz26_1 := fz BK275 1) | (go_at_call 17; (with_reducible refine (impl_inRange.calls ((rd_T41 l0 x9_1).f0) 0 (wrap64 (a1 - 1)) true _ A6.out).mono ?_); rintro e w' ⟨rfl, ⟨nd, rfl⟩⟩; (try first | exact ⟨rfl, _, World.drewN_drewN _ _ _⟩ | exact ⟨rfl, _, Eq.trans (World.drewN_drewN _ _ _) (congrArg (World.drewN _) (Nat.add_assoc _ _ _))⟩)) | (go_at_call 39; (with_reducible refine (impl_isKeyValue.calls ((rd_T41 l0 x9_1).f1) true _ A8.out).mono ?_); rintro e w' ⟨rfl, ⟨nd, rfl⟩⟩; (try first | exact ⟨rfl, _, World.drewN_drewN _ _ _⟩ | exact ⟨rfl, _, Eq.trans (World.drewN_drewN _ _ _) (congrArg (World.drewN _) (Nat.add_assoc _ _ _))⟩)))
         repeat (go_quiet (first | ((with_reducible refine gate_dst (N := 6) rfl ?_); refine box_event rfl (N := 6) rfl (cs := #[.int .i64 0, .int .i64 0]) (t := 41) sE ?_; intro gb275 hg w23 hbox hb; have BK275 := Aside0.mk hbox; have GW275 := gS w hg (lU); have GE275 := gS w hg (lU); replace HB := bH (lU) hb; clear hb hbox hg; have hcz24_0 := cz BK275 0 (.int .i64 0); have hcz24_1 := cz BK275 1 (.int .i64 0); have hfz24_0 := fz BK275 0; have hfz24_1 := fz BK275 1) | ((with_reducible refine gate_store (t := 41) (p := 6) rfl ?_); (try (rw [drewN_self w23]; generalize hq_ : World.drewN w23 _ = w23; replace BK275 := Aside0.mk (blk_at hq_ BK275.out); replace HB := Aside0.mk (below_at hq_ HB.out); clear hq_)); refine store_event (t := 41) (p := 6) (v := ?vo_w25) (w1 := ((w23.setCell ⟨gb275, 0, none⟩ (.int .i64 ((rd_T41 l0 x9_1).f0))).setCell ⟨gb275, 1, none⟩ (.int .i64 ((rd_T41 l0 x9_1).f1)))) ?hg ?ho ?hn ?hr ?_; (case ho => rfl); (case hg => rfl); (case hn => rfl); (case hr => first | (go_simp; done) | (go_simp; rfl) | (have hq0_ := (blk_cell BK275.out 0).trans (show _ = some _ from rfl); have hf0_ := blk_frozen BK275.out 0; have hq1_ := (blk_cell BK275.out 1).trans (show _ = some _ from rfl); have hf1_ := blk_frozen BK275.out 1; first | (go_simp; done) | (go_simp; rfl))); intro w25 hw; replace BK275 : Aside0 (w25.heap[gb275]? = some (.cells #[.int .i64 ((rd_T41 l0 x9_1).f0), .int .i64 ((rd_T41 l0 x9_1).f1)] 41 (0, 0))) := ⟨(by rw [hw]; exact (by refine bU ?_; refine blk_put (cs := #[.int .i64 ((rd_T41 l0 x9_1).f0), .int .i64 0]) ?_ 1 _ rfl; refine bU ?_; refine blk_put (cs := #[.int .i64 0, .int .i64 0]) ?_ 0 _ rfl; refine bU ?_; exact BK275.out))⟩; replace HB : Aside0 (Below w.heap.size w w25) := ⟨(by rw [hw]; exact (lV1 GE275))⟩; clear hw; have hcz26_0 := cz BK275 0 (.int .i64 ((rd_T41 l0 x9_1).f0)); have hcz26_1 := cz BK275 1 (.int .i64 ((rd_T41 l0 x9_1).f1)); have hfz26_0 := fz BK275 0; have hfz26_1 := fz BK275 1) | (go_at_call 17; (with_reducible refine (impl_inRange.calls ((rd_T41 l0 x9_1).f0) 0 (wrap64 (a1 - 1)) true _ A6.out).mono ?_); rintro e w' ⟨rfl, ⟨nd, rfl⟩⟩; (try first | exact ⟨rfl, _, World.drewN_drewN _ _ _⟩ | exact ⟨rfl, _, Eq.trans (World.drewN_drewN _ _ _) (congrArg (World.drewN _) (Nat.add_assoc _ _ _))⟩)) | (go_at_call 39; (with_reducible refine (impl_isKeyValue.calls ((rd_T41 l0 x9_1).f1) true _ A8.out).mono ?_); rintro e w' ⟨rfl, ⟨nd, rfl⟩⟩; (try first | exact ⟨rfl, _, World.drewN_drewN _ _ _⟩ | exact ⟨rfl, _, Eq.trans (World.drewN_drewN _ _ _) (congrArg (World.drewN _) (Nat.add_assoc _ _ _))⟩))); try go_wp2_with (first | ((with_reducible refine gate_dst (N := 6) rfl ?_); refine box_event rfl (N := 6) rfl (cs := #[.int .i64 0, .int .i64 0]) (t := 41) sE ?_; intro gb275 hg w23 hbox hb; have BK275 := Aside0.mk hbox; have GW275 := gS w hg (lU); have GE275 := gS w hg (lU); replace HB := bH (lU) hb; clear hb hbox hg; have hcz24_0 := cz BK275 0 (.int .i64 0); have hcz24_1 := cz BK275 1 (.int .i64 0); have hfz24_0 := fz BK275 0; have hfz24_1 := fz BK275 1) | ((with_reducible refine gate_store (t := 41) (p := 6) rfl ?_); (try (rw [drewN_self w23]; generalize hq_ : World.drewN w23 _ = w23; replace BK275 := Aside0.mk (blk_at hq_ BK275.out); replace HB := Aside0.mk (below_at hq_ HB.out); clear hq_)); refine store_event (t := 41) (p := 6) (v := ?vo_w25) (w1 := ((w23.setCell ⟨gb275, 0, none⟩ (.int .i64 ((rd_T41 l0 x9_1).f0))).setCell ⟨gb275, 1, none⟩ (.int .i64 ((rd_T41 l0 x9_1).f1)))) ?hg ?ho ?hn ?hr ?_; (case ho => rfl); (case hg => rfl); (case hn => rfl); (case hr => first | (go_simp; done) | (go_simp; rfl) | (have hq0_ := (blk_cell BK275.out 0).trans (show _ = some _ from rfl); have hf0_ := blk_frozen BK275.out 0; have hq1_ := (blk_cell BK275.out 1).trans (show _ = some _ from rfl); have hf1_ := blk_frozen BK275.out 1; first | (go_simp; done) | (go_simp; rfl))); intro w25 hw; replace BK275 : Aside0 (w25.heap[gb275]? = some (.cells #[.int .i64 ((rd_T41 l0 x9_1).f0), .int .i64 ((rd_T41 l0 x9_1).f1)] 41 (0, 0))) := ⟨(by rw [hw]; exact (by refine bU ?_; refine blk_put (cs := #[.int .i64 ((rd_T41 l0 x9_1).f0), .int .i64 0]) ?_ 1 _ rfl; refine bU ?_; refine blk_put (cs := #[.int .i64 0, .int .i64 0]) ?_ 0 _ rfl; refine bU ?_; exact BK275.out))⟩; replace HB : Aside0 (Below w.heap.size w w25) := ⟨(by rw [hw]; exact (lV1 GE275))⟩; clear hw; have hcz26_0 := cz BK275 0 (.int .i64 ((rd_T41 l0 x9_1).f0)); have hcz26_1 := cz BK275 1 (.int .i64 ((rd_T41 l0 x9_1).f1)); have hfz26_0 := fz BK275 0; have hfz26_1 := fz BK275 1) | (go_at_call 17; (with_reducible refine (impl_inRange.calls ((rd_T41 l0 x9_1).f0) 0 (wrap64 (a1 - 1)) true _ A6.out).mono ?_); rintro e w' ⟨rfl, ⟨nd, rfl⟩⟩; (try first | exact ⟨rfl, _, World.drewN_drewN _ _ _⟩ | exact ⟨rfl, _, Eq.trans (World.drewN_drewN _ _ _) (congrArg (World.drewN _) (Nat.add_assoc _ _ _))⟩)) | (go_at_call 39; (with_reducible refine (impl_isKeyValue.calls ((rd_T41 l0 x9_1).f1) true _ A8.out).mono ?_); rintro e w' ⟨rfl, ⟨nd, rfl⟩⟩; (try first | exact ⟨rfl, _, World.drewN_drewN _ _ _⟩ | exact ⟨rfl, _, Eq.trans (World.drewN_drewN _ _ _) (congrArg (World.drewN _) (Nat.add_assoc _ _ _))⟩))))
         go_roundg k1
         case measure => have := HK1.out; omega
         case rel => exact ⟨(wrap64 (x9_1 + 1)), tE, H', ⟨by have := HK1.out; omega⟩, ⟨by repeat (first | (with_reducible first | exact HB.out | apply below_alloc | apply pw_below_drewN | apply below_drew1 | refine below_set ?_ GE275.out) | exact HB.out)⟩⟩
       ·replace c9 := Bool.eq_false_iff.mpr c9
        subst c9
        have H1 : (some false) = some r := by rw [if_neg (show ¬ (false = true) by decide)] at H; exact H
        clear H
        have H := H1
        clear H1
        obtain rfl := Option.some.inj H
        have p274 : 0 ≤ (x9_1 : Int) := of_decide_eq_true hE
        have q274 : x9_1 < (l0.length : Int) := of_decide_eq_true hE
        obtain ⟨ad274, e274, hx274_0, hx274_1⟩ := at_T41 HR0.out x9_1 p274 q274
        cases e274
        replace hx274_0 := (HB.out.cell (World.block_lt_of_cell? w _ hx274_0)).trans hx274_0
        replace hx274_1 := (HB.out.cell (World.block_lt_of_cell? w _ hx274_1)).trans hx274_1
        replace p274 := eq_true p274
        replace q274 := eq_true q274
        go_wp2_with (first | ((with_reducible refine gate_dst (N := 6) rfl ?_); refine box_event rfl (N := 6) rfl (cs := #[.int .i64 0, .int .i64 0]) (t := 41) sE ?_; intro gb275 hg w27 hbox hb; have BK275 := Aside0.mk hbox; have GW275 := gS w hg (lU); have GE275 := gS w hg (lU); replace HB := bH (lU) hb; clear hb hbox hg; have hcz28_0 := cz BK275 0 (.int .i64 0); have hcz28_1 := cz BK275 1 (.int .i64 0); have hfz28_0 := fz BK275 0; have hfz28_1 := fz BK275 1) | ((with_reducible refine gate_store (t := 41) (p := 6) rfl ?_); (try (rw [drewN_self w27]; generalize hq_ : World.drewN w27 _ = w27; replace BK275 := Aside0.mk (blk_at hq_ BK275.out); replace HB := Aside0.mk (below_at hq_ HB.out); clear hq_)); refine store_event (t := 41) (p := 6) (v := ?vo_w29) (w1 := ((w27.setCell ⟨gb275, 0, none⟩ (.int .i64 ((rd_T41 l0 x9_1).f0))).setCell ⟨gb275, 1, none⟩ (.int .i64 ((rd_T41 l0 x9_1).f1)))) ?hg ?ho ?hn ?hr ?_; (case ho => rfl); (case hg => rfl); (case hn => rfl); (case hr => first | (go_simp; done) | (go_simp; rfl) | (have hq0_ := (blk_cell BK275.out 0).trans (show _ = some _ from rfl); have hf0_ := blk_frozen BK275.out 0; have hq1_ := (blk_cell BK275.out 1).trans (show _ = some _ from rfl); have hf1_ := blk_frozen BK275.out 1; first | (go_simp; done) | (go_simp; rfl))); intro w29 hw; replace BK275 : Aside0 (w29.heap[gb275]? = some (.cells #[.int .i64 ((rd_T41 l0 x9_1).f0), .int .i64 ((rd_T41 l0 x9_1).f1)] 41 (0, 0))) := ⟨(by rw [hw]; exact (by refine bU ?_; refine blk_put (cs := #[.int .i64 ((rd_T41 l0 x9_1).f0), .int .i64 0]) ?_ 1 _ rfl; refine bU ?_; refine blk_put (cs := #[.int .i64 0, .int .i64 0]) ?_ 0 _ rfl; refine bU ?_; exact BK275.out))⟩; replace HB : Aside0 (Below w.heap.size w w29) := ⟨(by rw [hw]; exact (lV1 GE275))⟩; clear hw; have hcz30_0 := cz BK275 0 (.int .i64 ((rd_T41 l0 x9_1).f0)); have hcz30_1 := cz BK275 1 (.int .i64 ((rd_T41 l0 x9_1).f1)); have hfz30_0 := fz BK275 0; have hfz30_1 := fz BK275 1) | (go_at_call 17; (with_reducible refine (impl_inRange.calls ((rd_T41 l0 x9_1).f0) 0 (wrap64 (a1 - 1)) true _ A6.out).mono ?_); rintro e w' ⟨rfl, ⟨nd, rfl⟩⟩; (try first | exact ⟨rfl, _, World.drewN_drewN _ _ _⟩ | exact ⟨rfl, _, Eq.trans (World.drewN_drewN _ _ _) (congrArg (World.drewN _) (Nat.add_assoc _ _ _))⟩)) | (go_at_call 39; (with_reducible refine (impl_isKeyValue.calls ((rd_T41 l0 x9_1).f1) false _ A8.out).mono ?_); rintro e w' ⟨rfl, ⟨nd, rfl⟩⟩; (try first | exact ⟨rfl, _, World.drewN_drewN _ _ _⟩ | exact ⟨rfl, _, Eq.trans (World.drewN_drewN _ _ _) (congrArg (World.drewN _) (Nat.add_assoc _ _ _))⟩)))
        repeat (go_quiet (first | ((with_reducible refine gate_dst (N := 6) rfl ?_); refine box_event rfl (N := 6) rfl (cs := #[.int .i64 0, .int .i64 0]) (t := 41) sE ?_; intro gb275 hg w27 hbox hb; have BK275 := Aside0.mk hbox; have GW275 := gS w hg (lU); have GE275 := gS w hg (lU); replace HB := bH (lU) hb; clear hb hbox hg; have hcz28_0 := cz BK275 0 (.int .i64 0); have hcz28_1 := cz BK275 1 (.int .i64 0); have hfz28_0 := fz BK275 0; have hfz28_1 := fz BK275 1) | ((with_reducible refine gate_store (t := 41) (p := 6) rfl ?_); (try (rw [drewN_self w27]; generalize hq_ : World.drewN w27 _ = w27; replace BK275 := Aside0.mk (blk_at hq_ BK275.out); replace HB := Aside0.mk (below_at hq_ HB.out); clear hq_)); refine store_event (t := 41) (p := 6) (v := ?vo_w29) (w1 := ((w27.setCell ⟨gb275, 0, none⟩ (.int .i64 ((rd_T41 l0 x9_1).f0))).setCell ⟨gb275, 1, none⟩ (.int .i64 ((rd_T41 l0 x9_1).f1)))) ?hg ?ho ?hn ?hr ?_; (case ho => rfl); (case hg => rfl); (case hn => rfl); (case hr => first | (go_simp; done) | (go_simp; rfl) | (have hq0_ := (blk_cell BK275.out 0).trans (show _ = some _ from rfl); have hf0_ := blk_frozen BK275.out 0; have hq1_ := (blk_cell BK275.out 1).trans (show _ = some _ from rfl); have hf1_ := blk_frozen BK275.out 1; first | (go_simp; done) | (go_simp; rfl))); intro w29 hw; replace BK275 : Aside0 (w29.heap[gb275]? = some (.cells #[.int .i64 ((rd_T41 l0 x9_1).f0), .int .i64 ((rd_T41 l0 x9_1).f1)] 41 (0, 0))) := ⟨(by rw [hw]; exact (by refine bU ?_; refine blk_put (cs := #[.int .i64 ((rd_T41 l0 x9_1).f0), .int .i64 0]) ?_ 1 _ rfl; refine bU ?_; refine blk_put (cs := #[.int .i64 0, .int .i64 0]) ?_ 0 _ rfl; refine bU ?_; exact BK275.out))⟩; replace HB : Aside0 (Below w.heap.size w w29) := ⟨(by rw [hw]; exact (lV1 GE275))⟩; clear hw; have hcz30_0 := cz BK275 0 (.int .i64 ((rd_T41 l0 x9_1).f0)); have hcz30_1 := cz BK275 1 (.int .i64 ((rd_T41 l0 x9_1).f1)); have hfz30_0 := fz BK275 0; have hfz30_1 := fz BK275 1) | (go_at_call 17; (with_reducible refine (impl_inRange.calls ((rd_T41 l0 x9_1).f0) 0 (wrap64 (a1 - 1)) true _ A6.out).mono ?_); rintro e w' ⟨rfl, ⟨nd, rfl⟩⟩; (try first | exact ⟨rfl, _, World.drewN_drewN _ _ _⟩ | exact ⟨rfl, _, Eq.trans (World.drewN_drewN _ _ _) (congrArg (World.drewN _) (Nat.add_assoc _ _ _))⟩)) | (go_at_call 39; (with_reducible refine (impl_isKeyValue.calls ((rd_T41 l0 x9_1).f1) false _ A8.out).mono ?_); rintro e w' ⟨rfl, ⟨nd, rfl⟩⟩; (try first | exact ⟨rfl, _, World.drewN_drewN _ _ _⟩ | exact ⟨rfl, _, Eq.trans (World.drewN_drewN _ _ _) (congrArg (World.drewN _) (Nat.add_assoc _ _ _))⟩))); try go_wp2_with (first | ((with_reducible refine gate_dst (N := 6) rfl ?_); refine box_event rfl (N := 6) rfl (cs := #[.int .i64 0, .int .i64 0]) (t := 41) sE ?_; intro gb275 hg w27 hbox hb; have BK275 := Aside0.mk hbox; have GW275 := gS w hg (lU); have GE275 := gS w hg (lU); replace HB := bH (lU) hb; clear hb hbox hg; have hcz28_0 := cz BK275 0 (.int .i64 0); have hcz28_1 := cz BK275 1 (.int .i64 0); have hfz28_0 := fz BK275 0; have hfz28_1 := fz BK275 1) | ((with_reducible refine gate_store (t := 41) (p := 6) rfl ?_); (try (rw [drewN_self w27]; generalize hq_ : World.drewN w27 _ = w27; replace BK275 := Aside0.mk (blk_at hq_ BK275.out); replace HB := Aside0.mk (below_at hq_ HB.out); clear hq_)); refine store_event (t := 41) (p := 6) (v := ?vo_w29) (w1 := ((w27.setCell ⟨gb275, 0, none⟩ (.int .i64 ((rd_T41 l0 x9_1).f0))).setCell ⟨gb275, 1, none⟩ (.int .i64 ((rd_T41 l0 x9_1).f1)))) ?hg ?ho ?hn ?hr ?_; (case ho => rfl); (case hg => rfl); (case hn => rfl); (case hr => first | (go_simp; done) | (go_simp; rfl) | (have hq0_ := (blk_cell BK275.out 0).trans (show _ = some _ from rfl); have hf0_ := blk_frozen BK275.out 0; have hq1_ := (blk_cell BK275.out 1).trans (show _ = some _ from rfl); have hf1_ := blk_frozen BK275.out 1; first | (go_simp; done) | (go_simp; rfl))); intro w29 hw; replace BK275 : Aside0 (w29.heap[gb275]? = some (.cells #[.int .i64 ((rd_T41 l0 x9_1).f0), .int .i64 ((rd_T41 l0 x9_1).f1)] 41 (0, 0))) := ⟨(by rw [hw]; exact (by refine bU ?_; refine blk_put (cs := #[.int .i64 ((rd_T41 l0 x9_1).f0), .int .i64 0]) ?_ 1 _ rfl; refine bU ?_; refine blk_put (cs := #[.int .i64 0, .int .i64 0]) ?_ 0 _ rfl; refine bU ?_; exact BK275.out))⟩; replace HB : Aside0 (Below w.heap.size w w29) := ⟨(by rw [hw]; exact (lV1 GE275))⟩; clear hw; have hcz30_0 := cz BK275 0 (.int .i64 ((rd_T41 l0 x9_1).f0)); have hcz30_1 := cz BK275 1 (.int .i64 ((rd_T41 l0 x9_1).f1)); have hfz30_0 := fz BK275 0; have hfz30_1 := fz BK275 1) | (go_at_call 17; (with_reducible refine (impl_inRange.calls ((rd_T41 l0 x9_1).f0) 0 (wrap64 (a1 - 1)) true _ A6.out).mono ?_); rintro e w' ⟨rfl, ⟨nd, rfl⟩⟩; (try first | exact ⟨rfl, _, World.drewN_drewN _ _ _⟩ | exact ⟨rfl, _, Eq.trans (World.drewN_drewN _ _ _) (congrArg (World.drewN _) (Nat.add_assoc _ _ _))⟩)) | (go_at_call 39; (with_reducible refine (impl_isKeyValue.calls ((rd_T41 l0 x9_1).f1) false _ A8.out).mono ?_); rintro e w' ⟨rfl, ⟨nd, rfl⟩⟩; (try first | exact ⟨rfl, _, World.drewN_drewN _ _ _⟩ | exact ⟨rfl, _, Eq.trans (World.drewN_drewN _ _ _) (congrArg (World.drewN _) (Nat.add_assoc _ _ _))⟩))))
        go_ret
        exact ⟨eE, lV1 GE275⟩
      ·replace c7 := Bool.eq_false_iff.mpr c7
       subst c7
       have H1 : (some false) = some r := by rw [if_neg (show ¬ (false = true) by decide)] at H; exact H
       clear H
       have H := H1
       clear H1
       obtain rfl := Option.some.inj H
       have p274 : 0 ≤ (x9_1 : Int) := of_decide_eq_true hE
       have q274 : x9_1 < (l0.length : Int) := of_decide_eq_true hE
       obtain ⟨ad274, e274, hx274_0, hx274_1⟩ := at_T41 HR0.out x9_1 p274 q274
       cases e274
       replace hx274_0 := (HB.out.cell (World.block_lt_of_cell? w _ hx274_0)).trans hx274_0
       replace hx274_1 := (HB.out.cell (World.block_lt_of_cell? w _ hx274_1)).trans hx274_1
       replace p274 := eq_true p274
       replace q274 := eq_true q274
       go_wp2_with (first | ((with_reducible refine gate_dst (N := 6) rfl ?_); refine box_event rfl (N := 6) rfl (cs := #[.int .i64 0, .int .i64 0]) (t := 41) sE ?_; intro gb275 hg w31 hbox hb; have BK275 := Aside0.mk hbox; have GW275 := gS w hg (lU); have GE275 := gS w hg (lU); replace HB := bH (lU) hb; clear hb hbox hg; have hcz32_0 := cz BK275 0 (.int .i64 0); have hcz32_1 := cz BK275 1 (.int .i64 0); have hfz32_0 := fz BK275 0; have hfz32_1 := fz BK275 1) | ((with_reducible refine gate_store (t := 41) (p := 6) rfl ?_); (try (rw [drewN_self w31]; generalize hq_ : World.drewN w31 _ = w31; replace BK275 := Aside0.mk (blk_at hq_ BK275.out); replace HB := Aside0.mk (below_at hq_ HB.out); clear hq_)); refine store_event (t := 41) (p := 6) (v := ?vo_w33) (w1 := ((w31.setCell ⟨gb275, 0, none⟩ (.int .i64 ((rd_T41 l0 x9_1).f0))).setCell ⟨gb275, 1, none⟩ (.int .i64 ((rd_T41 l0 x9_1).f1)))) ?hg ?ho ?hn ?hr ?_; (case ho => rfl); (case hg => rfl); (case hn => rfl); (case hr => first | (go_simp; done) | (go_simp; rfl) | (have hq0_ := (blk_cell BK275.out 0).trans (show _ = some _ from rfl); have hf0_ := blk_frozen BK275.out 0; have hq1_ := (blk_cell BK275.out 1).trans (show _ = some _ from rfl); have hf1_ := blk_frozen BK275.out 1; first | (go_simp; done) | (go_simp; rfl))); intro w33 hw; replace BK275 : Aside0 (w33.heap[gb275]? = some (.cells #[.int .i64 ((rd_T41 l0 x9_1).f0), .int .i64 ((rd_T41 l0 x9_1).f1)] 41 (0, 0))) := ⟨(by rw [hw]; exact (by refine bU ?_; refine blk_put (cs := #[.int .i64 ((rd_T41 l0 x9_1).f0), .int .i64 0]) ?_ 1 _ rfl; refine bU ?_; refine blk_put (cs := #[.int .i64 0, .int .i64 0]) ?_ 0 _ rfl; refine bU ?_; exact BK275.out))⟩; replace HB : Aside0 (Below w.heap.size w w33) := ⟨(by rw [hw]; exact (lV1 GE275))⟩; clear hw; have hcz34_0 := cz BK275 0 (.int .i64 ((rd_T41 l0 x9_1).f0)); have hcz34_1 := cz BK275 1 (.int .i64 ((rd_T41 l0 x9_1).f1)); have hfz34_0 := fz BK275 0; have hfz34_1 := fz BK275 1) | (go_at_call 17; (with_reducible refine (impl_inRange.calls ((rd_T41 l0 x9_1).f0) 0 (wrap64 (a1 - 1)) false _ A6.out).mono ?_); rintro e w' ⟨rfl, ⟨nd, rfl⟩⟩; (try first | exact ⟨rfl, _, World.drewN_drewN _ _ _⟩ | exact ⟨rfl, _, Eq.trans (World.drewN_drewN _ _ _) (congrArg (World.drewN _) (Nat.add_assoc _ _ _))⟩)))
       repeat (go_quiet (first | ((with_reducible refine gate_dst (N := 6) rfl ?_); refine box_event rfl (N := 6) rfl (cs := #[.int .i64 0, .int .i64 0]) (t := 41) sE ?_; intro gb275 hg w31 hbox hb; have BK275 := Aside0.mk hbox; have GW275 := gS w hg (lU); have GE275 := gS w hg (lU); replace HB := bH (lU) hb; clear hb hbox hg; have hcz32_0 := cz BK275 0 (.int .i64 0); have hcz32_1 := cz BK275 1 (.int .i64 0); have hfz32_0 := fz BK275 0; have hfz32_1 := fz BK275 1) | ((with_reducible refine gate_store (t := 41) (p := 6) rfl ?_); (try (rw [drewN_self w31]; generalize hq_ : World.drewN w31 _ = w31; replace BK275 := Aside0.mk (blk_at hq_ BK275.out); replace HB := Aside0.mk (below_at hq_ HB.out); clear hq_)); refine store_event (t := 41) (p := 6) (v := ?vo_w33) (w1 := ((w31.setCell ⟨gb275, 0, none⟩ (.int .i64 ((rd_T41 l0 x9_1).f0))).setCell ⟨gb275, 1, none⟩ (.int .i64 ((rd_T41 l0 x9_1).f1)))) ?hg ?ho ?hn ?hr ?_; (case ho => rfl); (case hg => rfl); (case hn => rfl); (case hr => first | (go_simp; done) | (go_simp; rfl) | (have hq0_ := (blk_cell BK275.out 0).trans (show _ = some _ from rfl); have hf0_ := blk_frozen BK275.out 0; have hq1_ := (blk_cell BK275.out 1).trans (show _ = some _ from rfl); have hf1_ := blk_frozen BK275.out 1; first | (go_simp; done) | (go_simp; rfl))); intro w33 hw; replace BK275 : Aside0 (w33.heap[gb275]? = some (.cells #[.int .i64 ((rd_T41 l0 x9_1).f0), .int .i64 ((rd_T41 l0 x9_1).f1)] 41 (0, 0))) := ⟨(by rw [hw]; exact (by refine bU ?_; refine blk_put (cs := #[.int .i64 ((rd_T41 l0 x9_1).f0), .int .i64 0]) ?_ 1 _ rfl; refine bU ?_; refine blk_put (cs := #[.int .i64 0, .int .i64 0]) ?_ 0 _ rfl; refine bU ?_; exact BK275.out))⟩; replace HB : Aside0 (Below w.heap.size w w33) := ⟨(by rw [hw]; exact (lV1 GE275))⟩; clear hw; have hcz34_0 := cz BK275 0 (.int .i64 ((rd_T41 l0 x9_1).f0)); have hcz34_1 := cz BK275 1 (.int .i64 ((rd_T41 l0 x9_1).f1)); have hfz34_0 := fz BK275 0; have hfz34_1 := fz BK275 1) | (go_at_call 17; (with_reducible refine (impl_inRange.calls ((rd_T41 l0 x9_1).f0) 0 (wrap64 (a1 - 1)) false _ A6.out).mono ?_); rintro e w' ⟨rfl, ⟨nd, rfl⟩⟩; (try first | exact ⟨rfl, _, World.drewN_drewN _ _ _⟩ | exact ⟨rfl, _, Eq.trans (World.drewN_drewN _ _ _) (congrArg (World.drewN _) (Nat.add_assoc _ _ _))⟩))); try go_wp2_with (first | ((with_reducible refine gate_dst (N := 6) rfl ?_); refine box_event rfl (N := 6) rfl (cs := #[.int .i64 0, .int .i64 0]) (t := 41) sE ?_; intro gb275 hg w31 hbox hb; have BK275 := Aside0.mk hbox; have GW275 := gS w hg (lU); have GE275 := gS w hg (lU); replace HB := bH (lU) hb; clear hb hbox hg; have hcz32_0 := cz BK275 0 (.int .i64 0); have hcz32_1 := cz BK275 1 (.int .i64 0); have hfz32_0 := fz BK275 0; have hfz32_1 := fz BK275 1) | ((with_reducible refine gate_store (t := 41) (p := 6) rfl ?_); (try (rw [drewN_self w31]; generalize hq_ : World.drewN w31 _ = w31; replace BK275 := Aside0.mk (blk_at hq_ BK275.out); replace HB := Aside0.mk (below_at hq_ HB.out); clear hq_)); refine store_event (t := 41) (p := 6) (v := ?vo_w33) (w1 := ((w31.setCell ⟨gb275, 0, none⟩ (.int .i64 ((rd_T41 l0 x9_1).f0))).setCell ⟨gb275, 1, none⟩ (.int .i64 ((rd_T41 l0 x9_1).f1)))) ?hg ?ho ?hn ?hr ?_; (case ho => rfl); (case hg => rfl); (case hn => rfl); (case hr => first | (go_simp; done) | (go_simp; rfl) | (have hq0_ := (blk_cell BK275.out 0).trans (show _ = some _ from rfl); have hf0_ := blk_frozen BK275.out 0; have hq1_ := (blk_cell BK275.out 1).trans (show _ = some _ from rfl); have hf1_ := blk_frozen BK275.out 1; first | (go_simp; done) | (go_simp; rfl))); intro w33 hw; replace BK275 : Aside0 (w33.heap[gb275]? = some (.cells #[.int .i64 ((rd_T41 l0 x9_1).f0), .int .i64 ((rd_T41 l0 x9_1).f1)] 41 (0, 0))) := ⟨(by rw [hw]; exact (by refine bU ?_; refine blk_put (cs := #[.int .i64 ((rd_T41 l0 x9_1).f0), .int .i64 0]) ?_ 1 _ rfl; refine bU ?_; refine blk_put (cs := #[.int .i64 0, .int .i64 0]) ?_ 0 _ rfl; refine bU ?_; exact BK275.out))⟩; replace HB : Aside0 (Below w.heap.size w w33) := ⟨(by rw [hw]; exact (lV1 GE275))⟩; clear hw; have hcz34_0 := cz BK275 0 (.int .i64 ((rd_T41 l0 x9_1).f0)); have hcz34_1 := cz BK275 1 (.int .i64 ((rd_T41 l0 x9_1).f1)); have hfz34_0 := fz BK275 0; have hfz34_1 := fz BK275 1) | (go_at_call 17; (with_reducible refine (impl_inRange.calls ((rd_T41 l0 x9_1).f0) 0 (wrap64 (a1 - 1)) false _ A6.out).mono ?_); rintro e w' ⟨rfl, ⟨nd, rfl⟩⟩; (try first | exact ⟨rfl, _, World.drewN_drewN _ _ _⟩ | exact ⟨rfl, _, Eq.trans (World.drewN_drewN _ _ _) (congrArg (World.drewN _) (Nat.add_assoc _ _ _))⟩))))
       go_ret
       exact ⟨eE, lV1 GE275⟩
     ·rw [if_neg c5] at H
      exact absurd H (by simp)
    ·rw [if_neg c4] at H
     exact absurd H (by simp)
   ·rw [if_neg c3] at H
    have c3b0 : decide (x9_1 < (l0.length : Int)) = false := decide_eq_false c3
    clear c3
    replace H := Option.bind_eq_some_iff.mp H
    obtain ⟨t273, A350, H⟩ := H
    replace H : (some t273) = some r := H
    have A35 := Aside0.mk A350
    clear A350
    obtain rfl := Option.some.inj H
    go_wp2_with (first | (go_at_call 17; (with_reducible refine (impl_inRange.calls (l0.length : Int) 1 60 t273 _ A35.out).mono ?_); rintro e w' ⟨rfl, ⟨nd, rfl⟩⟩; (try first | exact ⟨rfl, _, World.drewN_drewN _ _ _⟩ | exact ⟨rfl, _, Eq.trans (World.drewN_drewN _ _ _) (congrArg (World.drewN _) (Nat.add_assoc _ _ _))⟩)))
    repeat (go_quiet (first | (go_at_call 17; (with_reducible refine (impl_inRange.calls (l0.length : Int) 1 60 t273 _ A35.out).mono ?_); rintro e w' ⟨rfl, ⟨nd, rfl⟩⟩; (try first | exact ⟨rfl, _, World.drewN_drewN _ _ _⟩ | exact ⟨rfl, _, Eq.trans (World.drewN_drewN _ _ _) (congrArg (World.drewN _) (Nat.add_assoc _ _ _))⟩))); try go_wp2_with (first | (go_at_call 17; (with_reducible refine (impl_inRange.calls (l0.length : Int) 1 60 t273 _ A35.out).mono ?_); rintro e w' ⟨rfl, ⟨nd, rfl⟩⟩; (try first | exact ⟨rfl, _, World.drewN_drewN _ _ _⟩ | exact ⟨rfl, _, Eq.trans (World.drewN_drewN _ _ _) (congrArg (World.drewN _) (Nat.add_assoc _ _ _))⟩))))
    go_ret
    exact ⟨eE, lU⟩
def impl_valueAt.l0 : Nat → List (S41) → Int → List (S41) → Int → Int → Option (Int)
 | 0, _, _, _, _, _ => none
 | k + 1, x0, x1, x7, x8, x9 => if x9 < x8 then (if 0 ≤ x9 then (if x9 < (x7.length : Int) then (if x1 ≤ ((rd_T41 x7 x9).f0) then (if x9 = 0 then (some ((rd_T41 x7 x9).f1)) else (if x1 = ((rd_T41 x7 x9).f0) then (some ((rd_T41 x7 x9).f1)) else (if 0 ≤ (wrap64 (x9 - 1)) then (if (wrap64 (x9 - 1)) < (x0.length : Int) then ((impl_on.f ((rd_T41 x0 (wrap64 (x9 - 1))).f0) ((rd_T41 x0 (wrap64 (x9 - 1))).f1) ((rd_T41 x7 x9).f0) ((rd_T41 x7 x9).f1) x1).bind fun t283 => (some t283)) else (none)) else (none)))) else (impl_valueAt.l0 k x0 x1 x7 x8 (wrap64 (x9 + 1)))) else (none)) else (none)) else (if 0 ≤ (wrap64 ((x0.length : Int) - 1)) then (if (wrap64 ((x0.length : Int) - 1)) < (x0.length : Int) then (some ((rd_T41 x0 (wrap64 ((x0.length : Int) - 1))).f1)) else (none)) else (none))
def impl_valueAt.f (k : Nat) (l0 : List (S41)) (a1 : Int) : Option (Int) := impl_valueAt.l0 k l0 a1 l0 (l0.length : Int) 0
theorem impl_valueAt.mono_l : ∀ k, (∀ y0 y1 y2 y3 y4, LeO (impl_valueAt.l0 k y0 y1 y2 y3 y4) (impl_valueAt.l0 (k + 1) y0 y1 y2 y3 y4))
 | 0 => fun _ _ _ _ _ r h => by simp [impl_valueAt.l0] at h
 | k + 1 => by
  have ih0 := impl_valueAt.mono_l k
  ·intro y0 y1 y2 y3 y4
   unfold impl_valueAt.l0
   repeat' first
   | (with_reducible exact ih0 _ _ _ _ _)
   | (with_reducible first | exact LeO.refl _ | exact LeO.none _ | refine LeO.ite ?_ ?_ | refine LeO.bind ?_ (fun _ => ?_))
   | exact ih0 _ _ _ _ _ | exact LeO.none _ | refine LeO.ite ?_ ?_ | refine LeO.bind ?_ (fun _ => ?_)
theorem impl_valueAt.mono : ∀ a0 a1 k, LeO (impl_valueAt.f k a0 a1) (impl_valueAt.f (k + 1) a0 a1) := by
 intro a0 a1 k
 have ih0 := impl_valueAt.mono_l k
 unfold impl_valueAt.f
 repeat' first
   | (with_reducible exact ih0 _ _ _ _ _)
   | (with_reducible first | exact LeO.refl _ | exact LeO.none _ | refine LeO.ite ?_ ?_ | refine LeO.bind ?_ (fun _ => ?_))
   | exact ih0 _ _ _ _ _ | exact LeO.none _ | refine LeO.ite ?_ ?_ | refine LeO.bind ?_ (fun _ => ?_)
def impl_valueAt.T7 : Bool × List (List Nat × List Nat) := (true, [([], []), ([], []), ([1], [1]), ([0, 2], [0, 2]), ([3], [3]), ([], []), ([], []), ([4, 5, 6], [4, 5, 6]), ([7, 7, 0, 1, 2, 3, 4, 5, 6, 7], [7])])
def impl_valueAt.B7 : List Nat := [0, 0, 2, 7, 15, 0, 0, 127, 255]
theorem impl_valueAt.tab7 : rtab .any (opsOf Try.f30 7) = impl_valueAt.T7 := by kernel_rfl
theorem impl_valueAt.bits7 : waitsOk impl_valueAt.T7.2 impl_valueAt.B7 = true := by kernel_rfl
set_option maxHeartbeats 8000000 in
set_option maxRecDepth 100000 in
theorem impl_valueAt.calls (k : Nat) (A0 : Option Addr) (c0 : Nat) (l0 : List (S41)) (a1 : Int) (r : Int) (w : World) (hr0 : Kd.C k41 w A0 l0.length l0) (hc0 : l0.length ≤ c0) (h : impl_valueAt.f k l0 a1 = some r) :
  Calls Try.prog 30 #[.slice A0 l0.length c0, .int .i64 a1] w fun e w' => e = .returned (.int .i64 r) ∧ Below w.heap.size w w' := by
 have hu41 := Try.underlying41
 have HR0 := Aside0.mk hr0
 have HC0 := Aside0.mk hc0
 clear hr0 hc0
 have HB := Aside0.mk (Below.refl w.heap.size w)
 have H : (impl_valueAt.l0 k l0 a1 l0 (l0.length : Int) 0) = some r := h
 clear h
 have H' := Aside0.mk H
 clear H
 go_enter Try.func30, Try.ntmps30
 go_wp2
 go_loopg [9] k (fun kq v9 w' => ∃ (x9_1 : Int), v9 = .int .i64 x9_1 ∧ Aside0 (impl_valueAt.l0 kq l0 a1 l0 (l0.length : Int) x9_1 = some r) ∧ Aside0 (kq ≤ k) ∧ Aside0 (Below w.heap.size w w'))
 case atStart => exact ⟨(0), tE, H', ⟨Nat.le_refl _⟩, ⟨by repeat (first | (with_reducible first | exact HB.out | apply below_alloc | apply pw_below_drewN | apply below_drew1) | exact HB.out)⟩⟩
 case round =>
  clear H'
  try clear p2
  obtain ⟨x9_1, rfl, HA, HK1, HB⟩ := hrel
  cases gk with
  | zero => exact absurd HA.out (by simp [impl_valueAt.l0])
  | succ k1 =>
   have H := HA.out
   clear HA
   simp only [impl_valueAt.l0] at H
   by_cases c3 : x9_1 < (l0.length : Int)
   ·rw [if_pos c3] at H
    have c3b0 : decide (x9_1 < (l0.length : Int)) = true := decide_eq_true c3
    clear c3
    by_cases c4 : 0 ≤ x9_1
    ·rw [if_pos c4] at H
     have c4b0 : decide (0 ≤ x9_1) = true := decide_eq_true c4
     clear c4
     by_cases c5 : x9_1 < (l0.length : Int)
     ·rw [if_pos c5] at H
      have c5b0 : decide (x9_1 < (l0.length : Int)) = true := decide_eq_true c5
      clear c5
      by_cases c6 : a1 ≤ ((rd_T41 l0 x9_1).f0)
      ·rw [if_pos c6] at H
       have c6b0 : decide (a1 ≤ ((rd_T41 l0 x9_1).f0)) = true := decide_eq_true c6
       clear c6
       by_cases c7 : x9_1 = 0
       ·rw [if_pos c7] at H
        have c7b0 : (x9_1 == 0) = true := beq_iff_eq.mpr c7
        have c7b1 : (x9_1 != 0) = false := bne_eq_false_iff_eq.mpr c7
        clear c7
        obtain rfl := Option.some.inj H
        have p280 : 0 ≤ (x9_1 : Int) := of_decide_eq_true hE
        have q280 : x9_1 < (l0.length : Int) := of_decide_eq_true hE
        obtain ⟨ad280, e280, hx280_0, hx280_1⟩ := at_T41 HR0.out x9_1 p280 q280
        cases e280
        replace hx280_0 := (HB.out.cell (World.block_lt_of_cell? w _ hx280_0)).trans hx280_0
        replace hx280_1 := (HB.out.cell (World.block_lt_of_cell? w _ hx280_1)).trans hx280_1
        replace p280 := eq_true p280
        replace q280 := eq_true q280
        go_wp2_with (first | ((with_reducible refine gate_dst (N := 6) rfl ?_); refine box_event rfl (N := 6) rfl (cs := #[.int .i64 0, .int .i64 0]) (t := 41) sE ?_; intro gb281 hg w8 hbox hb; have BK281 := Aside0.mk hbox; have GW281 := gS w hg (lU); have GE281 := gS w hg (lU); replace HB := bH (lU) hb; clear hb hbox hg; have hcz9_0 := cz BK281 0 (.int .i64 0); have hcz9_1 := cz BK281 1 (.int .i64 0); have hfz9_0 := fz BK281 0; have hfz9_1 := fz BK281 1) | ((with_reducible refine gate_store (t := 41) (p := 6) rfl ?_); refine store_event (t := 41) (p := 6) (v := ?vo_w10) (w1 := ((w8.setCell ⟨gb281, 0, none⟩ (.int .i64 ((rd_T41 l0 x9_1).f0))).setCell ⟨gb281, 1, none⟩ (.int .i64 ((rd_T41 l0 x9_1).f1)))) ?hg ?ho ?hn ?hr ?_; (case ho => rfl); (case hg => rfl); (case hn => rfl); (case hr => first | (go_simp; done) | (go_simp; rfl) | (have hq0_ := (blk_cell BK281.out 0).trans (show _ = some _ from rfl); have hf0_ := blk_frozen BK281.out 0; have hq1_ := (blk_cell BK281.out 1).trans (show _ = some _ from rfl); have hf1_ := blk_frozen BK281.out 1; first | (go_simp; done) | (go_simp; rfl))); intro w10 hw; replace BK281 : Aside0 (w10.heap[gb281]? = some (.cells #[.int .i64 ((rd_T41 l0 x9_1).f0), .int .i64 ((rd_T41 l0 x9_1).f1)] 41 (0, 0))) := ⟨(by rw [hw]; exact (by refine bU ?_; refine blk_put (cs := #[.int .i64 ((rd_T41 l0 x9_1).f0), .int .i64 0]) ?_ 1 _ rfl; refine bU ?_; refine blk_put (cs := #[.int .i64 0, .int .i64 0]) ?_ 0 _ rfl; refine bU ?_; exact BK281.out))⟩; replace HB : Aside0 (Below w.heap.size w w10) := ⟨(by rw [hw]; exact (lV1 GE281))⟩; clear hw; have hcz11_0 := cz BK281 0 (.int .i64 ((rd_T41 l0 x9_1).f0)); have hcz11_1 := cz BK281 1 (.int .i64 ((rd_T41 l0 x9_1).f1)); have hfz11_0 := fz BK281 0; have hfz11_1 := fz BK281 1))
        go_ret
        exact ⟨eE, lV1 GE281⟩
       ·rw [if_neg c7] at H
        have c7b0 : (x9_1 == 0) = false := beq_eq_false_iff_ne.mpr c7
        have c7b1 : (x9_1 != 0) = true := bne_iff_ne.mpr c7
        by_cases c12 : a1 = ((rd_T41 l0 x9_1).f0)
        ·rw [if_pos c12] at H
         have c12b0 : (a1 == ((rd_T41 l0 x9_1).f0)) = true := beq_iff_eq.mpr c12
         have c12b1 : (a1 != ((rd_T41 l0 x9_1).f0)) = false := bne_eq_false_iff_eq.mpr c12
         clear c12
         obtain rfl := Option.some.inj H
         have p280 : 0 ≤ (x9_1 : Int) := of_decide_eq_true hE
         have q280 : x9_1 < (l0.length : Int) := of_decide_eq_true hE
         obtain ⟨ad280, e280, hx280_0, hx280_1⟩ := at_T41 HR0.out x9_1 p280 q280
         cases e280
         replace hx280_0 := (HB.out.cell (World.block_lt_of_cell? w _ hx280_0)).trans hx280_0
         replace hx280_1 := (HB.out.cell (World.block_lt_of_cell? w _ hx280_1)).trans hx280_1
         replace p280 := eq_true p280
         replace q280 := eq_true q280
         go_wp2_with (first | ((with_reducible refine gate_dst (N := 6) rfl ?_); refine box_event rfl (N := 6) rfl (cs := #[.int .i64 0, .int .i64 0]) (t := 41) sE ?_; intro gb281 hg w13 hbox hb; have BK281 := Aside0.mk hbox; have GW281 := gS w hg (lU); have GE281 := gS w hg (lU); replace HB := bH (lU) hb; clear hb hbox hg; have hcz14_0 := cz BK281 0 (.int .i64 0); have hcz14_1 := cz BK281 1 (.int .i64 0); have hfz14_0 := fz BK281 0; have hfz14_1 := fz BK281 1) | ((with_reducible refine gate_store (t := 41) (p := 6) rfl ?_); refine store_event (t := 41) (p := 6) (v := ?vo_w15) (w1 := ((w13.setCell ⟨gb281, 0, none⟩ (.int .i64 ((rd_T41 l0 x9_1).f0))).setCell ⟨gb281, 1, none⟩ (.int .i64 ((rd_T41 l0 x9_1).f1)))) ?hg ?ho ?hn ?hr ?_; (case ho => rfl); (case hg => rfl); (case hn => rfl); (case hr => first | (go_simp; done) | (go_simp; rfl) | (have hq0_ := (blk_cell BK281.out 0).trans (show _ = some _ from rfl); have hf0_ := blk_frozen BK281.out 0; have hq1_ := (blk_cell BK281.out 1).trans (show _ = some _ from rfl); have hf1_ := blk_frozen BK281.out 1; first | (go_simp; done) | (go_simp; rfl))); intro w15 hw; replace BK281 : Aside0 (w15.heap[gb281]? = some (.cells #[.int .i64 ((rd_T41 l0 x9_1).f0), .int .i64 ((rd_T41 l0 x9_1).f1)] 41 (0, 0))) := ⟨(by rw [hw]; exact (by refine bU ?_; refine blk_put (cs := #[.int .i64 ((rd_T41 l0 x9_1).f0), .int .i64 0]) ?_ 1 _ rfl; refine bU ?_; refine blk_put (cs := #[.int .i64 0, .int .i64 0]) ?_ 0 _ rfl; refine bU ?_; exact BK281.out))⟩; replace HB : Aside0 (Below w.heap.size w w15) := ⟨(by rw [hw]; exact (lV1 GE281))⟩; clear hw; have hcz16_0 := cz BK281 0 (.int .i64 ((rd_T41 l0 x9_1).f0)); have hcz16_1 := cz BK281 1 (.int .i64 ((rd_T41 l0 x9_1).f1)); have hfz16_0 := fz BK281 0; have hfz16_1 := fz BK281 1))
         go_ret
         exact ⟨eE, lV1 GE281⟩
        ·rw [if_neg c12] at H
         have c12b0 : (a1 == ((rd_T41 l0 x9_1).f0)) = false := beq_eq_false_iff_ne.mpr c12
         have c12b1 : (a1 != ((rd_T41 l0 x9_1).f0)) = true := bne_iff_ne.mpr c12
         obtain ⟨ji17, hji17⟩ : ∃ j_ : Int, (wrap64 (x9_1 - 1)) = j_ := ⟨_, rfl⟩
         replace H : (if 0 ≤ (ji17) then (if (ji17) < (l0.length : Int) then ((impl_on.f ((rd_T41 l0 (ji17)).f0) ((rd_T41 l0 (ji17)).f1) ((rd_T41 l0 x9_1).f0) ((rd_T41 l0 x9_1).f1) a1).bind fun t283 => (some t283)) else (none)) else (none)) = some r := by first | (rw [hji17] at H; exact H) | (simp only [hji17] at H ⊢; exact H)
         have hji17w : (IntKind.i64.wrap (x9_1 - 1)) = ji17 := (i64_w _).trans hji17
         by_cases c18 : 0 ≤ (ji17)
         ·rw [if_pos c18] at H
          have c18b0 : decide (0 ≤ (ji17)) = true := decide_eq_true c18
          clear c18
          by_cases c19 : (ji17) < (l0.length : Int)
          ·rw [if_pos c19] at H
           have c19b0 : decide ((ji17) < (l0.length : Int)) = true := decide_eq_true c19
           clear c19
           replace H := Option.bind_eq_some_iff.mp H
           obtain ⟨t283, A200, H⟩ := H
           replace H : (some t283) = some r := H
           have A20 := Aside0.mk A200
           clear A200
           obtain rfl := Option.some.inj H
           have p280 : 0 ≤ (x9_1 : Int) := of_decide_eq_true hE
           have q280 : x9_1 < (l0.length : Int) := of_decide_eq_true hE
           obtain ⟨ad280, e280, hx280_0, hx280_1⟩ := at_T41 HR0.out x9_1 p280 q280
           cases e280
           replace hx280_0 := (HB.out.cell (World.block_lt_of_cell? w _ hx280_0)).trans hx280_0
           replace hx280_1 := (HB.out.cell (World.block_lt_of_cell? w _ hx280_1)).trans hx280_1
           replace p280 := eq_true p280
           replace q280 := eq_true q280
           try go_wp2_with (first | ((with_reducible refine gate_dst (N := 6) rfl ?_); refine box_event rfl (N := 6) rfl (cs := #[.int .i64 0, .int .i64 0]) (t := 41) sE ?_; intro gb281 hg w21 hbox hb; have BK281 := Aside0.mk hbox; have GW281 := gS w hg (lU); have GE281 := gS w hg (lU); replace HB := bH (lU) hb; clear hb hbox hg; have hcz22_0 := cz BK281 0 (.int .i64 0); have hcz22_1 := cz BK281 1 (.int .i64 0); have hfz22_0 := fz BK281 0; have hfz22_1 := fz BK281 1) | ((with_reducible refine gate_store (t := 41) (p := 6) rfl ?_); refine store_event (t := 41) (p := 6) (v := ?vo_w23) (w1 := ((w21.setCell ⟨gb281, 0, none⟩ (.int .i64 ((rd_T41 l0 x9_1).f0))).setCell ⟨gb281, 1, none⟩ (.int .i64 ((rd_T41 l0 x9_1).f1)))) ?hg ?ho ?hn ?hr ?_; (case ho => rfl); (case hg => rfl); (case hn => rfl); (case hr => first | (go_simp; done) | (go_simp; rfl) | (have hq0_ := (blk_cell BK281.out 0).trans (show _ = some _ from rfl); have hf0_ := blk_frozen BK281.out 0; have hq1_ := (blk_cell BK281.out 1).trans (show _ = some _ from rfl); have hf1_ := blk_frozen BK281.out 1; first | (go_simp; done) | (go_simp; rfl))); intro w23 hw; replace BK281 : Aside0 (w23.heap[gb281]? = some (.cells #[.int .i64 ((rd_T41 l0 x9_1).f0), .int .i64 ((rd_T41 l0 x9_1).f1)] 41 (0, 0))) := ⟨(by rw [hw]; exact (by refine bU ?_; refine blk_put (cs := #[.int .i64 ((rd_T41 l0 x9_1).f0), .int .i64 0]) ?_ 1 _ rfl; refine bU ?_; refine blk_put (cs := #[.int .i64 0, .int .i64 0]) ?_ 0 _ rfl; refine bU ?_; exact BK281.out))⟩; replace HB : Aside0 (Below w.heap.size w w23) := ⟨(by rw [hw]; exact (lV1 GE281))⟩; clear hw; have hcz24_0 := cz BK281 0 (.int .i64 ((rd_T41 l0 x9_1).f0)); have hcz24_1 := cz BK281 1 (.int .i64 ((rd_T41 l0 x9_1).f1)); have hfz24_0 := fz BK281 0; have hfz24_1 := fz BK281 1))
           replace BK281 := Aside0.mk (blk_drew BK281.out)
           replace HB := Aside0.mk (below_drew1 HB.out)
           have p282 : 0 ≤ ((ji17) : Int) := of_decide_eq_true hE
           have q282 : (ji17) < (l0.length : Int) := of_decide_eq_true hE
           obtain ⟨ad282, e282, hx282_0, hx282_1⟩ := at_T41 HR0.out (ji17) p282 q282
           have hw282_1 := hx282_1
           have hw282_0 := hx282_0
           obtain rfl : ad280 = ad282 := (by injection e282)
           replace hx282_0 := (HB.out.cell (World.block_lt_of_cell? w _ hx282_0)).trans hx282_0
           replace hx282_1 := (HB.out.cell (World.block_lt_of_cell? w _ hx282_1)).trans hx282_1
           replace p282 := eq_true p282
           replace q282 := eq_true q282
           refine start_ (n := 9) (S := fun w' => w'.cell? ⟨gb281, 0, none⟩ = some (.int .i64 ((rd_T41 l0 x9_1).f0)) ∧ w'.cell? ⟨gb281, 1, none⟩ = some (.int .i64 ((rd_T41 l0 x9_1).f1)) ∧ w'.cell? (ad280.add (((ji17)).toNat * 2)) = some (.int .i64 ((rd_T41 l0 (ji17)).f0)) ∧ w'.cell? ⟨(ad280.add (((ji17)).toNat * 2)).block, (ad280.add (((ji17)).toNat * 2)).off + 1, none⟩ = some (.int .i64 ((rd_T41 l0 (ji17)).f1))) (ds := []) #[false, false, false, false, false, false, false, false, false] (by kernel_rfl) rfl rfl ⟨cz BK281 0 _, cz BK281 1 _, ((HB.out.cell (World.block_lt_of_cell? w _ hw282_0)).trans hw282_0), ((HB.out.cell (World.block_lt_of_cell? w _ hw282_1)).trans hw282_1)⟩ (fun hHeld => ?_); refine with_tabW impl_valueAt.tab7 impl_valueAt.bits7 (fun HT_ HW_ => ?_)
           generalize w23.drew = w25 at BK281 HB hx282_0 hx282_1 hHeld ⊢
           refine pureA 0 28 (bz 9 1) rfl rfl (any_of HT_.out (by kernel_rfl)) ?_
           refine pureA 1 29 (bz 9 3) rfl rfl (any_of HT_.out (by kernel_rfl)) ?_
           refine pureA 2 30 (bz 9 7) rfl rfl (any_of HT_.out (by kernel_rfl)) ?_
           refine pureA 3 31 (bz 9 15) rfl rfl (any_of HT_.out (by kernel_rfl)) ?_
           refine pureA 6 34 (bz 9 79) rfl rfl (any_of HT_.out (by kernel_rfl)) ?_
           refine takeA 4 32 (bz 9 95) rfl rfl (take_ofW HT_.out HW_.out (by kernel_rfl)) hHeld (by rintro w' ⟨s0, s1, s2, s3⟩; go_simp; with_reducible rfl) ?_
           refine takeA 5 33 (bz 9 127) rfl rfl (take_ofW HT_.out HW_.out (by kernel_rfl)) hHeld (by rintro w' ⟨s0, s1, s2, s3⟩; go_simp; with_reducible rfl) ?_
           refine one_ (i := 7) (N := some 35) (bz 9 255) rfl rfl (one_of HT_.out (by kernel_rfl)) (by decide) (fun K hK => ?_)
           refine goes_ Try.func40 (by kernel_rfl) rfl #[.agg #[.int .i64 ((rd_T41 l0 (ji17)).f0), .int .i64 ((rd_T41 l0 (ji17)).f1)], .agg #[.int .i64 ((rd_T41 l0 x9_1).f0), .int .i64 ((rd_T41 l0 x9_1).f1)], .int .i64 a1] (by rfl) rfl rfl (by (try simp only [List.map_toArray, List.map_cons, List.map_nil]); first | done | (simp only [hji17]; rfl) | rfl | (simp only [List.length_drop, List.length_take]; rfl)) ?_
           with_reducible refine (impl_on.calls ((rd_T41 l0 (ji17)).f0) ((rd_T41 l0 (ji17)).f1) ((rd_T41 l0 x9_1).f0) ((rd_T41 l0 x9_1).f1) a1 t283 _ A20.out).mono ?_
           rintro e w26 ⟨rfl, hb⟩
           refine ⟨_, rfl, ?_⟩
           replace BK281 := bB (bV BK281) hb
           replace HB := bH (lV1 GE281) hb
           (try clear hb)
           (try clear hb2)
           (try clear hk)
           (try clear hi)
           refine hK.out _ _ ⟨cz BK281 0 _, cz BK281 1 _, ((HB.out.cell (World.block_lt_of_cell? w _ hw282_0)).trans hw282_0), ((HB.out.cell (World.block_lt_of_cell? w _ hw282_1)).trans hw282_1)⟩ (fun hHeld => ?_)
           clear hK K
           refine norm_ (a' := ?_) ?_ ?_
           rotate_left
           ·show Act.put _ (some 35) _ = _
            simp only [Act.put, List.setIfInBounds_toArray, List.set_cons_zero, List.set_cons_succ, i64_w, i32_w]
            rfl
           refine pureA 8 4 (bz 9 511) rfl rfl (any_of HT_.out (by kernel_rfl)) ?_
           refine done_ (done_of HT_.out (by kernel_rfl)) ?_
           try go_wp2
           go_ret
           exact ⟨by first | rfl | (simp [errW_none, errW_some] <;> rfl) | (simp only [← hji17]; first | rfl | (simp [errW_none, errW_some] <;> rfl)) | (simp [*, errW_none, errW_some] <;> rfl), lV1 GE281⟩
          ·rw [if_neg c19] at H
           exact absurd H (by simp)
         ·rw [if_neg c18] at H
          exact absurd H (by simp)
      ·rw [if_neg c6] at H
       have c6b0 : decide (a1 ≤ ((rd_T41 l0 x9_1).f0)) = false := decide_eq_false c6
       clear c6
       have H' := Aside0.mk H
       clear H
       have p280 : 0 ≤ (x9_1 : Int) := of_decide_eq_true hE
       have q280 : x9_1 < (l0.length : Int) := of_decide_eq_true hE
       obtain ⟨ad280, e280, hx280_0, hx280_1⟩ := at_T41 HR0.out x9_1 p280 q280
       cases e280
       replace hx280_0 := (HB.out.cell (World.block_lt_of_cell? w _ hx280_0)).trans hx280_0
       replace hx280_1 := (HB.out.cell (World.block_lt_of_cell? w _ hx280_1)).trans hx280_1
       replace p280 := eq_true p280
       replace q280 := eq_true q280
       go_wp2_with (first | ((with_reducible refine gate_dst (N := 6) rfl ?_); refine box_event rfl (N := 6) rfl (cs := #[.int .i64 0, .int .i64 0]) (t := 41) sE ?_; intro gb281 hg w27 hbox hb; have BK281 := Aside0.mk hbox; have GW281 := gS w hg (lU); have GE281 := gS w hg (lU); replace HB := bH (lU) hb; clear hb hbox hg; have hcz28_0 := cz BK281 0 (.int .i64 0); have hcz28_1 := cz BK281 1 (.int .i64 0); have hfz28_0 := fz BK281 0; have hfz28_1 := fz BK281 1) | ((with_reducible refine gate_store (t := 41) (p := 6) rfl ?_); refine store_event (t := 41) (p := 6) (v := ?vo_w29) (w1 := ((w27.setCell ⟨gb281, 0, none⟩ (.int .i64 ((rd_T41 l0 x9_1).f0))).setCell ⟨gb281, 1, none⟩ (.int .i64 ((rd_T41 l0 x9_1).f1)))) ?hg ?ho ?hn ?hr ?_; (case ho => rfl); (case hg => rfl); (case hn => rfl); (case hr => first | (go_simp; done) | (go_simp; rfl) | (have hq0_ := (blk_cell BK281.out 0).trans (show _ = some _ from rfl); have hf0_ := blk_frozen BK281.out 0; have hq1_ := (blk_cell BK281.out 1).trans (show _ = some _ from rfl); have hf1_ := blk_frozen BK281.out 1; first | (go_simp; done) | (go_simp; rfl))); intro w29 hw; replace BK281 : Aside0 (w29.heap[gb281]? = some (.cells #[.int .i64 ((rd_T41 l0 x9_1).f0), .int .i64 ((rd_T41 l0 x9_1).f1)] 41 (0, 0))) := ⟨(by rw [hw]; exact (by refine bU ?_; refine blk_put (cs := #[.int .i64 ((rd_T41 l0 x9_1).f0), .int .i64 0]) ?_ 1 _ rfl; refine bU ?_; refine blk_put (cs := #[.int .i64 0, .int .i64 0]) ?_ 0 _ rfl; refine bU ?_; exact BK281.out))⟩; replace HB : Aside0 (Below w.heap.size w w29) := ⟨(by rw [hw]; exact (lV1 GE281))⟩; clear hw; have hcz30_0 := cz BK281 0 (.int .i64 ((rd_T41 l0 x9_1).f0)); have hcz30_1 := cz BK281 1 (.int .i64 ((rd_T41 l0 x9_1).f1)); have hfz30_0 := fz BK281 0; have hfz30_1 := fz BK281 1))
       go_roundg k1
       case measure => have := HK1.out; omega
       case rel => exact ⟨(wrap64 (x9_1 + 1)), tE, H', ⟨by have := HK1.out; omega⟩, ⟨by repeat (first | (with_reducible first | exact HB.out | apply below_alloc | apply pw_below_drewN | apply below_drew1 | refine below_set ?_ GE281.out) | exact HB.out)⟩⟩
     ·rw [if_neg c5] at H
      exact absurd H (by simp)
    ·rw [if_neg c4] at H
     exact absurd H (by simp)
   ·rw [if_neg c3] at H
    have c3b0 : decide (x9_1 < (l0.length : Int)) = false := decide_eq_false c3
    clear c3
    obtain ⟨ji31, hji31⟩ : ∃ j_ : Int, (wrap64 ((l0.length : Int) - 1)) = j_ := ⟨_, rfl⟩
    replace H : (if 0 ≤ (ji31) then (if (ji31) < (l0.length : Int) then (some ((rd_T41 l0 (ji31)).f1)) else (none)) else (none)) = some r := by first | (rw [hji31] at H; exact H) | (simp only [hji31] at H ⊢; exact H)
    have hji31w : (IntKind.i64.wrap ((l0.length : Int) - 1)) = ji31 := (i64_w _).trans hji31
    by_cases c32 : 0 ≤ (ji31)
    ·rw [if_pos c32] at H
     have c32b0 : decide (0 ≤ (ji31)) = true := decide_eq_true c32
     clear c32
     by_cases c33 : (ji31) < (l0.length : Int)
     ·rw [if_pos c33] at H
      have c33b0 : decide ((ji31) < (l0.length : Int)) = true := decide_eq_true c33
      clear c33
      obtain rfl := Option.some.inj H
      have p279 : 0 ≤ ((ji31) : Int) := of_decide_eq_true hE
      have q279 : (ji31) < (l0.length : Int) := of_decide_eq_true hE
      obtain ⟨ad279, e279, hx279_0, hx279_1⟩ := at_T41 HR0.out (ji31) p279 q279
      cases e279
      replace hx279_0 := (HB.out.cell (World.block_lt_of_cell? w _ hx279_0)).trans hx279_0
      replace hx279_1 := (HB.out.cell (World.block_lt_of_cell? w _ hx279_1)).trans hx279_1
      replace p279 := eq_true p279
      replace q279 := eq_true q279
      go_wp2
      go_ret
      exact ⟨by first | rfl | (simp [errW_none, errW_some] <;> rfl) | (simp only [← hji31]; first | rfl | (simp [errW_none, errW_some] <;> rfl)) | (simp [*, errW_none, errW_some] <;> rfl), lU⟩
     ·rw [if_neg c33] at H
      exact absurd H (by simp)
    ·rw [if_neg c32] at H
     exact absurd H (by simp)
mutual
def impl_WorstOf.j0 : Nat → List Int → List (S41) → Bool → Option (Int × Bool)
 | 0, _, _, _ => none
 | k + 1, x0, x1, x22 => if x22 = true then (some (0, false)) else (impl_WorstOf.l0 k x1 0 x0 (x0.length : Int) 0)
def impl_WorstOf.l0 : Nat → List (S41) → Int → List Int → Int → Int → Option (Int × Bool)
 | 0, _, _, _, _, _ => none
 | k + 1, x1, x6, x23, x24, x25 => if x25 < x24 then (if 0 ≤ x25 then (if x25 < (x23.length : Int) then ((impl_valueAt.f k x1 x25).bind fun t288 => ((impl_size.f (wrap64 (t288 - (rd x23 x25)))).bind fun t289 => (impl_WorstOf.l0 k x1 (mx x6 t289) x23 x24 (wrap64 (x25 + 1))))) else (none)) else (none)) else (some (x6, true))
end
def impl_WorstOf.f (k : Nat) (l0 : List Int) (l1 : List (S41)) : Option (Int × Bool) := (impl_inRange.f (l0.length : Int) 1 60).bind fun t284 => (if t284 = true then ((impl_areKeyValues.f k l0).bind fun t285 => (if t285 = true then ((impl_areKeys.f k l1 60).bind fun t286 => (impl_WorstOf.j0 k l0 l1 (!t286))) else (impl_WorstOf.j0 k l0 l1 true))) else (impl_WorstOf.j0 k l0 l1 true))
theorem impl_WorstOf.mono_l : ∀ k, (∀ y0 y1 y2, LeO (impl_WorstOf.j0 k y0 y1 y2) (impl_WorstOf.j0 (k + 1) y0 y1 y2)) ∧ (∀ y0 y1 y2 y3 y4, LeO (impl_WorstOf.l0 k y0 y1 y2 y3 y4) (impl_WorstOf.l0 (k + 1) y0 y1 y2 y3 y4))
 | 0 => ⟨fun _ _ _ r h => by simp [impl_WorstOf.j0] at h, fun _ _ _ _ _ r h => by simp [impl_WorstOf.l0] at h⟩
 | k + 1 => by
  obtain ⟨ih0, ih1⟩ := impl_WorstOf.mono_l k
  refine ⟨?_, ?_⟩
  ·intro y0 y1 y2
   unfold impl_WorstOf.j0
   repeat' first
   | (with_reducible exact ih0 _ _ _)
   | (with_reducible exact ih1 _ _ _ _ _)
   | (with_reducible exact impl_areKeyValues.mono _ _)
   | (with_reducible exact impl_areKeys.mono _ _ _)
   | (with_reducible exact impl_valueAt.mono _ _ _)
   | (with_reducible first | exact LeO.refl _ | exact LeO.none _ | refine LeO.ite ?_ ?_ | refine LeO.bind ?_ (fun _ => ?_))
   | exact ih0 _ _ _
   | exact ih1 _ _ _ _ _
   | exact impl_areKeyValues.mono _ _
   | exact impl_areKeys.mono _ _ _
   | exact impl_valueAt.mono _ _ _ | exact LeO.none _ | refine LeO.ite ?_ ?_ | refine LeO.bind ?_ (fun _ => ?_)
  ·intro y0 y1 y2 y3 y4
   unfold impl_WorstOf.l0
   repeat' first
   | (with_reducible exact ih0 _ _ _)
   | (with_reducible exact ih1 _ _ _ _ _)
   | (with_reducible exact impl_areKeyValues.mono _ _)
   | (with_reducible exact impl_areKeys.mono _ _ _)
   | (with_reducible exact impl_valueAt.mono _ _ _)
   | (with_reducible first | exact LeO.refl _ | exact LeO.none _ | refine LeO.ite ?_ ?_ | refine LeO.bind ?_ (fun _ => ?_))
   | exact ih0 _ _ _
   | exact ih1 _ _ _ _ _
   | exact impl_areKeyValues.mono _ _
   | exact impl_areKeys.mono _ _ _
   | exact impl_valueAt.mono _ _ _ | exact LeO.none _ | refine LeO.ite ?_ ?_ | refine LeO.bind ?_ (fun _ => ?_)
theorem impl_WorstOf.mono : ∀ a0 a1 k, LeO (impl_WorstOf.f k a0 a1) (impl_WorstOf.f (k + 1) a0 a1) := by
 intro a0 a1 k
 obtain ⟨ih0, ih1⟩ := impl_WorstOf.mono_l k
 unfold impl_WorstOf.f
 repeat' first
   | (with_reducible exact ih0 _ _ _)
   | (with_reducible exact ih1 _ _ _ _ _)
   | (with_reducible exact impl_areKeyValues.mono _ _)
   | (with_reducible exact impl_areKeys.mono _ _ _)
   | (with_reducible exact impl_valueAt.mono _ _ _)
   | (with_reducible first | exact LeO.refl _ | exact LeO.none _ | refine LeO.ite ?_ ?_ | refine LeO.bind ?_ (fun _ => ?_))
   | exact ih0 _ _ _
   | exact ih1 _ _ _ _ _
   | exact impl_areKeyValues.mono _ _
   | exact impl_areKeys.mono _ _ _
   | exact impl_valueAt.mono _ _ _ | exact LeO.none _ | refine LeO.ite ?_ ?_ | refine LeO.bind ?_ (fun _ => ?_)
set_option maxHeartbeats 8000000 in
set_option maxRecDepth 100000 in
theorem impl_WorstOf.calls (k : Nat) (A0 : Option Addr) (c0 : Nat) (l0 : List Int) (A1 : Option Addr) (c1 : Nat) (l1 : List (S41)) (r1 : Int) (r2 : Bool) (w : World) (hr0 : Kd.C (Kd.int .i64) w A0 l0.length l0) (hc0 : l0.length ≤ c0) (hr1 : Kd.C k41 w A1 l1.length l1) (hc1 : l1.length ≤ c1) (h : impl_WorstOf.f k l0 l1 = some (r1, r2)) :
  Calls Try.prog 13 #[.slice A0 l0.length c0, .slice A1 l1.length c1] w fun e w' => e = .returned (.tuple #[.int .i64 r1, .bool r2]) ∧ Below w.heap.size w w' := by
 have HR0 := Aside0.mk hr0
 have HC0 := Aside0.mk hc0
 clear hr0 hc0
 have HR1 := Aside0.mk hr1
 have HC1 := Aside0.mk hc1
 clear hr1 hc1
 have HB := Aside0.mk (Below.refl w.heap.size w)
 have H : ((impl_inRange.f (l0.length : Int) 1 60).bind fun t284 => (if t284 = true then ((impl_areKeyValues.f k l0).bind fun t285 => (if t285 = true then ((impl_areKeys.f k l1 60).bind fun t286 => (impl_WorstOf.j0 k l0 l1 (!t286))) else (impl_WorstOf.j0 k l0 l1 true))) else (impl_WorstOf.j0 k l0 l1 true))) = some (r1, r2) := h
 clear h
 have HC3 := Aside0.mk H
 clear H
 go_enter Try.func13, Try.ntmps13
 go_upto_region 1 with (fail)
 go_cut [22] (fun v22 wc => ∃ (kq : Nat) (x22_2 : Bool), v22 = .bool x22_2 ∧ Aside0 (impl_WorstOf.j0 kq l0 l1 x22_2 = some (r1, r2)) ∧ Aside0 (kq ≤ k) ∧ Aside0 (Below w.heap.size w wc))
 case first =>
  have H := HC3.out
  clear HC3
  replace H := Option.bind_eq_some_iff.mp H
  obtain ⟨t284, A40, H⟩ := H
  replace H : (if t284 = true then ((impl_areKeyValues.f k l0).bind fun t285 => (if t285 = true then ((impl_areKeys.f k l1 60).bind fun t286 => (impl_WorstOf.j0 k l0 l1 (!t286))) else (impl_WorstOf.j0 k l0 l1 true))) else (impl_WorstOf.j0 k l0 l1 true)) = some (r1, r2) := H
  have A4 := Aside0.mk A40
  clear A40
  by_cases c5 : t284 = true
  ·subst c5
   have H1 : ((impl_areKeyValues.f k l0).bind fun t285 => (if t285 = true then ((impl_areKeys.f k l1 60).bind fun t286 => (impl_WorstOf.j0 k l0 l1 (!t286))) else (impl_WorstOf.j0 k l0 l1 true))) = some (r1, r2) := by rw [if_pos rfl] at H; exact H
   clear H
   have H := H1
   clear H1
   replace H := Option.bind_eq_some_iff.mp H
   obtain ⟨t285, A60, H⟩ := H
   replace H : (if t285 = true then ((impl_areKeys.f k l1 60).bind fun t286 => (impl_WorstOf.j0 k l0 l1 (!t286))) else (impl_WorstOf.j0 k l0 l1 true)) = some (r1, r2) := H
   have A6 := Aside0.mk A60
   clear A60
   by_cases c7 : t285 = true
   ·subst c7
    have H1 : ((impl_areKeys.f k l1 60).bind fun t286 => (impl_WorstOf.j0 k l0 l1 (!t286))) = some (r1, r2) := by rw [if_pos rfl] at H; exact H
    clear H
    have H := H1
    clear H1
    replace H := Option.bind_eq_some_iff.mp H
    obtain ⟨t286, A80, H⟩ := H
    replace H : (impl_WorstOf.j0 k l0 l1 (!t286)) = some (r1, r2) := H
    have A8 := Aside0.mk A80
    clear A80
    have H' := Aside0.mk H
    clear H
    go_wp2_with (first | ((with_reducible refine gate_callee (f := 17) rfl ?_); refine goesL_ (some 11) rfl rfl Try.func17 (by kernel_rfl) rfl #[.int .i64 (l0.length : Int), .int .i64 1, .int .i64 60] rfl aE ?_; (with_reducible refine (impl_inRange.calls (l0.length : Int) 1 60 true _ A4.out).mono ?_); rintro e w' ⟨rfl, ⟨nd, rfl⟩⟩; refine ⟨_, rfl, ?_⟩) | (go_at_call 23; (with_reducible refine (impl_areKeyValues.calls k _ _ l0 true _ ?side1 ?side2 A6.out).mono ?_); (case side1 => exact cU (Kd.C_below HR0.out (lU))); (case side2 => exact HC0.out); rintro e w' ⟨rfl, ⟨nd, rfl⟩⟩) | (go_at_call 28; (with_reducible refine (impl_areKeys.calls k _ _ l1 60 t286 _ ?side1 ?side2 A8.out).mono ?_); (case side1 => exact cU (Kd.C_below HR1.out (lU))); (case side2 => exact HC1.out); rintro e w9 ⟨rfl, hb⟩; replace HB := bH (lU) hb; (try clear hb)))
    go_meet
    case rel => exact ⟨_, (!t286), tE, H', ⟨by first | omega | exact Nat.le_refl _⟩, ⟨by repeat (first | (with_reducible first | exact HB.out | apply below_alloc | apply pw_below_drewN | apply below_drew1) | exact HB.out)⟩⟩
   ·replace c7 := Bool.eq_false_iff.mpr c7
    subst c7
    have H1 : (impl_WorstOf.j0 k l0 l1 true) = some (r1, r2) := by rw [if_neg (show ¬ (false = true) by decide)] at H; exact H
    clear H
    have H := H1
    clear H1
    have H' := Aside0.mk H
    clear H
    go_wp2_with (first | ((with_reducible refine gate_callee (f := 17) rfl ?_); refine goesL_ (some 11) rfl rfl Try.func17 (by kernel_rfl) rfl #[.int .i64 (l0.length : Int), .int .i64 1, .int .i64 60] rfl aE ?_; (with_reducible refine (impl_inRange.calls (l0.length : Int) 1 60 true _ A4.out).mono ?_); rintro e w' ⟨rfl, ⟨nd, rfl⟩⟩; refine ⟨_, rfl, ?_⟩) | (go_at_call 23; (with_reducible refine (impl_areKeyValues.calls k _ _ l0 false _ ?side1 ?side2 A6.out).mono ?_); (case side1 => exact cU (Kd.C_below HR0.out (lU))); (case side2 => exact HC0.out); rintro e w' ⟨rfl, ⟨nd, rfl⟩⟩))
    go_meet
    case rel => exact ⟨_, (true), tE, H', ⟨by first | omega | exact Nat.le_refl _⟩, ⟨by repeat (first | (with_reducible first | exact HB.out | apply below_alloc | apply pw_below_drewN | apply below_drew1) | exact HB.out)⟩⟩
  ·replace c5 := Bool.eq_false_iff.mpr c5
   subst c5
   have H1 : (impl_WorstOf.j0 k l0 l1 true) = some (r1, r2) := by rw [if_neg (show ¬ (false = true) by decide)] at H; exact H
   clear H
   have H := H1
   clear H1
   have H' := Aside0.mk H
   clear H
   go_wp2_with (first | ((with_reducible refine gate_callee (f := 17) rfl ?_); refine goesL_ (some 11) rfl rfl Try.func17 (by kernel_rfl) rfl #[.int .i64 (l0.length : Int), .int .i64 1, .int .i64 60] rfl aE ?_; (with_reducible refine (impl_inRange.calls (l0.length : Int) 1 60 false _ A4.out).mono ?_); rintro e w' ⟨rfl, ⟨nd, rfl⟩⟩; refine ⟨_, rfl, ?_⟩))
   go_meet
   case rel => exact ⟨_, (true), tE, H', ⟨by first | omega | exact Nat.le_refl _⟩, ⟨by repeat (first | (with_reducible first | exact HB.out | apply below_alloc | apply pw_below_drewN | apply below_drew1) | exact HB.out)⟩⟩
 case rest =>
  clear HC3
  try clear c1
  try clear p2
  try clear c5
  try clear c7
  obtain ⟨kq, x22_2, rfl, HA, HJ2, HB⟩ := hcut
  cases kq with
  | zero => exact absurd HA.out (by simp [impl_WorstOf.j0])
  | succ kj2 =>
   have H := HA.out
   clear HA
   simp only [impl_WorstOf.j0] at H
   by_cases c10 : x22_2 = true
   ·subst c10
    have H1 : (some (0, false)) = some (r1, r2) := by rw [if_pos rfl] at H; exact H
    clear H
    have H := H1
    clear H1
    simp only [Option.some.injEq, Prod.mk.injEq] at H
    obtain ⟨rfl, rfl⟩ := H
    go_wp2
    go_ret2
    exact ⟨eE, lU⟩
   ·replace c10 := Bool.eq_false_iff.mpr c10
    subst c10
    have H1 : (impl_WorstOf.l0 kj2 l1 0 l0 (l0.length : Int) 0) = some (r1, r2) := by rw [if_neg (show ¬ (false = true) by decide)] at H; exact H
    clear H
    have H := H1
    clear H1
    have H' := Aside0.mk H
    clear H
    go_wp2
    go_loopg [6, 25] kj2 (fun kq v6 v25 w' => ∃ (x6_2 : Int) (x25_2 : Int), v6 = .int .i64 x6_2 ∧ v25 = .int .i64 x25_2 ∧ Aside0 (impl_WorstOf.l0 kq l1 x6_2 l0 (l0.length : Int) x25_2 = some (r1, r2)) ∧ Aside0 (kq ≤ kj2) ∧ Aside0 (Below w.heap.size w w'))
    case atStart => exact ⟨(0), (0), tE, tE, H', ⟨Nat.le_refl _⟩, ⟨by repeat (first | (with_reducible first | exact HB.out | apply below_alloc | apply pw_below_drewN | apply below_drew1) | exact HB.out)⟩⟩
    case round =>
     clear H'
     try clear c1
     try clear p2
     try clear c5
     try clear c7
     try clear c10
     try clear p2
     obtain ⟨x6_2, x25_2, rfl, rfl, HA, HK2, HB⟩ := hrel
     cases gk with
     | zero => exact absurd HA.out (by simp [impl_WorstOf.l0])
     | succ k2 =>
      have H := HA.out
      clear HA
      simp only [impl_WorstOf.l0] at H
      by_cases c11 : x25_2 < (l0.length : Int)
      ·rw [if_pos c11] at H
       have c11b0 : decide (x25_2 < (l0.length : Int)) = true := decide_eq_true c11
       clear c11
       by_cases c12 : 0 ≤ x25_2
       ·rw [if_pos c12] at H
        have c12b0 : decide (0 ≤ x25_2) = true := decide_eq_true c12
        clear c12
        by_cases c13 : x25_2 < (l0.length : Int)
        ·rw [if_pos c13] at H
         have c13b0 : decide (x25_2 < (l0.length : Int)) = true := decide_eq_true c13
         clear c13
         replace H := Option.bind_eq_some_iff.mp H
         obtain ⟨t288, A140, H⟩ := H
         replace H : ((impl_size.f (wrap64 (t288 - (rd l0 x25_2)))).bind fun t289 => (impl_WorstOf.l0 k2 l1 (mx x6_2 t289) l0 (l0.length : Int) (wrap64 (x25_2 + 1)))) = some (r1, r2) := H
         have A14 := Aside0.mk A140
         clear A140
         replace H := Option.bind_eq_some_iff.mp H
         obtain ⟨t289, A150, H⟩ := H
         replace H : (impl_WorstOf.l0 k2 l1 (mx x6_2 t289) l0 (l0.length : Int) (wrap64 (x25_2 + 1))) = some (r1, r2) := H
         have A15 := Aside0.mk A150
         clear A150
         obtain ⟨ji16, hji16⟩ : ∃ j_ : Int, (mx x6_2 t289) = j_ := ⟨_, rfl⟩
         replace H : (impl_WorstOf.l0 k2 l1 ji16 l0 (l0.length : Int) (wrap64 (x25_2 + 1))) = some (r1, r2) := by first | (rw [hji16] at H; exact H) | (simp only [hji16] at H ⊢; exact H)
         (try rw [hji16] at A14)
         (try rw [hji16] at A15)
         have hji16_ : (if x6_2 < t289 then t289 else x6_2) = ji16 := hji16
         have H' := Aside0.mk H
         clear H
         have p287 : 0 ≤ (x25_2 : Int) := of_decide_eq_true hE
         have q287 : x25_2 < (l0.length : Int) := of_decide_eq_true hE
         obtain ⟨ad287, e287, hx287_0⟩ := Kd.at_int HR0.out x25_2 p287 q287
         cases e287
         replace hx287_0 := (HB.out.cell (World.block_lt_of_cell? w _ hx287_0)).trans hx287_0
         replace p287 := eq_true p287
         replace q287 := eq_true q287
         go_wp2_with (first | ((with_reducible refine gate_callee (f := 30) rfl ?_); refine goesL_ (some 33) rfl rfl Try.func30 (by kernel_rfl) rfl #[.slice A1 l1.length c1, .int .i64 x25_2] rfl aE ?_; (with_reducible refine (impl_valueAt.calls k2 _ _ l1 x25_2 t288 _ ?side1 ?side2 A14.out).mono ?_); (case side1 => exact cU (Kd.C_below HR1.out HB.out)); (case side2 => exact HC1.out); rintro e w17 ⟨rfl, hb⟩; refine ⟨_, rfl, ?_⟩; replace HB := bH (lU) hb; (try clear hb)) | ((with_reducible refine gate_callee (f := 29) rfl ?_); refine goesL_ (some 36) rfl rfl Try.func29 (by kernel_rfl) rfl #[.int .i64 (wrap64 (t288 - (rd l0 x25_2)))] rfl aE ?_; (with_reducible refine (impl_size.calls (wrap64 (t288 - (rd l0 x25_2))) t289 _ A15.out).mono ?_); rintro e w18 ⟨rfl, hb⟩; refine ⟨_, rfl, ?_⟩; replace HB := bH (lU) hb; (try clear hb)))
         go_roundg k2
         case measure => have := HJ2.out; have := HK2.out; omega
         case rel => exact ⟨(ji16), (wrap64 (x25_2 + 1)), (by first | rfl | (simp; done) | (simp only [← hji16] <;> (first | rfl | simp)) | (simp [*]; done) | exact not_isEmpty _ | exact (not_isEmpty _).symm | exact is_empty _ | exact (is_empty _).symm), tE, H', ⟨by have := HJ2.out; have := HK2.out; omega⟩, ⟨by repeat (first | (with_reducible first | exact HB.out | apply below_alloc | apply pw_below_drewN | apply below_drew1) | exact HB.out)⟩⟩
        ·rw [if_neg c13] at H
         exact absurd H (by simp)
       ·rw [if_neg c12] at H
        exact absurd H (by simp)
      ·rw [if_neg c11] at H
       have c11b0 : decide (x25_2 < (l0.length : Int)) = false := decide_eq_false c11
       clear c11
       simp only [Option.some.injEq, Prod.mk.injEq] at H
       obtain ⟨rfl, rfl⟩ := H
       go_wp2
       go_ret2
       exact ⟨eE, lU⟩
end Go.Proofs.Ytbamdbdcglohmaa.PFnKeys
