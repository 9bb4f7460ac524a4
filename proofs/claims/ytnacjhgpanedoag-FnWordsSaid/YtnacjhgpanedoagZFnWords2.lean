/- Texts of a row. -/
import Derived.Test.YtnacjhgpanedoagZFnWords1
import Derived.Test.YtnacjhgpanedoagZFnWords0
import Derived.Lib.ConvBytes
import Derived.SizedLaws
import Derived.ChangeArms
import Derived.OpenShut
import Derived.WideShapes
import Derived.WalkKit
import Derived.KernelRfl
import Derived.Laws.BitsLemmas
namespace Go.Proofs.Ytnacjhgpanedoag.PFnWords
open Go.RowKit Go.Proofs.YtnacjhgpanedoagW.PrintWords Go.Proofs.YtnacjhgpanedoagW.PrintLast Go.Proofs.YtnacjhgpanedoagW.PrintMore
attribute [local go_sem] max2_int min2_int max_two min_two max_three min_three max_four min_four   -- for this text's walks alone
set_option linter.unusedVariables false
set_option linter.unusedSimpArgs false
mutual
def spec_l18Rune.j2 : Nat → ByteArray → Int → Int → Option (Int × Int)
 | 0, _, _, _ => none
 | k + 1, x0, x5, x6 => if x5 = 0 then (spec_l18Rune.j3 k x0 x5 x6 true) else (spec_l18Rune.j3 k x0 x5 x6 (decide ((x0.size : Int) < x5)))
def spec_l18Rune.j3 : Nat → ByteArray → Int → Int → Bool → Option (Int × Int)
 | 0, _, _, _, _ => none
 | k + 1, x0, x5, x6, x51 => if x51 = true then (some (65533, 1)) else (spec_l18Rune.l0 k x0 x5 x6 1)
def spec_l18Rune.l0 : Nat → ByteArray → Int → Int → Int → Option (Int × Int)
 | 0, _, _, _, _ => none
 | k + 1, x0, x5, x6, x7 => if x7 < x5 then (if 0 ≤ x7 then (if x7 < (x0.size : Int) then (if (bt x0 x7) < 128 then (some (65533, 1)) else (if (bt x0 x7) > 191 then (some (65533, 1)) else (spec_l18Rune.l0 k x0 x5 (wrap64 ((wrap64 ((wrap64 (x6 * 64)) + (wrap64 (bt x0 x7)))) - 128)) (wrap64 (x7 + 1))))) else (none)) else (none)) else (if x5 = 3 then (if x6 < 2048 then (some (65533, 1)) else ((spec_l1In.f x6 55296 57343).bind fun t230 => (if t230 = true then (some (65533, 1)) else (if x5 = 4 then ((spec_l1In.f x6 65536 1114111).bind fun t231 => (if t231 = true then (some (x6, x5)) else (some (65533, 1)))) else (some (x6, x5)))))) else (if x5 = 4 then ((spec_l1In.f x6 65536 1114111).bind fun t232 => (if t232 = true then (some (x6, x5)) else (some (65533, 1)))) else (some (x6, x5))))
def spec_l18Rune.j0 : Nat → ByteArray → Int → Int → Int → Bool → Option (Int × Int)
 | 0, _, _, _, _, _ => none
 | k + 1, x0, x4, x5, x6, x14 => if x14 = true then (spec_l18Rune.j2 k x0 2 (wrap64 ((wrap64 (x4)) - 192))) else (if x4 ≥ 224 then (spec_l18Rune.j1 k x0 x4 x5 x6 (decide (x4 ≤ 239))) else (spec_l18Rune.j1 k x0 x4 x5 x6 false))
def spec_l18Rune.j1 : Nat → ByteArray → Int → Int → Int → Bool → Option (Int × Int)
 | 0, _, _, _, _, _ => none
 | k + 1, x0, x4, x5, x6, x24 => if x24 = true then (spec_l18Rune.j2 k x0 3 (wrap64 ((wrap64 (x4)) - 224))) else (if x4 ≥ 240 then (if x4 ≤ 244 then (spec_l18Rune.j2 k x0 4 (wrap64 ((wrap64 (x4)) - 240))) else (spec_l18Rune.j2 k x0 x5 x6)) else (spec_l18Rune.j2 k x0 x5 x6))
end
def spec_l18Rune.f (k : Nat) (a0 : ByteArray) : Option (Int × Int) := if 0 < (a0.size : Int) then (if (bt a0 0) < 128 then (some (wrap64 (bt a0 0), 1)) else (if (bt a0 0) ≥ 194 then (spec_l18Rune.j0 k a0 (bt a0 0) 0 0 (decide ((bt a0 0) ≤ 223))) else (spec_l18Rune.j0 k a0 (bt a0 0) 0 0 false))) else (none)
theorem spec_l18Rune.mono_l : ∀ k, (∀ y0 y1 y2, LeO (spec_l18Rune.j2 k y0 y1 y2) (spec_l18Rune.j2 (k + 1) y0 y1 y2)) ∧ (∀ y0 y1 y2 y3, LeO (spec_l18Rune.j3 k y0 y1 y2 y3) (spec_l18Rune.j3 (k + 1) y0 y1 y2 y3)) ∧ (∀ y0 y1 y2 y3, LeO (spec_l18Rune.l0 k y0 y1 y2 y3) (spec_l18Rune.l0 (k + 1) y0 y1 y2 y3)) ∧ (∀ y0 y1 y2 y3 y4, LeO (spec_l18Rune.j0 k y0 y1 y2 y3 y4) (spec_l18Rune.j0 (k + 1) y0 y1 y2 y3 y4)) ∧ (∀ y0 y1 y2 y3 y4, LeO (spec_l18Rune.j1 k y0 y1 y2 y3 y4) (spec_l18Rune.j1 (k + 1) y0 y1 y2 y3 y4))
 | 0 => ⟨fun _ _ _ r h => by simp [spec_l18Rune.j2] at h, fun _ _ _ _ r h => by simp [spec_l18Rune.j3] at h, fun _ _ _ _ r h => by simp [spec_l18Rune.l0] at h, fun _ _ _ _ _ r h => by simp [spec_l18Rune.j0] at h, fun _ _ _ _ _ r h => by simp [spec_l18Rune.j1] at h⟩
 | k + 1 => by
  obtain ⟨ih0, ih1, ih2, ih3, ih4⟩ := spec_l18Rune.mono_l k
  refine ⟨?_, ?_, ?_, ?_, ?_⟩
  ·intro y0 y1 y2
   unfold spec_l18Rune.j2
   repeat' first
   | (with_reducible exact ih0 _ _ _)
   | (with_reducible exact ih1 _ _ _ _)
   | (with_reducible exact ih2 _ _ _ _)
   | (with_reducible exact ih3 _ _ _ _ _)
   | (with_reducible exact ih4 _ _ _ _ _)
   | (with_reducible first | exact LeO.refl _ | exact LeO.none _ | refine LeO.ite ?_ ?_ | refine LeO.bind ?_ (fun _ => ?_))
   | exact ih0 _ _ _
   | exact ih1 _ _ _ _
   | exact ih2 _ _ _ _
   | exact ih3 _ _ _ _ _
   | exact ih4 _ _ _ _ _ | exact LeO.none _ | refine LeO.ite ?_ ?_ | refine LeO.bind ?_ (fun _ => ?_)
  ·intro y0 y1 y2 y3
   unfold spec_l18Rune.j3
   repeat' first
   | (with_reducible exact ih0 _ _ _)
   | (with_reducible exact ih1 _ _ _ _)
   | (with_reducible exact ih2 _ _ _ _)
   | (with_reducible exact ih3 _ _ _ _ _)
   | (with_reducible exact ih4 _ _ _ _ _)
   | (with_reducible first | exact LeO.refl _ | exact LeO.none _ | refine LeO.ite ?_ ?_ | refine LeO.bind ?_ (fun _ => ?_))
   | exact ih0 _ _ _
   | exact ih1 _ _ _ _
   | exact ih2 _ _ _ _
   | exact ih3 _ _ _ _ _
   | exact ih4 _ _ _ _ _ | exact LeO.none _ | refine LeO.ite ?_ ?_ | refine LeO.bind ?_ (fun _ => ?_)
  ·intro y0 y1 y2 y3
   unfold spec_l18Rune.l0
   repeat' first
   | (with_reducible exact ih0 _ _ _)
   | (with_reducible exact ih1 _ _ _ _)
   | (with_reducible exact ih2 _ _ _ _)
   | (with_reducible exact ih3 _ _ _ _ _)
   | (with_reducible exact ih4 _ _ _ _ _)
   | (with_reducible first | exact LeO.refl _ | exact LeO.none _ | refine LeO.ite ?_ ?_ | refine LeO.bind ?_ (fun _ => ?_))
   | exact ih0 _ _ _
   | exact ih1 _ _ _ _
   | exact ih2 _ _ _ _
   | exact ih3 _ _ _ _ _
   | exact ih4 _ _ _ _ _ | exact LeO.none _ | refine LeO.ite ?_ ?_ | refine LeO.bind ?_ (fun _ => ?_)
  ·intro y0 y1 y2 y3 y4
   unfold spec_l18Rune.j0
   repeat' first
   | (with_reducible exact ih0 _ _ _)
   | (with_reducible exact ih1 _ _ _ _)
   | (with_reducible exact ih2 _ _ _ _)
   | (with_reducible exact ih3 _ _ _ _ _)
   | (with_reducible exact ih4 _ _ _ _ _)
   | (with_reducible first | exact LeO.refl _ | exact LeO.none _ | refine LeO.ite ?_ ?_ | refine LeO.bind ?_ (fun _ => ?_))
   | exact ih0 _ _ _
   | exact ih1 _ _ _ _
   | exact ih2 _ _ _ _
   | exact ih3 _ _ _ _ _
   | exact ih4 _ _ _ _ _ | exact LeO.none _ | refine LeO.ite ?_ ?_ | refine LeO.bind ?_ (fun _ => ?_)
  ·intro y0 y1 y2 y3 y4
   unfold spec_l18Rune.j1
   repeat' first
   | (with_reducible exact ih0 _ _ _)
   | (with_reducible exact ih1 _ _ _ _)
   | (with_reducible exact ih2 _ _ _ _)
   | (with_reducible exact ih3 _ _ _ _ _)
   | (with_reducible exact ih4 _ _ _ _ _)
   | (with_reducible first | exact LeO.refl _ | exact LeO.none _ | refine LeO.ite ?_ ?_ | refine LeO.bind ?_ (fun _ => ?_))
   | exact ih0 _ _ _
   | exact ih1 _ _ _ _
   | exact ih2 _ _ _ _
   | exact ih3 _ _ _ _ _
   | exact ih4 _ _ _ _ _ | exact LeO.none _ | refine LeO.ite ?_ ?_ | refine LeO.bind ?_ (fun _ => ?_)
theorem spec_l18Rune.mono : ∀ a0 k, LeO (spec_l18Rune.f k a0) (spec_l18Rune.f (k + 1) a0) := by
 intro a0 k
 obtain ⟨ih0, ih1, ih2, ih3, ih4⟩ := spec_l18Rune.mono_l k
 unfold spec_l18Rune.f
 repeat' first
   | (with_reducible exact ih0 _ _ _)
   | (with_reducible exact ih1 _ _ _ _)
   | (with_reducible exact ih2 _ _ _ _)
   | (with_reducible exact ih3 _ _ _ _ _)
   | (with_reducible exact ih4 _ _ _ _ _)
   | (with_reducible first | exact LeO.refl _ | exact LeO.none _ | refine LeO.ite ?_ ?_ | refine LeO.bind ?_ (fun _ => ?_))
   | exact ih0 _ _ _
   | exact ih1 _ _ _ _
   | exact ih2 _ _ _ _
   | exact ih3 _ _ _ _ _
   | exact ih4 _ _ _ _ _ | exact LeO.none _ | refine LeO.ite ?_ ?_ | refine LeO.bind ?_ (fun _ => ?_)
set_option maxHeartbeats 8000000 in
set_option maxRecDepth 100000 in
theorem spec_l18Rune.calls (k : Nat) (a0 : ByteArray) (r1 : Int) (r2 : Int) (w : World) (h : spec_l18Rune.f k a0 = some (r1, r2)) :
  Calls Try.prog 31 #[.string a0] w fun e w' => e = .returned (.tuple #[.int .i64 r1, .int .i64 r2]) ∧ Drawn0 w w' := by
 have H : (if 0 < (a0.size : Int) then (if (bt a0 0) < 128 then (some (wrap64 (bt a0 0), 1)) else (if (bt a0 0) ≥ 194 then (spec_l18Rune.j0 k a0 (bt a0 0) 0 0 (decide ((bt a0 0) ≤ 223))) else (spec_l18Rune.j0 k a0 (bt a0 0) 0 0 false))) else (none)) = some (r1, r2) := h
 clear h
 by_cases c2 : 0 < (a0.size : Int)
 ·rw [if_pos c2] at H
  have c2b0 : decide (0 < (a0.size : Int)) = true := decide_eq_true c2
  have c2b1 : decide (0 < a0.size) = true := decide_eq_true (by omega)
  clear c2
  by_cases c4 : (bt a0 0) < 128
  ·rw [if_pos c4] at H
   have c4b0 : decide ((bt a0 0) < 128) = true := decide_eq_true c4
   clear c4
   simp only [Option.some.injEq, Prod.mk.injEq] at H
   obtain ⟨rfl, rfl⟩ := H
   have p3 : 0 ≤ (0 : Int) := (by omega)
   have q3 : 0 < a0.size := (by have : (0 : Int) < (a0.size : Int) := of_decide_eq_true (by first | (with_reducible assumption) | assumption); omega)
   have hx3 : ∀ h : 0 < a0.size, ((a0[0]'h).toNat : Int) = bt a0 0 := bt_at a0 0
   clear p3
   have qi3 : (0 < (a0.size : Int)) = True := eq_true (of_decide_eq_true (by first | (with_reducible assumption) | assumption))
   replace q3 := eq_true q3
   go_enter Try.func31, Try.ntmps31
   go_wp2
   go_ret2
   exact ⟨by first | rfl | (simp; done) | (simp [*]; done) | exact not_isEmpty _ | exact (not_isEmpty _).symm | exact is_empty _ | exact (is_empty _).symm, by repeat (first | exact Drawn0.refl _ | apply Drawn0.step)⟩
  ·rw [if_neg c4] at H
   have c4b0 : decide ((bt a0 0) < 128) = false := decide_eq_false c4
   clear c4
   have HC5 := Aside0.mk H
   clear H
   have p3 : 0 ≤ (0 : Int) := (by omega)
   have q3 : 0 < a0.size := (by have : (0 : Int) < (a0.size : Int) := of_decide_eq_true (by first | (with_reducible assumption) | assumption); omega)
   have hx3 : ∀ h : 0 < a0.size, ((a0[0]'h).toNat : Int) = bt a0 0 := bt_at a0 0
   clear p3
   have qi3 : (0 < (a0.size : Int)) = True := eq_true (of_decide_eq_true (by first | (with_reducible assumption) | assumption))
   replace q3 := eq_true q3
   go_enter Try.func31, Try.ntmps31
   go_upto_block 0 with (fail)
   go_cut [5, 6] (fun v5 v6 wc => ∃ (kq : Nat) (x5_4 : Int) (x6_4 : Int), v5 = .int .i64 x5_4 ∧ v6 = .int .i64 x6_4 ∧ Aside0 (spec_l18Rune.j2 kq a0 x5_4 x6_4 = some (r1, r2)) ∧ Aside0 (kq ≤ k) ∧ Drawn0 w wc)
   case first =>
    have H := HC5.out
    clear HC5
    have HC6 := Aside0.mk H
    clear H
    go_upto_region 6 with (fail)
    go_cut [14] (fun v14 wc => ∃ (kq : Nat) (x14_5 : Bool), v14 = .bool x14_5 ∧ Aside0 (spec_l18Rune.j0 kq a0 (bt a0 0) 0 0 x14_5 = some (r1, r2)) ∧ Aside0 (kq ≤ k) ∧ Drawn0 w wc)
    case first =>
     have H := HC6.out
     clear HC6
     by_cases c7 : (bt a0 0) ≥ 194
     ·rw [if_pos c7] at H
      have c7b0 : decide (194 ≤ (bt a0 0)) = true := decide_eq_true c7
      clear c7
      (first | rw [c7b0] | (simp only [i64_w, i32_w]; rw [c7b0]) | (rw [c7b2]; simp only [Bool.not_false, Bool.not_true]) | skip)
      have H' := Aside0.mk H
      clear H
      go_wp2
      go_meet
      case rel => exact ⟨_, (decide ((bt a0 0) ≤ 223)), (by first | rfl | (simp; done) | (simp [*]; done) | exact not_isEmpty _ | exact (not_isEmpty _).symm | exact is_empty _ | exact (is_empty _).symm), H', ⟨by first | omega | exact Nat.le_refl _⟩, by repeat (first | exact Drawn0.refl _ | apply Drawn0.step)⟩
     ·rw [if_neg c7] at H
      have c7b0 : decide (194 ≤ (bt a0 0)) = false := decide_eq_false c7
      clear c7
      (first | rw [c7b0] | (simp only [i64_w, i32_w]; rw [c7b0]) | (rw [c7b2]; simp only [Bool.not_false, Bool.not_true]) | skip)
      have H' := Aside0.mk H
      clear H
      go_wp2
      go_meet
      case rel => exact ⟨_, (false), (by first | rfl | (simp; done) | (simp [*]; done) | exact not_isEmpty _ | exact (not_isEmpty _).symm | exact is_empty _ | exact (is_empty _).symm), H', ⟨by first | omega | exact Nat.le_refl _⟩, by repeat (first | exact Drawn0.refl _ | apply Drawn0.step)⟩
    case rest =>
     clear HC6
     try clear c2
     try clear c2b0
     try clear c2b1
     try clear p2
     try clear c3
     try clear p3
     try clear q3
     try clear hx3
     try clear qi3
     try clear c4
     try clear c4b0
     try clear p6
     try clear c7
     try clear c7b0
     try clear c7b2
     try clear p3
     try clear q3
     obtain ⟨kq, x14_5, rfl, HA, HJ5, ⟨mc5, rfl⟩⟩ := hcut
     cases kq with
     | zero => exact absurd HA.out (by simp [spec_l18Rune.j0])
     | succ kj5 =>
      have H := HA.out
      clear HA
      simp only [spec_l18Rune.j0] at H
      by_cases c8 : x14_5 = true
      ·subst c8
       have H1 : (spec_l18Rune.j2 kj5 a0 2 (wrap64 ((wrap64 ((bt a0 0))) - 192))) = some (r1, r2) := by rw [if_pos rfl] at H; exact H
       clear H
       have H := H1
       clear H1
       have H' := Aside0.mk H
       clear H
       go_wp2
       go_meet
       case rel => exact ⟨_, (2), (wrap64 ((wrap64 ((bt a0 0))) - 192)), (by first | rfl | (simp; done) | (simp [*]; done) | exact not_isEmpty _ | exact (not_isEmpty _).symm | exact is_empty _ | exact (is_empty _).symm), (by first | rfl | (simp; done) | (simp [*]; done) | exact not_isEmpty _ | exact (not_isEmpty _).symm | exact is_empty _ | exact (is_empty _).symm), H', ⟨by have := HJ5.out; first | omega | exact Nat.le_refl _⟩, by repeat (first | exact Drawn0.refl _ | apply Drawn0.step)⟩
      ·replace c8 := Bool.eq_false_iff.mpr c8
       subst c8
       have H1 : (if (bt a0 0) ≥ 224 then (spec_l18Rune.j1 kj5 a0 (bt a0 0) 0 0 (decide ((bt a0 0) ≤ 239))) else (spec_l18Rune.j1 kj5 a0 (bt a0 0) 0 0 false)) = some (r1, r2) := by rw [if_neg (show ¬ (false = true) by decide)] at H; exact H
       clear H
       have H := H1
       clear H1
       have HC9 := Aside0.mk H
       clear H
       go_upto_region 9 with (fail)
       go_cut [24] (fun v24 wc => ∃ (kq : Nat) (x24_8 : Bool), v24 = .bool x24_8 ∧ Aside0 (spec_l18Rune.j1 kq a0 (bt a0 0) 0 0 x24_8 = some (r1, r2)) ∧ Aside0 (kq ≤ kj5) ∧ Drawn0 w wc)
       case first =>
        have H := HC9.out
        clear HC9
        by_cases c10 : (bt a0 0) ≥ 224
        ·rw [if_pos c10] at H
         have c10b0 : decide (224 ≤ (bt a0 0)) = true := decide_eq_true c10
         clear c10
         (first | rw [c10b0] | (simp only [i64_w, i32_w]; rw [c10b0]) | (rw [c10b2]; simp only [Bool.not_false, Bool.not_true]) | skip)
         have H' := Aside0.mk H
         clear H
         go_wp2
         go_meet
         case rel => exact ⟨_, (decide ((bt a0 0) ≤ 239)), (by first | rfl | (simp; done) | (simp [*]; done) | exact not_isEmpty _ | exact (not_isEmpty _).symm | exact is_empty _ | exact (is_empty _).symm), H', ⟨by have := HJ5.out; first | omega | exact Nat.le_refl _⟩, by repeat (first | exact Drawn0.refl _ | apply Drawn0.step)⟩
        ·rw [if_neg c10] at H
         have c10b0 : decide (224 ≤ (bt a0 0)) = false := decide_eq_false c10
         clear c10
         (first | rw [c10b0] | (simp only [i64_w, i32_w]; rw [c10b0]) | (rw [c10b2]; simp only [Bool.not_false, Bool.not_true]) | skip)
         have H' := Aside0.mk H
         clear H
         go_wp2
         go_meet
         case rel => exact ⟨_, (false), (by first | rfl | (simp; done) | (simp [*]; done) | exact not_isEmpty _ | exact (not_isEmpty _).symm | exact is_empty _ | exact (is_empty _).symm), H', ⟨by have := HJ5.out; first | omega | exact Nat.le_refl _⟩, by repeat (first | exact Drawn0.refl _ | apply Drawn0.step)⟩
       case rest =>
        clear HC9
        try clear c1
        try clear c2
        try clear c2b0
        try clear c2b1
        try clear p2
        try clear c3
        try clear p3
        try clear q3
        try clear hx3
        try clear qi3
        try clear c4
        try clear c4b0
        try clear c5
        try clear p6
        try clear c7
        try clear c7b0
        try clear c7b2
        try clear c8
        try clear c10
        try clear c10b0
        try clear c10b2
        try clear p2
        try clear p3
        try clear p6
        try clear q3
        obtain ⟨kq, x24_8, rfl, HA, HJ8, ⟨mc8, rfl⟩⟩ := hcut
        cases kq with
        | zero => exact absurd HA.out (by simp [spec_l18Rune.j1])
        | succ kj8 =>
         have H := HA.out
         clear HA
         simp only [spec_l18Rune.j1] at H
         by_cases c11 : x24_8 = true
         ·subst c11
          have H1 : (spec_l18Rune.j2 kj8 a0 3 (wrap64 ((wrap64 ((bt a0 0))) - 224))) = some (r1, r2) := by rw [if_pos rfl] at H; exact H
          clear H
          have H := H1
          clear H1
          have H' := Aside0.mk H
          clear H
          go_wp2
          go_meet
          case rel => exact ⟨_, (3), (wrap64 ((wrap64 ((bt a0 0))) - 224)), (by first | rfl | (simp; done) | (simp [*]; done) | exact not_isEmpty _ | exact (not_isEmpty _).symm | exact is_empty _ | exact (is_empty _).symm), (by first | rfl | (simp; done) | (simp [*]; done) | exact not_isEmpty _ | exact (not_isEmpty _).symm | exact is_empty _ | exact (is_empty _).symm), H', ⟨by have := HJ5.out; have := HJ8.out; first | omega | exact Nat.le_refl _⟩, by repeat (first | exact Drawn0.refl _ | apply Drawn0.step)⟩
         ·replace c11 := Bool.eq_false_iff.mpr c11
          subst c11
          have H1 : (if (bt a0 0) ≥ 240 then (if (bt a0 0) ≤ 244 then (spec_l18Rune.j2 kj8 a0 4 (wrap64 ((wrap64 ((bt a0 0))) - 240))) else (spec_l18Rune.j2 kj8 a0 0 0)) else (spec_l18Rune.j2 kj8 a0 0 0)) = some (r1, r2) := by rw [if_neg (show ¬ (false = true) by decide)] at H; exact H
          clear H
          have H := H1
          clear H1
          by_cases c12 : (bt a0 0) ≥ 240
          ·rw [if_pos c12] at H
           have c12b0 : decide (240 ≤ (bt a0 0)) = true := decide_eq_true c12
           clear c12
           by_cases c13 : (bt a0 0) ≤ 244
           ·rw [if_pos c13] at H
            have c13b0 : decide ((bt a0 0) ≤ 244) = true := decide_eq_true c13
            clear c13
            have H' := Aside0.mk H
            clear H
            go_wp2
            go_meet
            case rel => exact ⟨_, (4), (wrap64 ((wrap64 ((bt a0 0))) - 240)), (by first | rfl | (simp; done) | (simp [*]; done) | exact not_isEmpty _ | exact (not_isEmpty _).symm | exact is_empty _ | exact (is_empty _).symm), (by first | rfl | (simp; done) | (simp [*]; done) | exact not_isEmpty _ | exact (not_isEmpty _).symm | exact is_empty _ | exact (is_empty _).symm), H', ⟨by have := HJ5.out; have := HJ8.out; first | omega | exact Nat.le_refl _⟩, by repeat (first | exact Drawn0.refl _ | apply Drawn0.step)⟩
           ·rw [if_neg c13] at H
            have c13b0 : decide ((bt a0 0) ≤ 244) = false := decide_eq_false c13
            clear c13
            have H' := Aside0.mk H
            clear H
            go_wp2
            go_meet
            case rel => exact ⟨_, (0), (0), (by first | rfl | (simp; done) | (simp [*]; done) | exact not_isEmpty _ | exact (not_isEmpty _).symm | exact is_empty _ | exact (is_empty _).symm), (by first | rfl | (simp; done) | (simp [*]; done) | exact not_isEmpty _ | exact (not_isEmpty _).symm | exact is_empty _ | exact (is_empty _).symm), H', ⟨by have := HJ5.out; have := HJ8.out; first | omega | exact Nat.le_refl _⟩, by repeat (first | exact Drawn0.refl _ | apply Drawn0.step)⟩
          ·rw [if_neg c12] at H
           have c12b0 : decide (240 ≤ (bt a0 0)) = false := decide_eq_false c12
           clear c12
           have H' := Aside0.mk H
           clear H
           go_wp2
           go_meet
           case rel => exact ⟨_, (0), (0), (by first | rfl | (simp; done) | (simp [*]; done) | exact not_isEmpty _ | exact (not_isEmpty _).symm | exact is_empty _ | exact (is_empty _).symm), (by first | rfl | (simp; done) | (simp [*]; done) | exact not_isEmpty _ | exact (not_isEmpty _).symm | exact is_empty _ | exact (is_empty _).symm), H', ⟨by have := HJ5.out; have := HJ8.out; first | omega | exact Nat.le_refl _⟩, by repeat (first | exact Drawn0.refl _ | apply Drawn0.step)⟩
   case rest =>
    clear HC5
    try clear c1
    try clear c2
    try clear c2b0
    try clear c2b1
    try clear p2
    try clear c3
    try clear p3
    try clear q3
    try clear hx3
    try clear qi3
    try clear c4
    try clear c4b0
    try clear c5
    try clear p6
    try clear c7
    try clear c7b0
    try clear c7b2
    try clear c8
    try clear c10
    try clear c10b0
    try clear c10b2
    try clear c11
    try clear c12
    try clear c12b0
    try clear c13
    try clear c13b0
    try clear p2
    try clear p3
    try clear p6
    try clear q3
    obtain ⟨kq, x5_4, x6_4, rfl, rfl, HA, HJ4, ⟨mc4, rfl⟩⟩ := hcut
    cases kq with
    | zero => exact absurd HA.out (by simp [spec_l18Rune.j2])
    | succ kj4 =>
     have H := HA.out
     clear HA
     simp only [spec_l18Rune.j2] at H
     have HC14 := Aside0.mk H
     clear H
     go_upto_region 15 with (fail)
     go_cut [51] (fun v51 wc => ∃ (kq : Nat) (x51_13 : Bool), v51 = .bool x51_13 ∧ Aside0 (spec_l18Rune.j3 kq a0 x5_4 x6_4 x51_13 = some (r1, r2)) ∧ Aside0 (kq ≤ kj4) ∧ Drawn0 w wc)
     case first =>
      have H := HC14.out
      clear HC14
      by_cases c15 : x5_4 = 0
      ·rw [if_pos c15] at H
       have c15b0 : (x5_4 == 0) = true := beq_iff_eq.mpr c15
       have c15b1 : (x5_4 != 0) = false := bne_eq_false_iff_eq.mpr c15
       clear c15
       (first | rw [c15b0] | (simp only [i64_w, i32_w]; rw [c15b0]) | (rw [c15b2]; simp only [Bool.not_false, Bool.not_true]) | skip)
       have H' := Aside0.mk H
       clear H
       go_wp2
       go_meet
       case rel => exact ⟨_, (true), (by first | rfl | (simp; done) | (simp [*]; done) | exact not_isEmpty _ | exact (not_isEmpty _).symm | exact is_empty _ | exact (is_empty _).symm), H', ⟨by have := HJ4.out; first | omega | exact Nat.le_refl _⟩, by repeat (first | exact Drawn0.refl _ | apply Drawn0.step)⟩
      ·rw [if_neg c15] at H
       have c15b0 : (x5_4 == 0) = false := beq_eq_false_iff_ne.mpr c15
       have c15b1 : (x5_4 != 0) = true := bne_iff_ne.mpr c15
       (first | rw [c15b0] | (simp only [i64_w, i32_w]; rw [c15b0]) | (rw [c15b2]; simp only [Bool.not_false, Bool.not_true]) | skip)
       have H' := Aside0.mk H
       clear H
       go_wp2
       go_meet
       case rel => exact ⟨_, (decide ((a0.size : Int) < x5_4)), (by first | rfl | (simp; done) | (simp [*]; done) | exact not_isEmpty _ | exact (not_isEmpty _).symm | exact is_empty _ | exact (is_empty _).symm), H', ⟨by have := HJ4.out; first | omega | exact Nat.le_refl _⟩, by repeat (first | exact Drawn0.refl _ | apply Drawn0.step)⟩
     case rest =>
      clear HC14
      try clear c1
      try clear c2
      try clear c2b0
      try clear c2b1
      try clear p2
      try clear c3
      try clear p3
      try clear q3
      try clear hx3
      try clear qi3
      try clear c4
      try clear c4b0
      try clear c5
      try clear p6
      try clear c7
      try clear c7b0
      try clear c7b2
      try clear c8
      try clear c10
      try clear c10b0
      try clear c10b2
      try clear c11
      try clear c12
      try clear c12b0
      try clear c13
      try clear c13b0
      try clear c15
      try clear c15b0
      try clear c15b1
      try clear c15b2
      try clear p2
      try clear p3
      try clear p6
      try clear q3
      obtain ⟨kq, x51_13, rfl, HA, HJ13, ⟨mc13, rfl⟩⟩ := hcut
      cases kq with
      | zero => exact absurd HA.out (by simp [spec_l18Rune.j3])
      | succ kj13 =>
       have H := HA.out
       clear HA
       simp only [spec_l18Rune.j3] at H
       by_cases c16 : x51_13 = true
       ·subst c16
        have H1 : (some (65533, 1)) = some (r1, r2) := by rw [if_pos rfl] at H; exact H
        clear H
        have H := H1
        clear H1
        simp only [Option.some.injEq, Prod.mk.injEq] at H
        obtain ⟨rfl, rfl⟩ := H
        go_wp2
        go_ret2
        exact ⟨by first | rfl | (simp; done) | (simp [*]; done) | exact not_isEmpty _ | exact (not_isEmpty _).symm | exact is_empty _ | exact (is_empty _).symm, by repeat (first | exact Drawn0.refl _ | apply Drawn0.step)⟩
       ·replace c16 := Bool.eq_false_iff.mpr c16
        subst c16
        have H1 : (spec_l18Rune.l0 kj13 a0 x5_4 x6_4 1) = some (r1, r2) := by rw [if_neg (show ¬ (false = true) by decide)] at H; exact H
        clear H
        have H := H1
        clear H1
        have H' := Aside0.mk H
        clear H
        go_wp2
        go_loopg [6, 7] kj13 (fun kq v6 v7 w' => ∃ (x6_3 : Int) (x7_3 : Int), v6 = .int .i64 x6_3 ∧ v7 = .int .i64 x7_3 ∧ Aside0 (spec_l18Rune.l0 kq a0 x5_4 x6_3 x7_3 = some (r1, r2)) ∧ Aside0 (kq ≤ kj13) ∧ Drawn0 w w')
        case atStart => exact ⟨(x6_4), (1), (by first | rfl | (simp; done) | (simp [*]; done) | exact not_isEmpty _ | exact (not_isEmpty _).symm | exact is_empty _ | exact (is_empty _).symm), (by first | rfl | (simp; done) | (simp [*]; done) | exact not_isEmpty _ | exact (not_isEmpty _).symm | exact is_empty _ | exact (is_empty _).symm), H', ⟨Nat.le_refl _⟩, by repeat (first | exact Drawn0.refl _ | apply Drawn0.step)⟩
        case round =>
         clear H'
         try clear c1
         try clear c2
         try clear c2b0
         try clear c2b1
         try clear p2
         try clear c3
         try clear p3
         try clear q3
         try clear hx3
         try clear qi3
         try clear c4
         try clear c4b0
         try clear c5
         try clear p6
         try clear c7
         try clear c7b0
         try clear c7b2
         try clear c8
         try clear c10
         try clear c10b0
         try clear c10b2
         try clear c11
         try clear c12
         try clear c12b0
         try clear c13
         try clear c13b0
         try clear c15
         try clear c15b0
         try clear c15b1
         try clear c15b2
         try clear c16
         try clear p2
         try clear p3
         try clear p6
         try clear q3
         obtain ⟨x6_3, x7_3, rfl, rfl, HA, HK3, ⟨m3, rfl⟩⟩ := hrel
         cases gk with
         | zero => exact absurd HA.out (by simp [spec_l18Rune.l0])
         | succ k3 =>
          have H := HA.out
          clear HA
          simp only [spec_l18Rune.l0] at H
          by_cases c17 : x7_3 < x5_4
          ·rw [if_pos c17] at H
           have c17b0 : decide (x7_3 < x5_4) = true := decide_eq_true c17
           clear c17
           by_cases c18 : 0 ≤ x7_3
           ·rw [if_pos c18] at H
            have c18b0 : decide (0 ≤ x7_3) = true := decide_eq_true c18
            clear c18
            by_cases c19 : x7_3 < (a0.size : Int)
            ·rw [if_pos c19] at H
             have c19b0 : decide (x7_3 < (a0.size : Int)) = true := decide_eq_true c19
             clear c19
             by_cases c21 : (bt a0 x7_3) < 128
             ·rw [if_pos c21] at H
              have c21b0 : decide ((bt a0 x7_3) < 128) = true := decide_eq_true c21
              clear c21
              simp only [Option.some.injEq, Prod.mk.injEq] at H
              obtain ⟨rfl, rfl⟩ := H
              have p20 : 0 ≤ (x7_3 : Int) := of_decide_eq_true (by first | (with_reducible assumption) | assumption)
              have q20 : x7_3 < (a0.size : Int) := of_decide_eq_true (by first | (with_reducible assumption) | assumption)
              have hx20 := bt_at a0 x7_3
              replace p20 := eq_true p20
              replace q20 := eq_true q20
              go_wp2
              go_ret2
              exact ⟨by first | rfl | (simp; done) | (simp [*]; done) | exact not_isEmpty _ | exact (not_isEmpty _).symm | exact is_empty _ | exact (is_empty _).symm, by repeat (first | exact Drawn0.refl _ | apply Drawn0.step)⟩
             ·rw [if_neg c21] at H
              have c21b0 : decide ((bt a0 x7_3) < 128) = false := decide_eq_false c21
              clear c21
              by_cases c23 : (bt a0 x7_3) > 191
              ·rw [if_pos c23] at H
               have c23b0 : decide (191 < (bt a0 x7_3)) = true := decide_eq_true c23
               clear c23
               simp only [Option.some.injEq, Prod.mk.injEq] at H
               obtain ⟨rfl, rfl⟩ := H
               have p20 : 0 ≤ (x7_3 : Int) := of_decide_eq_true (by first | (with_reducible assumption) | assumption)
               have q20 : x7_3 < (a0.size : Int) := of_decide_eq_true (by first | (with_reducible assumption) | assumption)
               have hx20 := bt_at a0 x7_3
               replace p20 := eq_true p20
               replace q20 := eq_true q20
               have p22 : 0 ≤ (x7_3 : Int) := of_decide_eq_true (by first | (with_reducible assumption) | assumption)
               have q22 : x7_3 < (a0.size : Int) := of_decide_eq_true (by first | (with_reducible assumption) | assumption)
               have hx22 := bt_at a0 x7_3
               replace p22 := eq_true p22
               replace q22 := eq_true q22
               go_wp2
               go_ret2
               exact ⟨by first | rfl | (simp; done) | (simp [*]; done) | exact not_isEmpty _ | exact (not_isEmpty _).symm | exact is_empty _ | exact (is_empty _).symm, by repeat (first | exact Drawn0.refl _ | apply Drawn0.step)⟩
              ·rw [if_neg c23] at H
               have c23b0 : decide (191 < (bt a0 x7_3)) = false := decide_eq_false c23
               clear c23
               have H' := Aside0.mk H
               clear H
               have p20 : 0 ≤ (x7_3 : Int) := of_decide_eq_true (by first | (with_reducible assumption) | assumption)
               have q20 : x7_3 < (a0.size : Int) := of_decide_eq_true (by first | (with_reducible assumption) | assumption)
               have hx20 := bt_at a0 x7_3
               replace p20 := eq_true p20
               replace q20 := eq_true q20
               have p22 : 0 ≤ (x7_3 : Int) := of_decide_eq_true (by first | (with_reducible assumption) | assumption)
               have q22 : x7_3 < (a0.size : Int) := of_decide_eq_true (by first | (with_reducible assumption) | assumption)
               have hx22 := bt_at a0 x7_3
               replace p22 := eq_true p22
               replace q22 := eq_true q22
               have p24 : 0 ≤ (x7_3 : Int) := of_decide_eq_true (by first | (with_reducible assumption) | assumption)
               have q24 : x7_3 < (a0.size : Int) := of_decide_eq_true (by first | (with_reducible assumption) | assumption)
               have hx24 := bt_at a0 x7_3
               replace p24 := eq_true p24
               replace q24 := eq_true q24
               go_wp2
               go_roundg k3
               case measure => have := HJ4.out; have := HJ13.out; have := HK3.out; omega
               case rel => exact ⟨(wrap64 ((wrap64 ((wrap64 (x6_3 * 64)) + (wrap64 (bt a0 x7_3)))) - 128)), (wrap64 (x7_3 + 1)), (by first | rfl | (simp; done) | (simp [*]; done) | exact not_isEmpty _ | exact (not_isEmpty _).symm | exact is_empty _ | exact (is_empty _).symm), (by first | rfl | (simp; done) | (simp [*]; done) | exact not_isEmpty _ | exact (not_isEmpty _).symm | exact is_empty _ | exact (is_empty _).symm), H', ⟨by have := HJ4.out; have := HJ13.out; have := HK3.out; omega⟩, by repeat (first | exact Drawn0.refl _ | apply Drawn0.step)⟩
            ·rw [if_neg c19] at H
             exact absurd H (by simp)
           ·rw [if_neg c18] at H
            exact absurd H (by simp)
          ·rw [if_neg c17] at H
           have c17b0 : decide (x7_3 < x5_4) = false := decide_eq_false c17
           clear c17
           by_cases c25 : x5_4 = 3
           ·rw [if_pos c25] at H
            have c25b0 : (x5_4 == 3) = true := beq_iff_eq.mpr c25
            have c25b1 : (x5_4 != 3) = false := bne_eq_false_iff_eq.mpr c25
            clear c25
            by_cases c26 : x6_3 < 2048
            ·rw [if_pos c26] at H
             have c26b0 : decide (x6_3 < 2048) = true := decide_eq_true c26
             clear c26
             simp only [Option.some.injEq, Prod.mk.injEq] at H
             obtain ⟨rfl, rfl⟩ := H
             go_wp2
             go_ret2
             exact ⟨by first | rfl | (simp; done) | (simp [*]; done) | exact not_isEmpty _ | exact (not_isEmpty _).symm | exact is_empty _ | exact (is_empty _).symm, by repeat (first | exact Drawn0.refl _ | apply Drawn0.step)⟩
            ·rw [if_neg c26] at H
             have c26b0 : decide (x6_3 < 2048) = false := decide_eq_false c26
             clear c26
             replace H := Option.bind_eq_some_iff.mp H
             obtain ⟨t230, A270, H⟩ := H
             replace H : (if t230 = true then (some (65533, 1)) else (if x5_4 = 4 then ((spec_l1In.f x6_3 65536 1114111).bind fun t231 => (if t231 = true then (some (x6_3, x5_4)) else (some (65533, 1)))) else (some (x6_3, x5_4)))) = some (r1, r2) := H
             have A27 := Aside0.mk A270
             clear A270
             by_cases c28 : t230 = true
             ·subst c28
              have H1 : (some (65533, 1)) = some (r1, r2) := by rw [if_pos rfl] at H; exact H
              clear H
              have H := H1
              clear H1
              simp only [Option.some.injEq, Prod.mk.injEq] at H
              obtain ⟨rfl, rfl⟩ := H
              go_wp2_with (first | (go_at_call 21; (with_reducible refine (spec_l1In.calls x6_3 55296 57343 true _ A27.out).mono ?_); rintro e w' ⟨rfl, ⟨nd, rfl⟩⟩))
              go_ret2
              exact ⟨by first | rfl | (simp; done) | (simp [*]; done) | exact not_isEmpty _ | exact (not_isEmpty _).symm | exact is_empty _ | exact (is_empty _).symm, by repeat (first | exact Drawn0.refl _ | apply Drawn0.step)⟩
             ·replace c28 := Bool.eq_false_iff.mpr c28
              subst c28
              have H1 : (if x5_4 = 4 then ((spec_l1In.f x6_3 65536 1114111).bind fun t231 => (if t231 = true then (some (x6_3, x5_4)) else (some (65533, 1)))) else (some (x6_3, x5_4))) = some (r1, r2) := by rw [if_neg (show ¬ (false = true) by decide)] at H; exact H
              clear H
              have H := H1
              clear H1
              by_cases c29 : x5_4 = 4
              ·rw [if_pos c29] at H
               have c29b0 : (x5_4 == 4) = true := beq_iff_eq.mpr c29
               have c29b1 : (x5_4 != 4) = false := bne_eq_false_iff_eq.mpr c29
               clear c29
               replace H := Option.bind_eq_some_iff.mp H
               obtain ⟨t231, A300, H⟩ := H
               replace H : (if t231 = true then (some (x6_3, x5_4)) else (some (65533, 1))) = some (r1, r2) := H
               have A30 := Aside0.mk A300
               clear A300
               by_cases c31 : t231 = true
               ·subst c31
                have H1 : (some (x6_3, x5_4)) = some (r1, r2) := by rw [if_pos rfl] at H; exact H
                clear H
                have H := H1
                clear H1
                simp only [Option.some.injEq, Prod.mk.injEq] at H
                obtain ⟨rfl, rfl⟩ := H
                go_wp2_with (first | (go_at_call 21; (with_reducible refine (spec_l1In.calls x6_3 55296 57343 false _ A27.out).mono ?_); rintro e w' ⟨rfl, ⟨nd, rfl⟩⟩) | (go_at_call 21; (with_reducible refine (spec_l1In.calls x6_3 65536 1114111 true _ A30.out).mono ?_); rintro e w' ⟨rfl, ⟨nd, rfl⟩⟩))
                go_ret2
                exact ⟨by first | rfl | (simp; done) | (simp [*]; done) | exact not_isEmpty _ | exact (not_isEmpty _).symm | exact is_empty _ | exact (is_empty _).symm, by repeat (first | exact Drawn0.refl _ | apply Drawn0.step)⟩
               ·replace c31 := Bool.eq_false_iff.mpr c31
                subst c31
                have H1 : (some (65533, 1)) = some (r1, r2) := by rw [if_neg (show ¬ (false = true) by decide)] at H; exact H
                clear H
                have H := H1
                clear H1
                simp only [Option.some.injEq, Prod.mk.injEq] at H
                obtain ⟨rfl, rfl⟩ := H
                go_wp2_with (first | (go_at_call 21; (with_reducible refine (spec_l1In.calls x6_3 55296 57343 false _ A27.out).mono ?_); rintro e w' ⟨rfl, ⟨nd, rfl⟩⟩) | (go_at_call 21; (with_reducible refine (spec_l1In.calls x6_3 65536 1114111 false _ A30.out).mono ?_); rintro e w' ⟨rfl, ⟨nd, rfl⟩⟩))
                go_ret2
                exact ⟨by first | rfl | (simp; done) | (simp [*]; done) | exact not_isEmpty _ | exact (not_isEmpty _).symm | exact is_empty _ | exact (is_empty _).symm, by repeat (first | exact Drawn0.refl _ | apply Drawn0.step)⟩
              ·rw [if_neg c29] at H
               have c29b0 : (x5_4 == 4) = false := beq_eq_false_iff_ne.mpr c29
               have c29b1 : (x5_4 != 4) = true := bne_iff_ne.mpr c29
               simp only [Option.some.injEq, Prod.mk.injEq] at H
               obtain ⟨rfl, rfl⟩ := H
               go_wp2_with (first | (go_at_call 21; (with_reducible refine (spec_l1In.calls x6_3 55296 57343 false _ A27.out).mono ?_); rintro e w' ⟨rfl, ⟨nd, rfl⟩⟩))
               go_ret2
               exact ⟨by first | rfl | (simp; done) | (simp [*]; done) | exact not_isEmpty _ | exact (not_isEmpty _).symm | exact is_empty _ | exact (is_empty _).symm, by repeat (first | exact Drawn0.refl _ | apply Drawn0.step)⟩
           ·rw [if_neg c25] at H
            have c25b0 : (x5_4 == 3) = false := beq_eq_false_iff_ne.mpr c25
            have c25b1 : (x5_4 != 3) = true := bne_iff_ne.mpr c25
            by_cases c32 : x5_4 = 4
            ·rw [if_pos c32] at H
             have c32b0 : (x5_4 == 4) = true := beq_iff_eq.mpr c32
             have c32b1 : (x5_4 != 4) = false := bne_eq_false_iff_eq.mpr c32
             clear c32
             replace H := Option.bind_eq_some_iff.mp H
             obtain ⟨t232, A330, H⟩ := H
             replace H : (if t232 = true then (some (x6_3, x5_4)) else (some (65533, 1))) = some (r1, r2) := H
             have A33 := Aside0.mk A330
             clear A330
             by_cases c34 : t232 = true
             ·subst c34
              have H1 : (some (x6_3, x5_4)) = some (r1, r2) := by rw [if_pos rfl] at H; exact H
              clear H
              have H := H1
              clear H1
              simp only [Option.some.injEq, Prod.mk.injEq] at H
              obtain ⟨rfl, rfl⟩ := H
              go_wp2_with (first | (go_at_call 21; (with_reducible refine (spec_l1In.calls x6_3 65536 1114111 true _ A33.out).mono ?_); rintro e w' ⟨rfl, ⟨nd, rfl⟩⟩))
              go_ret2
              exact ⟨by first | rfl | (simp; done) | (simp [*]; done) | exact not_isEmpty _ | exact (not_isEmpty _).symm | exact is_empty _ | exact (is_empty _).symm, by repeat (first | exact Drawn0.refl _ | apply Drawn0.step)⟩
             ·replace c34 := Bool.eq_false_iff.mpr c34
              subst c34
              have H1 : (some (65533, 1)) = some (r1, r2) := by rw [if_neg (show ¬ (false = true) by decide)] at H; exact H
              clear H
              have H := H1
              clear H1
              simp only [Option.some.injEq, Prod.mk.injEq] at H
              obtain ⟨rfl, rfl⟩ := H
              go_wp2_with (first | (go_at_call 21; (with_reducible refine (spec_l1In.calls x6_3 65536 1114111 false _ A33.out).mono ?_); rintro e w' ⟨rfl, ⟨nd, rfl⟩⟩))
              go_ret2
              exact ⟨by first | rfl | (simp; done) | (simp [*]; done) | exact not_isEmpty _ | exact (not_isEmpty _).symm | exact is_empty _ | exact (is_empty _).symm, by repeat (first | exact Drawn0.refl _ | apply Drawn0.step)⟩
            ·rw [if_neg c32] at H
             have c32b0 : (x5_4 == 4) = false := beq_eq_false_iff_ne.mpr c32
             have c32b1 : (x5_4 != 4) = true := bne_iff_ne.mpr c32
             simp only [Option.some.injEq, Prod.mk.injEq] at H
             obtain ⟨rfl, rfl⟩ := H
             go_wp2
             go_ret2
             exact ⟨by first | rfl | (simp; done) | (simp [*]; done) | exact not_isEmpty _ | exact (not_isEmpty _).symm | exact is_empty _ | exact (is_empty _).symm, by repeat (first | exact Drawn0.refl _ | apply Drawn0.step)⟩
 ·rw [if_neg c2] at H
  exact absurd H (by simp)
def spec_RunesOf.l0 : Nat → ByteArray → List Int → Int → Option (List Int × Bool)
 | 0, _, _, _ => none
 | k + 1, x0, x4, x5 => if x5 < (x0.size : Int) then (if 0 ≤ x5 then (if x5 ≤ (x0.size : Int) then ((spec_l18Rune.f k (x0.extract (x5 : Int).toNat x0.size)).bind fun bt233 => (if x4.length < 17592186044416 then (spec_RunesOf.l0 k x0 (x4 ++ [bt233.1]) (wrap64 (x5 + bt233.2))) else (none))) else (none)) else (none)) else (some (x4, true))
def spec_RunesOf.f (k : Nat) (a0 : ByteArray) : Option (List Int × Bool) := if (a0.size : Int) > 400 then (some (([] : List Int), false)) else (spec_RunesOf.l0 k a0 ([] : List Int) 0)
theorem spec_RunesOf.mono_l : ∀ k, (∀ y0 y1 y2, LeO (spec_RunesOf.l0 k y0 y1 y2) (spec_RunesOf.l0 (k + 1) y0 y1 y2))
 | 0 => fun _ _ _ r h => by simp [spec_RunesOf.l0] at h
 | k + 1 => by
  have ih0 := spec_RunesOf.mono_l k
  ·intro y0 y1 y2
   unfold spec_RunesOf.l0
   repeat' first
   | (with_reducible exact ih0 _ _ _)
   | (with_reducible exact spec_l18Rune.mono _ _)
   | (with_reducible first | exact LeO.refl _ | exact LeO.none _ | refine LeO.ite ?_ ?_ | refine LeO.bind ?_ (fun _ => ?_))
   | exact ih0 _ _ _
   | exact spec_l18Rune.mono _ _ | exact LeO.none _ | refine LeO.ite ?_ ?_ | refine LeO.bind ?_ (fun _ => ?_)
theorem spec_RunesOf.mono : ∀ a0 k, LeO (spec_RunesOf.f k a0) (spec_RunesOf.f (k + 1) a0) := by
 intro a0 k
 have ih0 := spec_RunesOf.mono_l k
 unfold spec_RunesOf.f
 repeat' first
   | (with_reducible exact ih0 _ _ _)
   | (with_reducible exact spec_l18Rune.mono _ _)
   | (with_reducible first | exact LeO.refl _ | exact LeO.none _ | refine LeO.ite ?_ ?_ | refine LeO.bind ?_ (fun _ => ?_))
   | exact ih0 _ _ _
   | exact spec_l18Rune.mono _ _ | exact LeO.none _ | refine LeO.ite ?_ ?_ | refine LeO.bind ?_ (fun _ => ?_)
set_option maxHeartbeats 8000000 in
set_option maxRecDepth 100000 in
theorem spec_RunesOf.calls (k : Nat) (a0 : ByteArray) (r1 : List Int) (r2 : Bool) (w : World) (h : spec_RunesOf.f k a0 = some (r1, r2)) :
  Calls Try.prog 27 #[.string a0] w fun e w' => ∃ v0_ : Value, e = .returned (.tuple #[v0_, .bool r2]) ∧ Kd.R (Kd.int .i64) 3 w' w.heap.size (fun _ => True) v0_ r1 ∧ Below w.heap.size w w' := by
 have HB := Aside0.mk (Below.refl w.heap.size w)
 have H : (if (a0.size : Int) > 400 then (some (([] : List Int), false)) else (spec_RunesOf.l0 k a0 ([] : List Int) 0)) = some (r1, r2) := h
 clear h
 by_cases c2 : (a0.size : Int) > 400
 ·rw [if_pos c2] at H
  have c2b0 : decide (400 < (a0.size : Int)) = true := decide_eq_true c2
  have c2b1 : decide (400 < a0.size) = true := decide_eq_true (by omega)
  clear c2
  simp only [Option.some.injEq, Prod.mk.injEq] at H
  obtain ⟨rfl, rfl⟩ := H
  go_enter Try.func27, Try.ntmps27
  go_wp2
  go_ret2
  exact ⟨_, by first | rfl | (simp [errW_none, errW_some] <;> rfl) | (simp [*, errW_none, errW_some] <;> rfl), by first | exact Kd.R_nil _ _ _ _ _ | exact Kd.N_nil _ _ _ _ _ | exact Kd.V_nil _ _ _ _ _ | exact Kd.Q_nil _ _ _ _ _ | exact Kd.S_nil _ _ _ _ _, by repeat (first | (with_reducible first | exact HB.out | apply below_alloc | apply pw_below_drewN | apply below_drew1) | exact HB.out)⟩
 ·rw [if_neg c2] at H
  have c2b0 : decide (400 < (a0.size : Int)) = false := decide_eq_false c2
  have c2b1 : decide (400 < a0.size) = false := decide_eq_false (by omega)
  clear c2
  have H' := Aside0.mk H
  clear H
  go_enter Try.func27, Try.ntmps27
  go_wp2
  go_loopg [4, 5] k (fun kq v4 v5 w' => ∃ (x4_1 : List Int) (x5_1 : Int), v5 = .int .i64 x5_1 ∧ Aside0 (spec_RunesOf.l0 kq a0 x4_1 x5_1 = some (r1, r2)) ∧ Aside0 (kq ≤ k) ∧ Aside0 (Kd.R (Kd.int .i64) 3 w' w.heap.size (fun _ => True) v4 x4_1) ∧ Aside0 (Below w.heap.size w w'))
  case atStart => exact ⟨(([] : List Int)), (0), (by first | rfl | (simp; done) | (simp [*]; done) | exact not_isEmpty _ | exact (not_isEmpty _).symm | exact is_empty _ | exact (is_empty _).symm), H', ⟨Nat.le_refl _⟩, ⟨by first | exact Kd.R_nil _ _ _ _ _ | exact Kd.N_nil _ _ _ _ _ | exact Kd.V_nil _ _ _ _ _ | exact Kd.Q_nil _ _ _ _ _ | exact Kd.S_nil _ _ _ _ _⟩, ⟨by repeat (first | (with_reducible first | exact HB.out | apply below_alloc | apply pw_below_drewN | apply below_drew1) | exact HB.out)⟩⟩
  case round =>
   clear H'
   try clear c2
   try clear c2b0
   try clear c2b1
   try clear p2
   obtain ⟨x4_1, x5_1, rfl, HA, HK1, HO_4, HB⟩ := hrel
   cases gk with
   | zero => exact absurd HA.out (by simp [spec_RunesOf.l0])
   | succ k1 =>
    have H := HA.out
    clear HA
    simp only [spec_RunesOf.l0] at H
    by_cases c3 : x5_1 < (a0.size : Int)
    ·rw [if_pos c3] at H
     have c3b0 : decide (x5_1 < (a0.size : Int)) = true := decide_eq_true c3
     clear c3
     by_cases c4 : 0 ≤ x5_1
     ·rw [if_pos c4] at H
      have c4b0 := eq_true c4
      have c4b1 : decide (0 ≤ x5_1) = true := decide_eq_true c4
      clear c4
      by_cases c5 : x5_1 ≤ (a0.size : Int)
      ·rw [if_pos c5] at H
       have c5b0 := eq_true c5
       have c5b1 : decide (x5_1 ≤ (a0.size : Int)) = true := decide_eq_true c5
       clear c5
       replace H := Option.bind_eq_some_iff.mp H
       obtain ⟨⟨t233, t234⟩, A60, H⟩ := H
       replace H : (if x4_1.length < 17592186044416 then (spec_RunesOf.l0 k1 a0 (x4_1 ++ [t233]) (wrap64 (x5_1 + t234))) else (none)) = some (r1, r2) := H
       have A6 := Aside0.mk A60
       clear A60
       by_cases c7 : x4_1.length < 17592186044416
       ·rw [if_pos c7] at H
        have LMc7 := Aside0.mk c7
        clear c7
        obtain ⟨y235, hy235⟩ : ∃ y_ : List Int, y_ = (x4_1 ++ [t233]) := ⟨_, rfl⟩
        replace H : (spec_RunesOf.l0 k1 a0 y235 (wrap64 (x5_1 + t234))) = some (r1, r2) := by first | (rw [hy235]; with_reducible exact H) | (have H2_ := (Option.bind_some _ _).symm.trans H; rw [hy235]; with_reducible exact H2_) | (have H2_ := (Option.bind_some _ _).symm.trans H; with_reducible exact H2_) | with_reducible exact H | (rw [hy235]; exact H) | exact H
        have Ny235 := Aside0.mk hy235
        clear hy235
        have H' := Aside0.mk H
        clear H
        go_wp2_with (first | ((with_reducible refine gate_callee (f := 31) rfl ?_); refine goesL_ (some 19) rfl rfl Try.func31 (by kernel_rfl) rfl #[.string (a0.extract (x5_1 : Int).toNat a0.size)] rfl (by (try simp only [List.map_toArray, List.map_cons, List.map_nil]); first | done | rfl | (simp only [List.length_drop, List.length_take]; rfl)) ?_; (with_reducible refine (spec_l18Rune.calls k1 (a0.extract (x5_1 : Int).toNat a0.size) t233 t234 _ A6.out).mono ?_); rintro e w' ⟨rfl, ⟨nd, rfl⟩⟩; refine ⟨_, rfl, ?_⟩) | ((with_reducible refine gate_builtin (b := .append) (xs := #[.tmp 22, .tmp 24]) rfl ?_); at_builtin; refine Kd.R_append (Kd.int .i64) (w0 := w) w.heap.size rfl (.tmp 22) (.tmp 24) 26 3 (.int .i64 0) 8 rfl Try.underlying26 info3 rfl (by decide) (by omega) u4 x4_1 t233 [.int .i64 t233] (fun _ => True) (fun _ => False) rfl rfl ?aP (fun _ hk => hk.elim) ?aF ?aO ?aB ?aS ?aL ?_; (case aP => exact rfl); (case aB => exact (by repeat (first | (with_reducible first | exact HB.out | apply below_alloc | apply pw_below_drewN | apply below_drew1) | exact HB.out))); (case aF => exact (fun _ _ => trivial)); (case aO => exact (by (with_reducible repeat (first | apply Kd.R_alloc | apply Kd.R_drewN | apply Kd.R_drew)); exact HO_4.out)); (case aS => exact (below_size (by repeat (first | (with_reducible first | exact HB.out | apply below_alloc | apply pw_below_drewN | apply below_drew1) | exact HB.out)))); (case aL => have := LMc7.out; omega); intro v236 w8 ho hb hg hat; rw [← Ny235.out] at ho; have n0_ := Aside0.mk (hb); have n1_ := Aside0.mk (ho); clear HB; clear HO_4; have HB := n0_; have HO237 := n1_; clear n0_ n1_; clear ho hb hg hat))
        go_roundg k1
        case measure => have := HK1.out; omega
        case rel => exact ⟨(y235), (wrap64 (x5_1 + t234)), (by first | rfl | (simp; done) | (simp [*]; done) | exact not_isEmpty _ | exact (not_isEmpty _).symm | exact is_empty _ | exact (is_empty _).symm), H', ⟨by have := HK1.out; omega⟩, ⟨by (with_reducible repeat (first | apply Kd.R_alloc | apply Kd.R_drewN | apply Kd.R_drew)); exact HO237.out⟩, ⟨by repeat (first | (with_reducible first | exact HB.out | apply below_alloc | apply pw_below_drewN | apply below_drew1) | exact HB.out)⟩⟩
       ·rw [if_neg c7] at H
        exact absurd H (by simp)
      ·rw [if_neg c5] at H
       exact absurd H (by simp)
     ·rw [if_neg c4] at H
      exact absurd H (by simp)
    ·rw [if_neg c3] at H
     have c3b0 : decide (x5_1 < (a0.size : Int)) = false := decide_eq_false c3
     clear c3
     simp only [Option.some.injEq, Prod.mk.injEq] at H
     obtain ⟨rfl, rfl⟩ := H
     go_wp2
     go_ret2
     exact ⟨_, by first | rfl | (simp [errW_none, errW_some] <;> rfl) | (simp [*, errW_none, errW_some] <;> rfl), by (with_reducible repeat (first | apply Kd.R_alloc | apply Kd.R_drewN | apply Kd.R_drew)); exact HO_4.out, by repeat (first | (with_reducible first | exact HB.out | apply below_alloc | apply pw_below_drewN | apply below_drew1) | exact HB.out)⟩
end Go.Proofs.Ytnacjhgpanedoag.PFnWords
namespace Go.Proofs.YtnacjhgpanedoagW.PrintWords
open Go Go.RowKit
namespace Mk
def R (_d : Kd Int) (e : Nat) (w : World) (base : Nat) (ok : Nat → Prop) (v : Value) (xs : List Int) : Prop :=
  (∀ k, v.ownBlock = some k → ok k) ∧ ∃ g cap cur z, v = .slice (some ⟨g, 0, none⟩) xs.length cap ∧ base ≤ g ∧ w.heap[g]? = some (.cells cur e (z, z + 1)) ∧ cur.size ≤ z ∧ xs.length ≤ cap ∧ (xs.length ≤ cur.size ∧ xs.length ≤ 9223372036854775807) ∧ ∀ i, i < xs.length → cur[i]? = some (.int .u8 (xs.getD i 0))
section
variable {d : Kd Int} {e : Nat} {w w1 : World} {base : Nat} {ok : Nat → Prop} {v : Value} {xs : List Int}
theorem R_below (h : R d e w base ok v xs) (hb : Below w.heap.size w w1) : R d e w1 base ok v xs := by
  obtain ⟨h0, g, cap, cur, z, h1, h2, h3, h4⟩ := h
  exact ⟨h0, g, cap, cur, z, h1, h2, (hb.block g (blk_lt h3)).trans h3, h4⟩
theorem R_alloc (h : R d e w base ok v xs) (o : Obj) : R d e (w.alloc o) base ok v xs := R_below h (below_alloc (Below.refl _ _) o)
theorem R_drew (h : R d e w base ok v xs) : R d e w.drew base ok v xs := R_below h (below_drew (Below.refl _ _))
theorem R_drewN (h : R d e w base ok v xs) (m : Nat) : R d e (w.drewN m) base ok v xs := R_below h (pw_below_drewN (Below.refl _ _) m)
theorem R_slice (h : R d e w base ok v xs) : ∃ A c, v = .slice A xs.length c := by
  obtain ⟨_, g, cap, cur, z, h1, _⟩ := h
  exact ⟨_, _, h1⟩
theorem cellAt {g : Nat} {cur : Array Value} {z : Nat} (h : w.heap[g]? = some (.cells cur e (z, z + 1))) (i : Nat) : w.cell? ⟨g, i, none⟩ = cur[i]? := cell_of_row w g i cur e (z, z + 1) h
theorem R_reads' {A : Option Addr} {n c : Nat} (h : R d e w base ok (.slice A n c) xs) : n = xs.length ∧ n ≤ c ∧ (Kd.int .u8).C w A xs.length xs := by
  obtain ⟨_, g, cap, cur, z, h1, _, h3, h4, h5, h6, h7⟩ := h
  injection h1 with h1 h2 h3'
  subst h1 h2 h3'
  refine ⟨rfl, h5, rfl, h6.2, fun _ => ⟨_, rfl, fun j p hj => ⟨[.int .u8 p], rfl, rfl, fun i u hu => ?_⟩⟩⟩
  obtain ⟨hl, hp⟩ := List.getElem?_eq_some_iff.1 hj
  have hi : i = 0 := by
    rcases Nat.eq_zero_or_pos i with h | h
    · exact h
    · rw [List.getElem?_eq_none (by simp only [List.length_singleton]; omega)] at hu; cases hu
  subst hi
  have hu : Value.int .u8 p = u := Option.some.inj hu
  have e1 : ((⟨g, 0, none⟩ : Addr).add (j * (Kd.int IntKind.u8).sz + 0)) = ⟨g, j, none⟩ := by
    have : (Kd.int IntKind.u8).sz = 1 := rfl
    simp [Addr.add_lit, this]
  rw [e1, cellAt h3, h7 j hl, ← hu]
  simp [List.getD_eq_getElem?_getD, hj]
theorem R_form (h : R d e w base ok v xs) (_hp : 0 < xs.length) : ∃ g cap, v = .slice (some ⟨g, 0, none⟩) xs.length cap ∧ base ≤ g ∧ g < w.heap.size ∧ ∃ cells, ∃ z, w.heap[g]? = some (.cells cells e (z, z + 1)) := by
  obtain ⟨_, g, cap, cur, z, h1, h2, h3, _⟩ := h
  exact ⟨g, cap, h1, h2, blk_lt h3, cur, z, h3⟩
theorem R_celln {g n cap : Nat} (_x : Int) (h : R d e w base ok (.slice (some ⟨g, 0, none⟩) n cap) xs) (i : Int) (h0 : 0 ≤ i) (hi : i < n) : w.cell? ⟨g, i.toNat, none⟩ = some (.int .u8 (rd xs i)) ∧ w.frozen? ⟨g, i.toNat, none⟩ = false := by
  obtain ⟨_, g', cap', cur, z, h1, _, h3, h4, h5, h6, h7⟩ := h
  injection h1 with h1 h2 h3'
  injection h1 with h1
  injection h1 with h1
  subst h1 h2 h3'
  refine ⟨(cellAt h3 _).trans (h7 _ (by omega)), ?_⟩
  have hlt : i.toNat < z := by omega
  simp [World.frozen?, h3]
  omega
theorem R_putg {g n cap : Nat} (h : R d e w base ok (.slice (some ⟨g, 0, none⟩) n cap) xs) (i : Int) (x : Int) : R d e (w.setCell ⟨g, i.toNat, none⟩ (.int .u8 x)) base ok (.slice (some ⟨g, 0, none⟩) n cap) (xs.set i.toNat x) ∧ w.grownBy (w.setCell ⟨g, i.toNat, none⟩ (.int .u8 x)) (some g) := by
  obtain ⟨h0, g', cap', cur, z, h1, h2, h3, h4, h5, h6, h7⟩ := h
  injection h1 with h1 h2' h3'
  injection h1 with h1
  injection h1 with h1
  subst h1 h2' h3'
  refine ⟨⟨h0, g, cap, cur.setIfInBounds i.toNat (.int .u8 x), z, by rw [List.length_set], h2, ?_, by simpa using h4, by simpa using h5, by simpa using h6, ?_⟩, ?_⟩
  · rw [setCell_eq_setRow w g i.toNat cur e (z, z + 1) _ h3]
    exact setRow_heap w g _ _ e _ h3
  · intro j hj
    rw [List.length_set] at hj
    by_cases hji : i.toNat = j
    · subst hji
      rw [Array.getElem?_setIfInBounds_self_of_lt (by omega)]
      simp [List.getD_eq_getElem?_getD, hj]
    · rw [Array.getElem?_setIfInBounds_ne hji, h7 j hj]
      simp [List.getD_eq_getElem?_getD, List.getElem?_set_ne hji]
  · exact ⟨rfl, rfl, rfl, by simp [World.setCell], fun k _ hk => Below.heap_setCell w _ _ k (fun e => hk (by rw [e]))⟩
theorem own_string {P : Program} {src dst e1 : TypeId} (hs : P.underlying src = some (.slice e1)) (he : P.underlying e1 = some (.int .u8)) (hd : P.underlying dst = some .string) (h : R d e w base ok v xs) : (convert src dst v).run P w = .ok (.string (strOfNums xs)) w := by
  obtain ⟨_, g, cap, cur, z, rfl, _, h3, h4, h5, h6, h7⟩ := h
  refine run_convert_bytes_arg w src e1 hs he g 0 xs.length cap xs rfl (fun i hi => ?_) dst hd
  rw [Nat.zero_add, cellAt h3, h7 i hi]
end
section
variable {P : Program} {ops : Array Oper} {rest : List Oper} {o : Oper} {a : Act} {Q : Exit → Act → World → Prop}
theorem bytes_event {w0 W : World} (base : Nat) (hgd : o.guard = none) (src dst e : TypeId) (x : Operand) (s : ByteArray) (ho : o.op = .convert src dst x) (hs : P.underlying src = some .string) (hd : P.underlying dst = some (.slice e)) (he : P.underlying e = some (.int .u8))
    (hx : a.eval x = .string s) (HB : Below base w0 W) (hbase : base ≤ W.heap.size) (hl : s.size < 140737488355328)
    (h : ∀ v1 w1, R (Kd.int .u8) e w1 base (fun _ => True) v1 (bytesOf s) → Below base w0 w1 → W.grownBy w1 none → wpList P ops Q rest (a.put o.dst v1) w1) : wpList P ops Q (o :: rest) a W := by
  have hr := Lib.run_convert_string_bytes (P := P) W src dst e s hs hd he
  have hrun : (execOp a.eval o).run P W = .ok (.value (.slice (some ⟨W.heap.size, 0, none⟩) s.size (grownCap W s.size 0 e))) (Lib.bytesWorld W e s) := by
    unfold execOp
    simp only [ho, hx, Sem.run_bind, hr, Result.andThen_ok, Sem.run_pure]
  have hg : W.grownBy (Lib.bytesWorld W e s) none := ⟨rfl, rfl, rfl, by rw [Lib.bytesWorld_size]; omega, fun k hk _ => Lib.bytesWorld_at_old W e s k hk⟩
  refine Kd.event_run hgd hrun (h _ _ ?_ (HB.grown hg hbase (fun _ hh => by cases hh)) hg)
  have hge := grownCap_ge W s.size 0 e
  refine ⟨fun _ _ => trivial, W.heap.size, _, Lib.bytesCells W e s, _, by rw [bytesOf_length], hbase, Lib.bytesWorld_at_new W e s, Nat.le_refl _, by rw [bytesOf_length]; exact hge, ?_, ?_⟩
  · rw [bytesOf_length]
    refine ⟨?_, by omega⟩
    have : s.data.size = s.size := rfl
    simp [Lib.bytesCells, this]
  · intro i hi
    rw [bytesOf_length] at hi
    have hi' : i < s.data.size := hi
    have hi2 : i < (bytesOf s).length := by rw [bytesOf_length]; exact hi
    simp [Lib.bytesCells, bytesOf, Array.getElem?_append, hi, List.getD_eq_getElem?_getD]
end
end Mk
theorem gate_convert_ {P : Program} {ops : Array Oper} {rest : List Oper} {o : Oper} {a : Act} {Q : Exit → Act → World → Prop} {src dst : TypeId} {x : Operand} {W : World} (_ho : o.op = .convert src dst x) (h : wpList P ops Q (o :: rest) a W) : wpList P ops Q (o :: rest) a W := h
end Go.Proofs.YtnacjhgpanedoagW.PrintWords
namespace Go.Proofs.Ytnacjhgpanedoag.PFnWords
open Go.RowKit Go.Proofs.YtnacjhgpanedoagW.PrintWords Go.Proofs.YtnacjhgpanedoagW.PrintLast Go.Proofs.YtnacjhgpanedoagW.PrintMore
attribute [local go_sem] max2_int min2_int max_two min_two max_three min_three max_four min_four   -- for this text's walks alone
set_option linter.unusedVariables false
set_option linter.unusedSimpArgs false
mutual
def spec_FalseLetters.l0 : Nat → ByteArray → List Int → Int → Int → Option (ByteArray × Bool)
 | 0, _, _, _, _ => none
 | k + 1, x0, x20, x21, x22 => if x22 < x21 then (if 0 ≤ x22 then (if x22 < (x20.length : Int) then (if (rd x20 x22) = 65533 then (some ((⟨#[]⟩ : ByteArray), false)) else (spec_FalseLetters.l0 k x0 x20 x21 (wrap64 (x22 + 1)))) else (none)) else (none)) else (if x0.size < 140737488355328 then (spec_FalseLetters.l1 k (bytesOf x0) 0) else (none))
def spec_FalseLetters.l1 : Nat → List Int → Int → Option (ByteArray × Bool)
 | 0, _, _ => none
 | k + 1, x8, x9 => if x9 < (x8.length : Int) then (if 0 ≤ x9 then (if (rd x8 x9) = 123 then (spec_FalseLetters.l2 k x8 x9 x9) else (if (rd x8 x9) ≥ 97 then (spec_FalseLetters.j3 k x8 x9 (rd x8 x9) (decide ((rd x8 x9) ≤ 122))) else (spec_FalseLetters.j3 k x8 x9 (rd x8 x9) false))) else (none)) else (if 1 + (strOfNums x8).size ≤ 9223372036854775807 then (if ((⟨#[91]⟩ : ByteArray) ++ (strOfNums x8)).size + 1 ≤ 9223372036854775807 then (some (((⟨#[91]⟩ : ByteArray) ++ (strOfNums x8)) ++ (⟨#[93]⟩ : ByteArray), true)) else (none)) else (none))
def spec_FalseLetters.l2 : Nat → List Int → Int → Int → Option (ByteArray × Bool)
 | 0, _, _, _ => none
 | k + 1, x8, x9, x11 => if x11 < (x8.length : Int) then (if 0 ≤ x11 then (if (rd x8 x11) = 125 then (spec_FalseLetters.l1 k x8 (wrap64 (x11 + 1))) else (spec_FalseLetters.l2 k x8 x9 (wrap64 (x11 + 1)))) else (none)) else (spec_FalseLetters.l1 k x8 (wrap64 (x9 + 1)))
def spec_FalseLetters.j3 : Nat → List Int → Int → Int → Bool → Option (ByteArray × Bool)
 | 0, _, _, _, _ => none
 | k + 1, x8, x9, x10, x67 => if x67 = true then (if 0 ≤ x9 then (if x9 < (x8.length : Int) then ((some (x8.set (x9 : Int).toNat (97 + (((((x10 - 97) % 256) + 13) % 256) % 26)) : List Int)).bind fun y248 => (if x10 ≥ 65 then (if x10 ≤ 90 then (spec_FalseLetters.l1 k (y248.set (x9 : Int).toNat (65 + (((((x10 - 65) % 256) + 13) % 256) % 26))) (wrap64 (x9 + 1))) else (spec_FalseLetters.l1 k y248 (wrap64 (x9 + 1)))) else (spec_FalseLetters.l1 k y248 (wrap64 (x9 + 1))))) else (none)) else (none)) else (if x10 ≥ 65 then (if x10 ≤ 90 then (if 0 ≤ x9 then (if x9 < (x8.length : Int) then (spec_FalseLetters.l1 k (x8.set (x9 : Int).toNat (65 + (((((x10 - 65) % 256) + 13) % 256) % 26))) (wrap64 (x9 + 1))) else (none)) else (none)) else (spec_FalseLetters.l1 k x8 (wrap64 (x9 + 1)))) else (spec_FalseLetters.l1 k x8 (wrap64 (x9 + 1))))
end
def spec_FalseLetters.f (k : Nat) (a0 : ByteArray) : Option (ByteArray × Bool) := if (a0.size : Int) > 200 then (some ((⟨#[]⟩ : ByteArray), false)) else ((spec_RunesOf.f k a0).bind fun bt238 => (spec_FalseLetters.l0 k a0 bt238.1 (bt238.1.length : Int) 0))
theorem spec_FalseLetters.mono_l : ∀ k, (∀ y0 y1 y2 y3, LeO (spec_FalseLetters.l0 k y0 y1 y2 y3) (spec_FalseLetters.l0 (k + 1) y0 y1 y2 y3)) ∧ (∀ y0 y1, LeO (spec_FalseLetters.l1 k y0 y1) (spec_FalseLetters.l1 (k + 1) y0 y1)) ∧ (∀ y0 y1 y2, LeO (spec_FalseLetters.l2 k y0 y1 y2) (spec_FalseLetters.l2 (k + 1) y0 y1 y2)) ∧ (∀ y0 y1 y2 y3, LeO (spec_FalseLetters.j3 k y0 y1 y2 y3) (spec_FalseLetters.j3 (k + 1) y0 y1 y2 y3))
 | 0 => ⟨fun _ _ _ _ r h => by simp [spec_FalseLetters.l0] at h, fun _ _ r h => by simp [spec_FalseLetters.l1] at h, fun _ _ _ r h => by simp [spec_FalseLetters.l2] at h, fun _ _ _ _ r h => by simp [spec_FalseLetters.j3] at h⟩
 | k + 1 => by
  obtain ⟨ih0, ih1, ih2, ih3⟩ := spec_FalseLetters.mono_l k
  refine ⟨?_, ?_, ?_, ?_⟩
  ·intro y0 y1 y2 y3
   unfold spec_FalseLetters.l0
   repeat' first
   | (with_reducible exact ih0 _ _ _ _)
   | (with_reducible exact ih1 _ _)
   | (with_reducible exact ih2 _ _ _)
   | (with_reducible exact ih3 _ _ _ _)
   | (with_reducible exact spec_RunesOf.mono _ _)
   | (with_reducible first | exact LeO.refl _ | exact LeO.none _ | refine LeO.ite ?_ ?_ | refine LeO.bind ?_ (fun _ => ?_))
   | exact ih0 _ _ _ _
   | exact ih1 _ _
   | exact ih2 _ _ _
   | exact ih3 _ _ _ _
   | exact spec_RunesOf.mono _ _ | exact LeO.none _ | refine LeO.ite ?_ ?_ | refine LeO.bind ?_ (fun _ => ?_)
  ·intro y0 y1
   unfold spec_FalseLetters.l1
   repeat' first
   | (with_reducible exact ih0 _ _ _ _)
   | (with_reducible exact ih1 _ _)
   | (with_reducible exact ih2 _ _ _)
   | (with_reducible exact ih3 _ _ _ _)
   | (with_reducible exact spec_RunesOf.mono _ _)
   | (with_reducible first | exact LeO.refl _ | exact LeO.none _ | refine LeO.ite ?_ ?_ | refine LeO.bind ?_ (fun _ => ?_))
   | exact ih0 _ _ _ _
   | exact ih1 _ _
   | exact ih2 _ _ _
   | exact ih3 _ _ _ _
   | exact spec_RunesOf.mono _ _ | exact LeO.none _ | refine LeO.ite ?_ ?_ | refine LeO.bind ?_ (fun _ => ?_)
  ·intro y0 y1 y2
   unfold spec_FalseLetters.l2
   repeat' first
   | (with_reducible exact ih0 _ _ _ _)
   | (with_reducible exact ih1 _ _)
   | (with_reducible exact ih2 _ _ _)
   | (with_reducible exact ih3 _ _ _ _)
   | (with_reducible exact spec_RunesOf.mono _ _)
   | (with_reducible first | exact LeO.refl _ | exact LeO.none _ | refine LeO.ite ?_ ?_ | refine LeO.bind ?_ (fun _ => ?_))
   | exact ih0 _ _ _ _
   | exact ih1 _ _
   | exact ih2 _ _ _
   | exact ih3 _ _ _ _
   | exact spec_RunesOf.mono _ _ | exact LeO.none _ | refine LeO.ite ?_ ?_ | refine LeO.bind ?_ (fun _ => ?_)
  ·intro y0 y1 y2 y3
   unfold spec_FalseLetters.j3
   repeat' first
   | (with_reducible exact ih0 _ _ _ _)
   | (with_reducible exact ih1 _ _)
   | (with_reducible exact ih2 _ _ _)
   | (with_reducible exact ih3 _ _ _ _)
   | (with_reducible exact spec_RunesOf.mono _ _)
   | (with_reducible first | exact LeO.refl _ | exact LeO.none _ | refine LeO.ite ?_ ?_ | refine LeO.bind ?_ (fun _ => ?_))
   | exact ih0 _ _ _ _
   | exact ih1 _ _
   | exact ih2 _ _ _
   | exact ih3 _ _ _ _
   | exact spec_RunesOf.mono _ _ | exact LeO.none _ | refine LeO.ite ?_ ?_ | refine LeO.bind ?_ (fun _ => ?_)
theorem spec_FalseLetters.mono : ∀ a0 k, LeO (spec_FalseLetters.f k a0) (spec_FalseLetters.f (k + 1) a0) := by
 intro a0 k
 obtain ⟨ih0, ih1, ih2, ih3⟩ := spec_FalseLetters.mono_l k
 unfold spec_FalseLetters.f
 repeat' first
   | (with_reducible exact ih0 _ _ _ _)
   | (with_reducible exact ih1 _ _)
   | (with_reducible exact ih2 _ _ _)
   | (with_reducible exact ih3 _ _ _ _)
   | (with_reducible exact spec_RunesOf.mono _ _)
   | (with_reducible first | exact LeO.refl _ | exact LeO.none _ | refine LeO.ite ?_ ?_ | refine LeO.bind ?_ (fun _ => ?_))
   | exact ih0 _ _ _ _
   | exact ih1 _ _
   | exact ih2 _ _ _
   | exact ih3 _ _ _ _
   | exact spec_RunesOf.mono _ _ | exact LeO.none _ | refine LeO.ite ?_ ?_ | refine LeO.bind ?_ (fun _ => ?_)
set_option maxHeartbeats 8000000 in
set_option maxRecDepth 100000 in
theorem spec_FalseLetters.calls (k : Nat) (a0 : ByteArray) (r1 : ByteArray) (r2 : Bool) (w : World) (h : spec_FalseLetters.f k a0 = some (r1, r2)) :
  Calls Try.prog 10 #[.string a0] w fun e w' => e = .returned (.tuple #[.string r1, .bool r2]) ∧ Below w.heap.size w w' := by
 have HB := Aside0.mk (Below.refl w.heap.size w)
 have H : (if (a0.size : Int) > 200 then (some ((⟨#[]⟩ : ByteArray), false)) else ((spec_RunesOf.f k a0).bind fun bt238 => (spec_FalseLetters.l0 k a0 bt238.1 (bt238.1.length : Int) 0))) = some (r1, r2) := h
 clear h
 by_cases c2 : (a0.size : Int) > 200
 ·rw [if_pos c2] at H
  have c2b0 : decide (200 < (a0.size : Int)) = true := decide_eq_true c2
  have c2b1 : decide (200 < a0.size) = true := decide_eq_true (by omega)
  clear c2
  simp only [Option.some.injEq, Prod.mk.injEq] at H
  obtain ⟨rfl, rfl⟩ := H
  go_enter Try.func10, Try.ntmps10
  go_wp2
  go_ret2
  exact ⟨by first | rfl | (simp [errW_none, errW_some] <;> rfl) | (simp [*, errW_none, errW_some] <;> rfl), by repeat (first | (with_reducible first | exact HB.out | apply below_alloc | apply pw_below_drewN | apply below_drew1) | exact HB.out)⟩
 ·rw [if_neg c2] at H
  have c2b0 : decide (200 < (a0.size : Int)) = false := decide_eq_false c2
  have c2b1 : decide (200 < a0.size) = false := decide_eq_false (by omega)
  clear c2
  replace H := Option.bind_eq_some_iff.mp H
  obtain ⟨⟨t238, t239⟩, A30, H⟩ := H
  replace H : (spec_FalseLetters.l0 k a0 t238 (t238.length : Int) 0) = some (r1, r2) := H
  have A3 := Aside0.mk A30
  clear A30
  have H' := Aside0.mk H
  clear H
  go_enter Try.func10, Try.ntmps10
  go_wp2_with (first | ((with_reducible refine gate_callee (f := 27) rfl ?_); refine goesL_ (some 17) rfl rfl Try.func27 (by kernel_rfl) rfl #[.string a0] rfl (by (try simp only [List.map_toArray, List.map_cons, List.map_nil]); first | done | rfl | (simp only [List.length_drop, List.length_take]; rfl)) ?_; (with_reducible refine (spec_RunesOf.calls k a0 t238 t239 _ A3.out).mono ?_); rintro e w4 ⟨v240, rfl, ho0, hb⟩; refine ⟨_, rfl, ?_⟩; have n0_ := Aside0.mk (Kd.R_lower ho0 (below_size (by repeat (first | (with_reducible first | exact HB.out | apply below_alloc | apply pw_below_drewN | apply below_drew1) | exact HB.out)))); have n1_ := Aside0.mk (below_step (by repeat (first | (with_reducible first | exact HB.out | apply below_alloc | apply pw_below_drewN | apply below_drew1) | exact HB.out)) hb); clear HB; have HO241 := n0_; have HB := n1_; clear n0_ n1_; (try clear hb); (try clear hb2); (try clear hk); (try clear hi); (try clear ho0); obtain ⟨Ao5, co5, eo5⟩ := Kd.R_slice HO241.out; subst eo5))
  (try simp only [Act.put, List.setIfInBounds_toArray, List.set_cons_zero, List.set_cons_succ])
  go_loopg [22] k (fun kq v22 w' => ∃ (x22_1 : Int), v22 = .int .i64 x22_1 ∧ Aside0 (spec_FalseLetters.l0 kq a0 t238 (t238.length : Int) x22_1 = some (r1, r2)) ∧ Aside0 (kq ≤ k) ∧ Aside0 (Kd.R (Kd.int .i64) 3 w' w.heap.size (fun _ => True) (.slice Ao5 t238.length co5) t238) ∧ Aside0 (Below w.heap.size w w'))
  case atStart => exact ⟨(0), (by first | rfl | (simp; done) | (simp [*]; done) | exact not_isEmpty _ | exact (not_isEmpty _).symm | exact is_empty _ | exact (is_empty _).symm), H', ⟨Nat.le_refl _⟩, ⟨by first | (with_reducible repeat (first | apply Kd.R_alloc | apply Kd.R_drewN | apply Kd.R_drew)); exact HO241.out | (with_reducible repeat (first | apply Mk.R_alloc | apply Mk.R_drewN | apply Mk.R_drew)); exact HO241.out⟩, ⟨by repeat (first | (with_reducible first | exact HB.out | apply below_alloc | apply pw_below_drewN | apply below_drew1) | exact HB.out)⟩⟩
  case round =>
   clear H'
   try clear c1
   try clear c2
   try clear c2b0
   try clear c2b1
   try clear p2
   obtain ⟨x22_1, rfl, HA, HK1, HO_20, HB⟩ := hrel
   cases gk with
   | zero => exact absurd HA.out (by simp [spec_FalseLetters.l0])
   | succ k1 =>
    have H := HA.out
    clear HA
    simp only [spec_FalseLetters.l0] at H
    by_cases c6 : x22_1 < (t238.length : Int)
    ·rw [if_pos c6] at H
     have c6b0 : decide (x22_1 < (t238.length : Int)) = true := decide_eq_true c6
     clear c6
     by_cases c7 : 0 ≤ x22_1
     ·rw [if_pos c7] at H
      have c7b0 : decide (0 ≤ x22_1) = true := decide_eq_true c7
      clear c7
      by_cases c8 : x22_1 < (t238.length : Int)
      ·rw [if_pos c8] at H
       have c8b0 : decide (x22_1 < (t238.length : Int)) = true := decide_eq_true c8
       clear c8
       by_cases c9 : (rd t238 x22_1) = 65533
       ·rw [if_pos c9] at H
        have c9b0 : ((rd t238 x22_1) == 65533) = true := beq_iff_eq.mpr c9
        have c9b1 : ((rd t238 x22_1) != 65533) = false := bne_eq_false_iff_eq.mpr c9
        clear c9
        simp only [Option.some.injEq, Prod.mk.injEq] at H
        obtain ⟨rfl, rfl⟩ := H
        have p242 : 0 ≤ (x22_1 : Int) := of_decide_eq_true (by first | (with_reducible assumption) | assumption)
        have q242 : x22_1 < (t238.length : Int) := of_decide_eq_true (by first | (with_reducible assumption) | assumption)
        obtain ⟨ad242, e242, hx242_0⟩ := Kd.at_int (Kd.R_reads' HO_20.out).2.2 x22_1 p242 q242
        cases e242
        replace p242 := eq_true p242
        replace q242 := eq_true q242
        go_wp2
        go_ret2
        exact ⟨by first | rfl | (simp [errW_none, errW_some] <;> rfl) | (simp [*, errW_none, errW_some] <;> rfl), by repeat (first | (with_reducible first | exact HB.out | apply below_alloc | apply pw_below_drewN | apply below_drew1) | exact HB.out)⟩
       ·rw [if_neg c9] at H
        have c9b0 : ((rd t238 x22_1) == 65533) = false := beq_eq_false_iff_ne.mpr c9
        have c9b1 : ((rd t238 x22_1) != 65533) = true := bne_iff_ne.mpr c9
        have H' := Aside0.mk H
        clear H
        have p242 : 0 ≤ (x22_1 : Int) := of_decide_eq_true (by first | (with_reducible assumption) | assumption)
        have q242 : x22_1 < (t238.length : Int) := of_decide_eq_true (by first | (with_reducible assumption) | assumption)
        obtain ⟨ad242, e242, hx242_0⟩ := Kd.at_int (Kd.R_reads' HO_20.out).2.2 x22_1 p242 q242
        cases e242
        replace p242 := eq_true p242
        replace q242 := eq_true q242
        go_wp2
        go_roundg k1
        case measure => have := HK1.out; omega
        case rel => exact ⟨(wrap64 (x22_1 + 1)), (by first | rfl | (simp; done) | (simp [*]; done) | exact not_isEmpty _ | exact (not_isEmpty _).symm | exact is_empty _ | exact (is_empty _).symm), H', ⟨by have := HK1.out; omega⟩, ⟨by (with_reducible repeat (first | apply Kd.R_alloc | apply Kd.R_drewN | apply Kd.R_drew)); exact HO_20.out⟩, ⟨by repeat (first | (with_reducible first | exact HB.out | apply below_alloc | apply pw_below_drewN | apply below_drew1) | exact HB.out)⟩⟩
      ·rw [if_neg c8] at H
       exact absurd H (by simp)
     ·rw [if_neg c7] at H
      exact absurd H (by simp)
    ·rw [if_neg c6] at H
     have c6b0 : decide (x22_1 < (t238.length : Int)) = false := decide_eq_false c6
     clear c6
     by_cases c10 : a0.size < 140737488355328
     ·rw [if_pos c10] at H
      have LMc10 := Aside0.mk c10
      clear c10
      obtain ⟨y243, hy243⟩ : ∃ y_ : List Int, y_ = (bytesOf a0) := ⟨_, rfl⟩
      replace H : (spec_FalseLetters.l1 k1 y243 0) = some (r1, r2) := by first | (rw [hy243]; with_reducible exact H) | (have H2_ := (Option.bind_some _ _).symm.trans H; rw [hy243]; with_reducible exact H2_) | (have H2_ := (Option.bind_some _ _).symm.trans H; with_reducible exact H2_) | with_reducible exact H | (rw [hy243]; exact H) | exact H
      have Ny243 := Aside0.mk hy243
      clear hy243
      have H' := Aside0.mk H
      clear H
      go_wp2_with (first | ((with_reducible refine gate_convert_ rfl ?_); refine Mk.bytes_event (w0 := w) w.heap.size rfl 9 22 5 _ a0 rfl Try.underlying9 Try.underlying22 Try.underlying5 rfl ?aB ?aS ?aL ?_; (case aB => exact (by repeat (first | (with_reducible first | exact HB.out | apply below_alloc | apply pw_below_drewN | apply below_drew1) | exact HB.out))); (case aS => exact (below_size (by repeat (first | (with_reducible first | exact HB.out | apply below_alloc | apply pw_below_drewN | apply below_drew1) | exact HB.out)))); (case aL => exact LMc10.out); intro v244 w11 ho hb hg; have hat := True.intro; rw [← Ny243.out] at ho; change Mk.R (Kd.int .u8) 5 w11 w.heap.size (fun _ => True) v244 y243 at ho; have n0_ := Aside0.mk (Kd.R_grown (by (with_reducible repeat (first | apply Kd.R_alloc | apply Kd.R_drewN | apply Kd.R_drew)); exact HO_20.out) hg (fun _ _ => by simp [Value.ownBlock])); have n1_ := Aside0.mk (hb); have n2_ := Aside0.mk (ho); clear HO_20; clear HB; have HO_20 := n0_; have HB := n1_; have HO245 := n2_; clear n0_ n1_ n2_; clear ho hb hg hat))
      (try simp only [Act.put, List.setIfInBounds_toArray, List.set_cons_zero, List.set_cons_succ])
      go_loopg [9] k1 (fun kq v9 w' => ∃ (x8_2 : List Int) (x9_2 : Int), v9 = .int .i64 x9_2 ∧ Aside0 (spec_FalseLetters.l1 kq x8_2 x9_2 = some (r1, r2)) ∧ Aside0 (kq ≤ k1) ∧ Aside0 (Mk.R (Kd.int .u8) 5 w' w.heap.size (fun _ => True) v244 x8_2) ∧ Aside0 (Below w.heap.size w w'))
      case atStart => exact ⟨(y243), (0), (by first | rfl | (simp; done) | (simp [*]; done) | exact not_isEmpty _ | exact (not_isEmpty _).symm | exact is_empty _ | exact (is_empty _).symm), H', ⟨Nat.le_refl _⟩, ⟨by first | (with_reducible repeat (first | apply Kd.R_alloc | apply Kd.R_drewN | apply Kd.R_drew)); exact HO245.out | (with_reducible repeat (first | apply Mk.R_alloc | apply Mk.R_drewN | apply Mk.R_drew)); exact HO245.out⟩, ⟨by repeat (first | (with_reducible first | exact HB.out | apply below_alloc | apply pw_below_drewN | apply below_drew1) | exact HB.out)⟩⟩
      case round =>
       clear H'
       try clear c1
       try clear c2
       try clear c2b0
       try clear c2b1
       try clear p2
       try clear q2
       try clear hx2
       try clear c6
       try clear c6b0
       try clear p6
       try clear c7
       try clear c7b0
       try clear c8
       try clear c8b0
       try clear c9
       try clear c9b0
       try clear c9b1
       try clear c10
       try clear hx242_0
       try clear p2
       try clear p242
       try clear q242
       obtain ⟨x8_2, x9_2, rfl, HA, HK2, HO_8, HB⟩ := hrel
       cases gk with
       | zero => exact absurd HA.out (by simp [spec_FalseLetters.l1])
       | succ k2 =>
        have H := HA.out
        clear HA
        simp only [spec_FalseLetters.l1] at H
        by_cases c12 : x9_2 < (x8_2.length : Int)
        ·rw [if_pos c12] at H
         have c12b0 : decide (x9_2 < (x8_2.length : Int)) = true := decide_eq_true c12
         clear c12
         by_cases c13 : 0 ≤ x9_2
         ·rw [if_pos c13] at H
          have c13b0 : decide (0 ≤ x9_2) = true := decide_eq_true c13
          clear c13
          by_cases c14 : (rd x8_2 x9_2) = 123
          ·rw [if_pos c14] at H
           have c14b0 : ((rd x8_2 x9_2) == 123) = true := beq_iff_eq.mpr c14
           have c14b1 : ((rd x8_2 x9_2) != 123) = false := bne_eq_false_iff_eq.mpr c14
           clear c14
           have H' := Aside0.mk H
           clear H
           obtain ⟨Ao15, co15, eo15⟩ := Mk.R_slice HO_8.out
           subst eo15
           have p246 : 0 ≤ (x9_2 : Int) := of_decide_eq_true (by first | (with_reducible assumption) | assumption)
           have q246 : x9_2 < (x8_2.length : Int) := of_decide_eq_true (by first | (with_reducible assumption) | assumption)
           obtain ⟨ad246, e246, hx246_0⟩ := Kd.at_int (Mk.R_reads' HO_8.out).2.2 x9_2 p246 q246
           cases e246
           replace p246 := eq_true p246
           replace q246 := eq_true q246
           go_wp2
           go_loopg [11] k2 (fun kq v11 w' => ∃ (x11_3 : Int), v11 = .int .i64 x11_3 ∧ Aside0 (spec_FalseLetters.l2 kq x8_2 x9_2 x11_3 = some (r1, r2)) ∧ Aside0 (kq ≤ k2) ∧ Aside0 (Mk.R (Kd.int .u8) 5 w' w.heap.size (fun _ => True) (.slice (some ad246) x8_2.length co15) x8_2) ∧ Aside0 (Below w.heap.size w w'))
           case atStart => exact ⟨(x9_2), (by first | rfl | (simp; done) | (simp [*]; done) | exact not_isEmpty _ | exact (not_isEmpty _).symm | exact is_empty _ | exact (is_empty _).symm), H', ⟨Nat.le_refl _⟩, ⟨by first | (with_reducible repeat (first | apply Kd.R_alloc | apply Kd.R_drewN | apply Kd.R_drew)); exact HO_8.out | (with_reducible repeat (first | apply Mk.R_alloc | apply Mk.R_drewN | apply Mk.R_drew)); exact HO_8.out⟩, ⟨by repeat (first | (with_reducible first | exact HB.out | apply below_alloc | apply pw_below_drewN | apply below_drew1) | exact HB.out)⟩⟩
           case round =>
            clear H'
            try clear c1
            try clear c2
            try clear c2b0
            try clear c2b1
            try clear p2
            try clear q2
            try clear hx2
            try clear c6
            try clear c6b0
            try clear p6
            try clear c7
            try clear c7b0
            try clear c8
            try clear c8b0
            try clear c9
            try clear c9b0
            try clear c9b1
            try clear c10
            try clear c12
            try clear c12b0
            try clear c13
            try clear c13b0
            try clear c14
            try clear c14b0
            try clear c14b1
            try clear hx242_0
            try clear hx246_0
            try clear p2
            try clear p242
            try clear p246
            try clear p6
            try clear q2
            try clear q242
            try clear q246
            obtain ⟨x11_3, rfl, HA, HK3, HO_8, HB⟩ := hrel
            cases gk with
            | zero => exact absurd HA.out (by simp [spec_FalseLetters.l2])
            | succ k3 =>
             have H := HA.out
             clear HA
             simp only [spec_FalseLetters.l2] at H
             by_cases c16 : x11_3 < (x8_2.length : Int)
             ·rw [if_pos c16] at H
              have c16b0 : decide (x11_3 < (x8_2.length : Int)) = true := decide_eq_true c16
              clear c16
              by_cases c17 : 0 ≤ x11_3
              ·rw [if_pos c17] at H
               have c17b0 : decide (0 ≤ x11_3) = true := decide_eq_true c17
               clear c17
               by_cases c18 : (rd x8_2 x11_3) = 125
               ·rw [if_pos c18] at H
                have c18b0 : ((rd x8_2 x11_3) == 125) = true := beq_iff_eq.mpr c18
                have c18b1 : ((rd x8_2 x11_3) != 125) = false := bne_eq_false_iff_eq.mpr c18
                clear c18
                have H' := Aside0.mk H
                clear H
                have p247 : 0 ≤ (x11_3 : Int) := of_decide_eq_true (by first | (with_reducible assumption) | assumption)
                have q247 : x11_3 < (x8_2.length : Int) := of_decide_eq_true (by first | (with_reducible assumption) | assumption)
                obtain ⟨ad247, e247, hx247_0⟩ := Kd.at_int (Mk.R_reads' HO_8.out).2.2 x11_3 p247 q247
                obtain rfl : ad246 = ad247 := (by injection e247)
                replace p247 := eq_true p247
                replace q247 := eq_true q247
                go_wp2
                go_roundg k3
                case measure => have := HK1.out; have := HK2.out; have := HK3.out; omega
                case rel => exact ⟨(x8_2), (wrap64 (x11_3 + 1)), (by first | rfl | (simp; done) | (simp [*]; done) | exact not_isEmpty _ | exact (not_isEmpty _).symm | exact is_empty _ | exact (is_empty _).symm), H', ⟨by have := HK1.out; have := HK2.out; have := HK3.out; omega⟩, ⟨by first | (with_reducible repeat (first | apply Kd.R_alloc | apply Kd.R_drewN | apply Kd.R_drew)); exact HO_8.out | (with_reducible repeat (first | apply Mk.R_alloc | apply Mk.R_drewN | apply Mk.R_drew)); exact HO_8.out⟩, ⟨by repeat (first | (with_reducible first | exact HB.out | apply below_alloc | apply pw_below_drewN | apply below_drew1) | exact HB.out)⟩⟩
               ·rw [if_neg c18] at H
                have c18b0 : ((rd x8_2 x11_3) == 125) = false := beq_eq_false_iff_ne.mpr c18
                have c18b1 : ((rd x8_2 x11_3) != 125) = true := bne_iff_ne.mpr c18
                have H' := Aside0.mk H
                clear H
                have p247 : 0 ≤ (x11_3 : Int) := of_decide_eq_true (by first | (with_reducible assumption) | assumption)
                have q247 : x11_3 < (x8_2.length : Int) := of_decide_eq_true (by first | (with_reducible assumption) | assumption)
                obtain ⟨ad247, e247, hx247_0⟩ := Kd.at_int (Mk.R_reads' HO_8.out).2.2 x11_3 p247 q247
                obtain rfl : ad246 = ad247 := (by injection e247)
                replace p247 := eq_true p247
                replace q247 := eq_true q247
                go_wp2
                go_roundg k3
                case measure => have := HK1.out; have := HK2.out; have := HK3.out; omega
                case rel => exact ⟨(wrap64 (x11_3 + 1)), (by first | rfl | (simp; done) | (simp [*]; done) | exact not_isEmpty _ | exact (not_isEmpty _).symm | exact is_empty _ | exact (is_empty _).symm), H', ⟨by have := HK1.out; have := HK2.out; have := HK3.out; omega⟩, ⟨by first | (with_reducible repeat (first | apply Kd.R_alloc | apply Kd.R_drewN | apply Kd.R_drew)); exact HO_8.out | (with_reducible repeat (first | apply Mk.R_alloc | apply Mk.R_drewN | apply Mk.R_drew)); exact HO_8.out⟩, ⟨by repeat (first | (with_reducible first | exact HB.out | apply below_alloc | apply pw_below_drewN | apply below_drew1) | exact HB.out)⟩⟩
              ·rw [if_neg c17] at H
               exact absurd H (by simp)
             ·rw [if_neg c16] at H
              have c16b0 : decide (x11_3 < (x8_2.length : Int)) = false := decide_eq_false c16
              clear c16
              have H' := Aside0.mk H
              clear H
              go_wp2
              go_roundg k3
              case measure => have := HK1.out; have := HK2.out; have := HK3.out; omega
              case rel => exact ⟨(x8_2), (wrap64 (x9_2 + 1)), (by first | rfl | (simp; done) | (simp [*]; done) | exact not_isEmpty _ | exact (not_isEmpty _).symm | exact is_empty _ | exact (is_empty _).symm), H', ⟨by have := HK1.out; have := HK2.out; have := HK3.out; omega⟩, ⟨by first | (with_reducible repeat (first | apply Kd.R_alloc | apply Kd.R_drewN | apply Kd.R_drew)); exact HO_8.out | (with_reducible repeat (first | apply Mk.R_alloc | apply Mk.R_drewN | apply Mk.R_drew)); exact HO_8.out⟩, ⟨by repeat (first | (with_reducible first | exact HB.out | apply below_alloc | apply pw_below_drewN | apply below_drew1) | exact HB.out)⟩⟩
          ·rw [if_neg c14] at H
           have c14b0 : ((rd x8_2 x9_2) == 123) = false := beq_eq_false_iff_ne.mpr c14
           have c14b1 : ((rd x8_2 x9_2) != 123) = true := bne_iff_ne.mpr c14
           have HC19 := Aside0.mk H
           clear H
           obtain ⟨Ao20, co20, eo20⟩ := Mk.R_slice HO_8.out
           subst eo20
           have p246 : 0 ≤ (x9_2 : Int) := of_decide_eq_true (by first | (with_reducible assumption) | assumption)
           have q246 : x9_2 < (x8_2.length : Int) := of_decide_eq_true (by first | (with_reducible assumption) | assumption)
           obtain ⟨ad246, e246, hx246_0⟩ := Kd.at_int (Mk.R_reads' HO_8.out).2.2 x9_2 p246 q246
           cases e246
           replace p246 := eq_true p246
           replace q246 := eq_true q246
           go_upto_region 21 with (fail)
           go_cut [67] (fun v67 wc => ∃ (kq : Nat) (x67_18 : Bool), v67 = .bool x67_18 ∧ Aside0 (spec_FalseLetters.j3 kq x8_2 x9_2 (rd x8_2 x9_2) x67_18 = some (r1, r2)) ∧ Aside0 (kq ≤ k2) ∧ Aside0 (Mk.R (Kd.int .u8) 5 wc w.heap.size (fun _ => True) (.slice (some ad246) x8_2.length co20) x8_2) ∧ Aside0 (Below w.heap.size w wc))
           case first =>
            have H := HC19.out
            clear HC19
            by_cases c21 : (rd x8_2 x9_2) ≥ 97
            ·rw [if_pos c21] at H
             have c21b0 : decide (97 ≤ (rd x8_2 x9_2)) = true := decide_eq_true c21
             clear c21
             (first | rw [c21b0] | (simp only [i64_w, i32_w]; rw [c21b0]) | (rw [c21b2]; simp only [Bool.not_false, Bool.not_true]) | skip)
             have H' := Aside0.mk H
             clear H
             go_wp2
             go_meet
             case rel => exact ⟨_, (decide ((rd x8_2 x9_2) ≤ 122)), (by first | rfl | (simp; done) | (simp [*]; done) | exact not_isEmpty _ | exact (not_isEmpty _).symm | exact is_empty _ | exact (is_empty _).symm), H', ⟨by have := HK1.out; have := HK2.out; first | omega | exact Nat.le_refl _⟩, ⟨by first | (with_reducible repeat (first | apply Kd.R_alloc | apply Kd.R_drewN | apply Kd.R_drew)); exact HO_8.out | (with_reducible repeat (first | apply Mk.R_alloc | apply Mk.R_drewN | apply Mk.R_drew)); exact HO_8.out⟩, ⟨by repeat (first | (with_reducible first | exact HB.out | apply below_alloc | apply pw_below_drewN | apply below_drew1) | exact HB.out)⟩⟩
            ·rw [if_neg c21] at H
             have c21b0 : decide (97 ≤ (rd x8_2 x9_2)) = false := decide_eq_false c21
             clear c21
             (first | rw [c21b0] | (simp only [i64_w, i32_w]; rw [c21b0]) | (rw [c21b2]; simp only [Bool.not_false, Bool.not_true]) | skip)
             have H' := Aside0.mk H
             clear H
             go_wp2
             go_meet
             case rel => exact ⟨_, (false), (by first | rfl | (simp; done) | (simp [*]; done) | exact not_isEmpty _ | exact (not_isEmpty _).symm | exact is_empty _ | exact (is_empty _).symm), H', ⟨by have := HK1.out; have := HK2.out; first | omega | exact Nat.le_refl _⟩, ⟨by first | (with_reducible repeat (first | apply Kd.R_alloc | apply Kd.R_drewN | apply Kd.R_drew)); exact HO_8.out | (with_reducible repeat (first | apply Mk.R_alloc | apply Mk.R_drewN | apply Mk.R_drew)); exact HO_8.out⟩, ⟨by repeat (first | (with_reducible first | exact HB.out | apply below_alloc | apply pw_below_drewN | apply below_drew1) | exact HB.out)⟩⟩
           case rest =>
            clear HC19
            try clear c1
            try clear c2
            try clear c2b0
            try clear c2b1
            try clear p2
            try clear q2
            try clear hx2
            try clear c6
            try clear c6b0
            try clear p6
            try clear c7
            try clear c7b0
            try clear c8
            try clear c8b0
            try clear c9
            try clear c9b0
            try clear c9b1
            try clear c10
            try clear c12
            try clear c12b0
            try clear c13
            try clear c13b0
            try clear c14
            try clear c14b0
            try clear c14b1
            try clear c16
            try clear c16b0
            try clear c17
            try clear c17b0
            try clear c18
            try clear c18b0
            try clear c18b1
            try clear c21
            try clear c21b0
            try clear c21b2
            try clear hx242_0
            try clear hx246_0
            try clear hx247_0
            try clear p2
            try clear p242
            try clear p246
            try clear p247
            try clear p6
            try clear q2
            try clear q242
            try clear q246
            try clear q247
            obtain ⟨kq, x67_18, rfl, HA, HJ18, HO_8, HB⟩ := hcut
            cases kq with
            | zero => exact absurd HA.out (by simp [spec_FalseLetters.j3])
            | succ kj18 =>
             have H := HA.out
             clear HA
             simp only [spec_FalseLetters.j3] at H
             by_cases c22 : x67_18 = true
             ·subst c22
              have H1 : (if 0 ≤ x9_2 then (if x9_2 < (x8_2.length : Int) then ((some (x8_2.set (x9_2 : Int).toNat (97 + ((((((rd x8_2 x9_2) - 97) % 256) + 13) % 256) % 26)) : List Int)).bind fun y248 => (if (rd x8_2 x9_2) ≥ 65 then (if (rd x8_2 x9_2) ≤ 90 then (spec_FalseLetters.l1 kj18 (y248.set (x9_2 : Int).toNat (65 + ((((((rd x8_2 x9_2) - 65) % 256) + 13) % 256) % 26))) (wrap64 (x9_2 + 1))) else (spec_FalseLetters.l1 kj18 y248 (wrap64 (x9_2 + 1)))) else (spec_FalseLetters.l1 kj18 y248 (wrap64 (x9_2 + 1))))) else (none)) else (none)) = some (r1, r2) := by rw [if_pos rfl] at H; exact H
              clear H
              have H := H1
              clear H1
              by_cases c23 : 0 ≤ x9_2
              ·rw [if_pos c23] at H
               have c23b0 : decide (0 ≤ x9_2) = true := decide_eq_true c23
               clear c23
               by_cases c24 : x9_2 < (x8_2.length : Int)
               ·rw [if_pos c24] at H
                have c24b0 : decide (x9_2 < (x8_2.length : Int)) = true := decide_eq_true c24
                clear c24
                obtain ⟨y248, hy248⟩ : ∃ y_ : List Int, y_ = (x8_2.set (x9_2 : Int).toNat (97 + ((((((rd x8_2 x9_2) - 97) % 256) + 13) % 256) % 26))) := ⟨_, rfl⟩
                replace H : (if (rd x8_2 x9_2) ≥ 65 then (if (rd x8_2 x9_2) ≤ 90 then (spec_FalseLetters.l1 kj18 (y248.set (x9_2 : Int).toNat (65 + ((((((rd x8_2 x9_2) - 65) % 256) + 13) % 256) % 26))) (wrap64 (x9_2 + 1))) else (spec_FalseLetters.l1 kj18 y248 (wrap64 (x9_2 + 1)))) else (spec_FalseLetters.l1 kj18 y248 (wrap64 (x9_2 + 1)))) = some (r1, r2) := by first | (rw [hy248]; with_reducible exact H) | (have H2_ := (Option.bind_some _ _).symm.trans H; rw [hy248]; with_reducible exact H2_) | (have H2_ := (Option.bind_some _ _).symm.trans H; with_reducible exact H2_) | with_reducible exact H | (rw [hy248]; exact H) | exact H
                have Ny248 := Aside0.mk hy248
                clear hy248
                by_cases c26 : (rd x8_2 x9_2) ≥ 65
                ·rw [if_pos c26] at H
                 have c26b0 : decide (65 ≤ (rd x8_2 x9_2)) = true := decide_eq_true c26
                 clear c26
                 by_cases c27 : (rd x8_2 x9_2) ≤ 90
                 ·rw [if_pos c27] at H
                  have c27b0 : decide ((rd x8_2 x9_2) ≤ 90) = true := decide_eq_true c27
                  clear c27
                  obtain ⟨y249, hy249⟩ : ∃ y_ : List Int, y_ = (y248.set (x9_2 : Int).toNat (65 + ((((((rd x8_2 x9_2) - 65) % 256) + 13) % 256) % 26))) := ⟨_, rfl⟩
                  replace H : (spec_FalseLetters.l1 kj18 y249 (wrap64 (x9_2 + 1))) = some (r1, r2) := by first | (rw [hy249]; with_reducible exact H) | (have H2_ := (Option.bind_some _ _).symm.trans H; rw [hy249]; with_reducible exact H2_) | (have H2_ := (Option.bind_some _ _).symm.trans H; with_reducible exact H2_) | with_reducible exact H | (rw [hy249]; exact H) | exact H
                  have Ny249 := Aside0.mk hy249
                  clear hy249
                  have H' := Aside0.mk H
                  clear H
                  have p25 : 0 ≤ (x9_2 : Int) := of_decide_eq_true (by first | (with_reducible assumption) | assumption)
                  have q25 : (x9_2 : Int) < ((x8_2.length : Int) : Int) := of_decide_eq_true (by first | (with_reducible assumption) | assumption)
                  obtain ⟨go25, co25, eo25, gb25, gl25, cl25, HG25⟩ := Mk.R_form HO_8.out (by omega)
                  (first | cases eo25 | (injection eo25 with ea_ en_ ec_; (first | subst ea_ | (injection ea_ with ea_; subst ea_)); subst ec_; clear en_))
                  have GB25 := Aside0.mk gb25
                  have GG25 := Aside0.mk HG25
                  clear gb25 gl25 HG25
                  (first | simp only [add_plain] at hx246_0 | skip)
                  (first | simp only [add_plain] at hx247_0 | skip)
                  obtain ⟨hx25_0, hf25_0⟩ := Mk.R_celln 0 HO_8.out (x9_2 : Int) p25 q25
                  replace p25 := eq_true p25
                  replace q25 := eq_true q25
                  have HP29 := Mk.R_putg HO_8.out (x9_2 : Int) (97 + ((((((rd x8_2 x9_2) - 97) % 256) + 13) % 256) % 26))
                  go_wp2_with (first | ((with_reducible refine gate_store (t := 5) (p := 75) rfl ?_); refine store_event (t := 5) (p := 75) (v := ?vo_w30) (w1 := (wc.setCell ⟨go25, (x9_2 : Int).toNat, none⟩ (.int .u8 (97 + ((((((rd x8_2 x9_2) - 97) % 256) + 13) % 256) % 26))))) ?hg ?ho ?hn ?hr ?_; (case ho => rfl); (case hg => rfl); (case hn => rfl); (case hr => first | (go_simp; done) | (go_simp; rfl)); intro w30 hw; have hg : wc.grownBy w30 (some go25) := (by rw [hw]; exact HP29.2); have hp_ : Mk.R (Kd.int .u8) 5 w30 w.heap.size (fun _ => True) (.slice (some ⟨go25, 0, none⟩) x8_2.length co20) y248 := (by rw [hw, Ny248.out]; exact HP29.1); clear HP29; have n0_ := Aside0.mk (hp_); have n1_ := Aside0.mk ((by rw [hw]; exact below_set (HB.out) GB25.out : Below w.heap.size w w30)); clear HO_8; clear HB; have HO_8 := n0_; have HB := n1_; clear n0_ n1_; clear hg hw hp_; have p28 : 0 ≤ (x9_2 : Int) := of_decide_eq_true (by first | (with_reducible assumption) | assumption); have q28 : (x9_2 : Int) < ((x8_2.length : Int) : Int) := of_decide_eq_true (by first | (with_reducible assumption) | assumption); obtain ⟨hx28_0, hf28_0⟩ := Mk.R_celln 0 HO_8.out (x9_2 : Int) p28 q28; replace p28 := eq_true p28; replace q28 := eq_true q28; obtain ⟨hy31_, hz31_⟩ := Mk.R_celln 0 HO_8.out (x9_2 : Int) (of_decide_eq_true (by first | (with_reducible assumption) | assumption)) (of_decide_eq_true (by first | (with_reducible assumption) | assumption)); have HP31 := Mk.R_putg HO_8.out (x9_2 : Int) (65 + ((((((rd x8_2 x9_2) - 65) % 256) + 13) % 256) % 26))) | ((with_reducible refine gate_store (t := 5) (p := 89) rfl ?_); refine store_event (t := 5) (p := 89) (v := ?vo_w32) (w1 := (w30.setCell ⟨go25, (x9_2 : Int).toNat, none⟩ (.int .u8 (65 + ((((((rd x8_2 x9_2) - 65) % 256) + 13) % 256) % 26))))) ?hg ?ho ?hn ?hr ?_; (case ho => rfl); (case hg => rfl); (case hn => rfl); (case hr => first | (go_simp; done) | (go_simp; rfl)); intro w32 hw; have hg : w30.grownBy w32 (some go25) := (by rw [hw]; exact HP31.2); have hp_ : Mk.R (Kd.int .u8) 5 w32 w.heap.size (fun _ => True) (.slice (some ⟨go25, 0, none⟩) x8_2.length co20) y249 := (by rw [hw, Ny249.out]; exact HP31.1); clear HP31; have n0_ := Aside0.mk (hp_); have n1_ := Aside0.mk ((by rw [hw]; exact below_set (HB.out) GB25.out : Below w.heap.size w w32)); clear HO_8; clear HB; have HO_8 := n0_; have HB := n1_; clear n0_ n1_; clear hg hw hp_))
                  go_roundg kj18
                  case measure => have := HK1.out; have := HK2.out; have := HJ18.out; omega
                  case rel => exact ⟨(y249), (wrap64 (x9_2 + 1)), (by first | rfl | (simp; done) | (simp [*]; done) | exact not_isEmpty _ | exact (not_isEmpty _).symm | exact is_empty _ | exact (is_empty _).symm), H', ⟨by have := HK1.out; have := HK2.out; have := HJ18.out; omega⟩, ⟨by first | (with_reducible repeat (first | apply Kd.R_alloc | apply Kd.R_drewN | apply Kd.R_drew)); exact HO_8.out | (with_reducible repeat (first | apply Mk.R_alloc | apply Mk.R_drewN | apply Mk.R_drew)); exact HO_8.out⟩, ⟨by repeat (first | (with_reducible first | exact HB.out | apply below_alloc | apply pw_below_drewN | apply below_drew1) | exact HB.out)⟩⟩
                 ·rw [if_neg c27] at H
                  have c27b0 : decide ((rd x8_2 x9_2) ≤ 90) = false := decide_eq_false c27
                  clear c27
                  have H' := Aside0.mk H
                  clear H
                  have p25 : 0 ≤ (x9_2 : Int) := of_decide_eq_true (by first | (with_reducible assumption) | assumption)
                  have q25 : (x9_2 : Int) < ((x8_2.length : Int) : Int) := of_decide_eq_true (by first | (with_reducible assumption) | assumption)
                  obtain ⟨go25, co25, eo25, gb25, gl25, cl25, HG25⟩ := Mk.R_form HO_8.out (by omega)
                  (first | cases eo25 | (injection eo25 with ea_ en_ ec_; (first | subst ea_ | (injection ea_ with ea_; subst ea_)); subst ec_; clear en_))
                  have GB25 := Aside0.mk gb25
                  have GG25 := Aside0.mk HG25
                  clear gb25 gl25 HG25
                  obtain ⟨hx25_0, hf25_0⟩ := Mk.R_celln 0 HO_8.out (x9_2 : Int) p25 q25
                  replace p25 := eq_true p25
                  replace q25 := eq_true q25
                  have HP33 := Mk.R_putg HO_8.out (x9_2 : Int) (97 + ((((((rd x8_2 x9_2) - 97) % 256) + 13) % 256) % 26))
                  go_wp2_with (first | ((with_reducible refine gate_store (t := 5) (p := 75) rfl ?_); refine store_event (t := 5) (p := 75) (v := ?vo_w34) (w1 := (wc.setCell ⟨go25, (x9_2 : Int).toNat, none⟩ (.int .u8 (97 + ((((((rd x8_2 x9_2) - 97) % 256) + 13) % 256) % 26))))) ?hg ?ho ?hn ?hr ?_; (case ho => rfl); (case hg => rfl); (case hn => rfl); (case hr => first | (go_simp; done) | (go_simp; rfl)); intro w34 hw; have hg : wc.grownBy w34 (some go25) := (by rw [hw]; exact HP33.2); have hp_ : Mk.R (Kd.int .u8) 5 w34 w.heap.size (fun _ => True) (.slice (some ⟨go25, 0, none⟩) x8_2.length co20) y248 := (by rw [hw, Ny248.out]; exact HP33.1); clear HP33; have n0_ := Aside0.mk (hp_); have n1_ := Aside0.mk ((by rw [hw]; exact below_set (HB.out) GB25.out : Below w.heap.size w w34)); clear HO_8; clear HB; have HO_8 := n0_; have HB := n1_; clear n0_ n1_; clear hg hw hp_))
                  go_roundg kj18
                  case measure => have := HK1.out; have := HK2.out; have := HJ18.out; omega
                  case rel => exact ⟨(y248), (wrap64 (x9_2 + 1)), (by first | rfl | (simp; done) | (simp [*]; done) | exact not_isEmpty _ | exact (not_isEmpty _).symm | exact is_empty _ | exact (is_empty _).symm), H', ⟨by have := HK1.out; have := HK2.out; have := HJ18.out; omega⟩, ⟨by first | (with_reducible repeat (first | apply Kd.R_alloc | apply Kd.R_drewN | apply Kd.R_drew)); exact HO_8.out | (with_reducible repeat (first | apply Mk.R_alloc | apply Mk.R_drewN | apply Mk.R_drew)); exact HO_8.out⟩, ⟨by repeat (first | (with_reducible first | exact HB.out | apply below_alloc | apply pw_below_drewN | apply below_drew1) | exact HB.out)⟩⟩
                ·rw [if_neg c26] at H
                 have c26b0 : decide (65 ≤ (rd x8_2 x9_2)) = false := decide_eq_false c26
                 clear c26
                 have H' := Aside0.mk H
                 clear H
                 have p25 : 0 ≤ (x9_2 : Int) := of_decide_eq_true (by first | (with_reducible assumption) | assumption)
                 have q25 : (x9_2 : Int) < ((x8_2.length : Int) : Int) := of_decide_eq_true (by first | (with_reducible assumption) | assumption)
                 obtain ⟨go25, co25, eo25, gb25, gl25, cl25, HG25⟩ := Mk.R_form HO_8.out (by omega)
                 (first | cases eo25 | (injection eo25 with ea_ en_ ec_; (first | subst ea_ | (injection ea_ with ea_; subst ea_)); subst ec_; clear en_))
                 have GB25 := Aside0.mk gb25
                 have GG25 := Aside0.mk HG25
                 clear gb25 gl25 HG25
                 obtain ⟨hx25_0, hf25_0⟩ := Mk.R_celln 0 HO_8.out (x9_2 : Int) p25 q25
                 replace p25 := eq_true p25
                 replace q25 := eq_true q25
                 have HP35 := Mk.R_putg HO_8.out (x9_2 : Int) (97 + ((((((rd x8_2 x9_2) - 97) % 256) + 13) % 256) % 26))
                 go_wp2_with (first | ((with_reducible refine gate_store (t := 5) (p := 75) rfl ?_); refine store_event (t := 5) (p := 75) (v := ?vo_w36) (w1 := (wc.setCell ⟨go25, (x9_2 : Int).toNat, none⟩ (.int .u8 (97 + ((((((rd x8_2 x9_2) - 97) % 256) + 13) % 256) % 26))))) ?hg ?ho ?hn ?hr ?_; (case ho => rfl); (case hg => rfl); (case hn => rfl); (case hr => first | (go_simp; done) | (go_simp; rfl)); intro w36 hw; have hg : wc.grownBy w36 (some go25) := (by rw [hw]; exact HP35.2); have hp_ : Mk.R (Kd.int .u8) 5 w36 w.heap.size (fun _ => True) (.slice (some ⟨go25, 0, none⟩) x8_2.length co20) y248 := (by rw [hw, Ny248.out]; exact HP35.1); clear HP35; have n0_ := Aside0.mk (hp_); have n1_ := Aside0.mk ((by rw [hw]; exact below_set (HB.out) GB25.out : Below w.heap.size w w36)); clear HO_8; clear HB; have HO_8 := n0_; have HB := n1_; clear n0_ n1_; clear hg hw hp_))
                 go_roundg kj18
                 case measure => have := HK1.out; have := HK2.out; have := HJ18.out; omega
                 case rel => exact ⟨(y248), (wrap64 (x9_2 + 1)), (by first | rfl | (simp; done) | (simp [*]; done) | exact not_isEmpty _ | exact (not_isEmpty _).symm | exact is_empty _ | exact (is_empty _).symm), H', ⟨by have := HK1.out; have := HK2.out; have := HJ18.out; omega⟩, ⟨by first | (with_reducible repeat (first | apply Kd.R_alloc | apply Kd.R_drewN | apply Kd.R_drew)); exact HO_8.out | (with_reducible repeat (first | apply Mk.R_alloc | apply Mk.R_drewN | apply Mk.R_drew)); exact HO_8.out⟩, ⟨by repeat (first | (with_reducible first | exact HB.out | apply below_alloc | apply pw_below_drewN | apply below_drew1) | exact HB.out)⟩⟩
               ·rw [if_neg c24] at H
                exact absurd H (by simp)
              ·rw [if_neg c23] at H
               exact absurd H (by simp)
             ·replace c22 := Bool.eq_false_iff.mpr c22
              subst c22
              have H1 : (if (rd x8_2 x9_2) ≥ 65 then (if (rd x8_2 x9_2) ≤ 90 then (if 0 ≤ x9_2 then (if x9_2 < (x8_2.length : Int) then (spec_FalseLetters.l1 kj18 (x8_2.set (x9_2 : Int).toNat (65 + ((((((rd x8_2 x9_2) - 65) % 256) + 13) % 256) % 26))) (wrap64 (x9_2 + 1))) else (none)) else (none)) else (spec_FalseLetters.l1 kj18 x8_2 (wrap64 (x9_2 + 1)))) else (spec_FalseLetters.l1 kj18 x8_2 (wrap64 (x9_2 + 1)))) = some (r1, r2) := by rw [if_neg (show ¬ (false = true) by decide)] at H; exact H
              clear H
              have H := H1
              clear H1
              by_cases c37 : (rd x8_2 x9_2) ≥ 65
              ·rw [if_pos c37] at H
               have c37b0 : decide (65 ≤ (rd x8_2 x9_2)) = true := decide_eq_true c37
               clear c37
               by_cases c38 : (rd x8_2 x9_2) ≤ 90
               ·rw [if_pos c38] at H
                have c38b0 : decide ((rd x8_2 x9_2) ≤ 90) = true := decide_eq_true c38
                clear c38
                by_cases c39 : 0 ≤ x9_2
                ·rw [if_pos c39] at H
                 have c39b0 : decide (0 ≤ x9_2) = true := decide_eq_true c39
                 clear c39
                 by_cases c40 : x9_2 < (x8_2.length : Int)
                 ·rw [if_pos c40] at H
                  have c40b0 : decide (x9_2 < (x8_2.length : Int)) = true := decide_eq_true c40
                  clear c40
                  obtain ⟨y250, hy250⟩ : ∃ y_ : List Int, y_ = (x8_2.set (x9_2 : Int).toNat (65 + ((((((rd x8_2 x9_2) - 65) % 256) + 13) % 256) % 26))) := ⟨_, rfl⟩
                  replace H : (spec_FalseLetters.l1 kj18 y250 (wrap64 (x9_2 + 1))) = some (r1, r2) := by first | (rw [hy250]; with_reducible exact H) | (have H2_ := (Option.bind_some _ _).symm.trans H; rw [hy250]; with_reducible exact H2_) | (have H2_ := (Option.bind_some _ _).symm.trans H; with_reducible exact H2_) | with_reducible exact H | (rw [hy250]; exact H) | exact H
                  have Ny250 := Aside0.mk hy250
                  clear hy250
                  have H' := Aside0.mk H
                  clear H
                  have p41 : 0 ≤ (x9_2 : Int) := of_decide_eq_true (by first | (with_reducible assumption) | assumption)
                  have q41 : (x9_2 : Int) < ((x8_2.length : Int) : Int) := of_decide_eq_true (by first | (with_reducible assumption) | assumption)
                  obtain ⟨go41, co41, eo41, gb41, gl41, cl41, HG41⟩ := Mk.R_form HO_8.out (by omega)
                  (first | cases eo41 | (injection eo41 with ea_ en_ ec_; (first | subst ea_ | (injection ea_ with ea_; subst ea_)); subst ec_; clear en_))
                  have GB41 := Aside0.mk gb41
                  have GG41 := Aside0.mk HG41
                  clear gb41 gl41 HG41
                  obtain ⟨hx41_0, hf41_0⟩ := Mk.R_celln 0 HO_8.out (x9_2 : Int) p41 q41
                  replace p41 := eq_true p41
                  replace q41 := eq_true q41
                  have HP42 := Mk.R_putg HO_8.out (x9_2 : Int) (65 + ((((((rd x8_2 x9_2) - 65) % 256) + 13) % 256) % 26))
                  go_wp2_with (first | ((with_reducible refine gate_store (t := 5) (p := 89) rfl ?_); refine store_event (t := 5) (p := 89) (v := ?vo_w43) (w1 := (wc.setCell ⟨go41, (x9_2 : Int).toNat, none⟩ (.int .u8 (65 + ((((((rd x8_2 x9_2) - 65) % 256) + 13) % 256) % 26))))) ?hg ?ho ?hn ?hr ?_; (case ho => rfl); (case hg => rfl); (case hn => rfl); (case hr => first | (go_simp; done) | (go_simp; rfl)); intro w43 hw; have hg : wc.grownBy w43 (some go41) := (by rw [hw]; exact HP42.2); have hp_ : Mk.R (Kd.int .u8) 5 w43 w.heap.size (fun _ => True) (.slice (some ⟨go41, 0, none⟩) x8_2.length co20) y250 := (by rw [hw, Ny250.out]; exact HP42.1); clear HP42; have n0_ := Aside0.mk (hp_); have n1_ := Aside0.mk ((by rw [hw]; exact below_set (HB.out) GB41.out : Below w.heap.size w w43)); clear HO_8; clear HB; have HO_8 := n0_; have HB := n1_; clear n0_ n1_; clear hg hw hp_))
                  go_roundg kj18
                  case measure => have := HK1.out; have := HK2.out; have := HJ18.out; omega
                  case rel => exact ⟨(y250), (wrap64 (x9_2 + 1)), (by first | rfl | (simp; done) | (simp [*]; done) | exact not_isEmpty _ | exact (not_isEmpty _).symm | exact is_empty _ | exact (is_empty _).symm), H', ⟨by have := HK1.out; have := HK2.out; have := HJ18.out; omega⟩, ⟨by first | (with_reducible repeat (first | apply Kd.R_alloc | apply Kd.R_drewN | apply Kd.R_drew)); exact HO_8.out | (with_reducible repeat (first | apply Mk.R_alloc | apply Mk.R_drewN | apply Mk.R_drew)); exact HO_8.out⟩, ⟨by repeat (first | (with_reducible first | exact HB.out | apply below_alloc | apply pw_below_drewN | apply below_drew1) | exact HB.out)⟩⟩
                 ·rw [if_neg c40] at H
                  exact absurd H (by simp)
                ·rw [if_neg c39] at H
                 exact absurd H (by simp)
               ·rw [if_neg c38] at H
                have c38b0 : decide ((rd x8_2 x9_2) ≤ 90) = false := decide_eq_false c38
                clear c38
                have H' := Aside0.mk H
                clear H
                go_wp2
                go_roundg kj18
                case measure => have := HK1.out; have := HK2.out; have := HJ18.out; omega
                case rel => exact ⟨(x8_2), (wrap64 (x9_2 + 1)), (by first | rfl | (simp; done) | (simp [*]; done) | exact not_isEmpty _ | exact (not_isEmpty _).symm | exact is_empty _ | exact (is_empty _).symm), H', ⟨by have := HK1.out; have := HK2.out; have := HJ18.out; omega⟩, ⟨by first | (with_reducible repeat (first | apply Kd.R_alloc | apply Kd.R_drewN | apply Kd.R_drew)); exact HO_8.out | (with_reducible repeat (first | apply Mk.R_alloc | apply Mk.R_drewN | apply Mk.R_drew)); exact HO_8.out⟩, ⟨by repeat (first | (with_reducible first | exact HB.out | apply below_alloc | apply pw_below_drewN | apply below_drew1) | exact HB.out)⟩⟩
              ·rw [if_neg c37] at H
               have c37b0 : decide (65 ≤ (rd x8_2 x9_2)) = false := decide_eq_false c37
               clear c37
               have H' := Aside0.mk H
               clear H
               go_wp2
               go_roundg kj18
               case measure => have := HK1.out; have := HK2.out; have := HJ18.out; omega
               case rel => exact ⟨(x8_2), (wrap64 (x9_2 + 1)), (by first | rfl | (simp; done) | (simp [*]; done) | exact not_isEmpty _ | exact (not_isEmpty _).symm | exact is_empty _ | exact (is_empty _).symm), H', ⟨by have := HK1.out; have := HK2.out; have := HJ18.out; omega⟩, ⟨by first | (with_reducible repeat (first | apply Kd.R_alloc | apply Kd.R_drewN | apply Kd.R_drew)); exact HO_8.out | (with_reducible repeat (first | apply Mk.R_alloc | apply Mk.R_drewN | apply Mk.R_drew)); exact HO_8.out⟩, ⟨by repeat (first | (with_reducible first | exact HB.out | apply below_alloc | apply pw_below_drewN | apply below_drew1) | exact HB.out)⟩⟩
         ·rw [if_neg c13] at H
          exact absurd H (by simp)
        ·rw [if_neg c12] at H
         have c12b0 : decide (x9_2 < (x8_2.length : Int)) = false := decide_eq_false c12
         clear c12
         by_cases c44 : 1 + (strOfNums x8_2).size ≤ 9223372036854775807
         ·rw [if_pos c44] at H
          have c44b0 := eq_true c44
          have c44b1 : decide (1 + (strOfNums x8_2).size ≤ 9223372036854775807) = true := decide_eq_true c44
          try have c44b2 : (9223372036854775807 < 1 + (strOfNums x8_2).size) = False := eq_false (Nat.not_lt.2 c44)
          by_cases c45 : ((⟨#[91]⟩ : ByteArray) ++ (strOfNums x8_2)).size + 1 ≤ 9223372036854775807
          ·rw [if_pos c45] at H
           have c45b0 := eq_true c45
           have c45b1 : decide (((⟨#[91]⟩ : ByteArray) ++ (strOfNums x8_2)).size + 1 ≤ 9223372036854775807) = true := decide_eq_true c45
           try have c45b2 : (9223372036854775807 < ((⟨#[91]⟩ : ByteArray) ++ (strOfNums x8_2)).size + 1) = False := eq_false (Nat.not_lt.2 c45)
           have c45b3 : ¬ (9223372036854775807 < 1 + (strOfNums x8_2).size + 1) := by have h_ := c45; simp only [ByteArray.size_append] at h_; have e_ : (⟨#[91]⟩ : ByteArray).size = 1 := rfl; omega
           simp only [Option.some.injEq, Prod.mk.injEq] at H
           obtain ⟨rfl, rfl⟩ := H
           obtain ⟨Ao46, co46, eo46⟩ := Mk.R_slice HO_8.out
           subst eo46
           have hcv47 := Mk.own_string (P := Try.prog) Try.underlying22 Try.underlying5 Try.underlying9 HO_8.out
           go_wp2
           go_ret2
           exact ⟨by first | rfl | (simp [errW_none, errW_some] <;> rfl) | (simp [*, errW_none, errW_some] <;> rfl), by repeat (first | (with_reducible first | exact HB.out | apply below_alloc | apply pw_below_drewN | apply below_drew1) | exact HB.out)⟩
          ·rw [if_neg c45] at H
           exact absurd H (by simp)
         ·rw [if_neg c44] at H
          exact absurd H (by simp)
     ·rw [if_neg c10] at H
      exact absurd H (by simp)
end Go.Proofs.Ytnacjhgpanedoag.PFnWords
namespace Go.Proofs.Ytnacjhgpanedoag.PFnWords
open Go.RowKit Go.Proofs.YtnacjhgpanedoagW.PrintWords Go.Proofs.YtnacjhgpanedoagW.PrintLast Go.Proofs.YtnacjhgpanedoagW.PrintMore
attribute [local go_sem] max2_int min2_int max_two min_two max_three min_three max_four min_four   -- for this text's walks alone
set_option linter.unusedVariables false
set_option linter.unusedSimpArgs false
mutual
def laws_FnWords.l0 : Nat → List Int → Int → Bool → List Int → Int → Int → Option (Bool)
 | 0, _, _, _, _, _, _ => none
 | k + 1, x1, x7, x8, x38, x39, x40 => if x40 < x39 then (if 0 ≤ x40 then (if x40 < (x38.length : Int) then (if x8 = true then (laws_FnWords.l0 k x1 x7 true x38 x39 (wrap64 (x40 + 1))) else (laws_FnWords.l0 k x1 x7 ((rd x38 x40) == x7) x38 x39 (wrap64 (x40 + 1)))) else (none)) else (none)) else (if (x8 != (decide (x7 > 0))) = true then (some false) else ((spec_DrawFalseLetters.f k x1).bind fun t259 => ((impl_FalseLetters.f k t259).bind fun bt260 => ((spec_FalseLetters.f k t259).bind fun bt262 => (if (bt260.2 != bt262.2) = true then (laws_FnWords.j1 k t259 bt260.1 bt260.2 true) else (laws_FnWords.j1 k t259 bt260.1 bt260.2 (bt260.1.toList != bt262.1.toList)))))))
def laws_FnWords.j1 : Nat → ByteArray → ByteArray → Bool → Bool → Option (Bool)
 | 0, _, _, _, _ => none
 | k + 1, x11, x12, x13, x74 => if x74 = true then (some false) else (if x13 = true then (if 1 ≤ (wrap64 ((x12.size : Int) - 1)) then (if (wrap64 ((x12.size : Int) - 1)) ≤ (x12.size : Int) then ((impl_FalseLetters.f k (x12.extract 1 ((wrap64 ((x12.size : Int) - 1)) : Int).toNat)).bind fun bt264 => (if bt264.2 = true then (if 1 + x11.size ≤ 9223372036854775807 then (if ((⟨#[91]⟩ : ByteArray) ++ x11).size + 1 ≤ 9223372036854775807 then (some (bt264.1.toList == (((⟨#[91]⟩ : ByteArray) ++ x11) ++ (⟨#[93]⟩ : ByteArray)).toList)) else (none)) else (none)) else (some false))) else (none)) else (none)) else (some (x12.toList == ([] : List UInt8))))
end
def laws_FnWords.f (k : Nat) (l0 : List Int) (l1 : List Int) : Option (Bool) := if (wrap64 ((l0.length : Int) + (l1.length : Int))) > 1048576 then (some true) else ((spec_DrawPluralOf.f k l0).bind fun bt251 => ((impl_PluralOf.f bt251.1 bt251.2).bind fun t253 => ((spec_PluralOf.f bt251.1 bt251.2).bind fun t254 => (if t253 = t254 then ((impl_FormsOf.f k bt251.1).bind fun t255 => (laws_FnWords.l0 k l1 t253 false t255 (t255.length : Int) 0)) else (some false)))))
theorem laws_FnWords.mono_l : ∀ k, (∀ y0 y1 y2 y3 y4 y5, LeO (laws_FnWords.l0 k y0 y1 y2 y3 y4 y5) (laws_FnWords.l0 (k + 1) y0 y1 y2 y3 y4 y5)) ∧ (∀ y0 y1 y2 y3, LeO (laws_FnWords.j1 k y0 y1 y2 y3) (laws_FnWords.j1 (k + 1) y0 y1 y2 y3))
 | 0 => ⟨fun _ _ _ _ _ _ r h => by simp [laws_FnWords.l0] at h, fun _ _ _ _ r h => by simp [laws_FnWords.j1] at h⟩
 | k + 1 => by
  obtain ⟨ih0, ih1⟩ := laws_FnWords.mono_l k
  refine ⟨?_, ?_⟩
  ·intro y0 y1 y2 y3 y4 y5
   unfold laws_FnWords.l0
   repeat' first
   | (with_reducible exact ih0 _ _ _ _ _ _)
   | (with_reducible exact ih1 _ _ _ _)
   | (with_reducible exact impl_FalseLetters.mono _ _)
   | (with_reducible exact impl_FormsOf.mono _ _)
   | (with_reducible exact spec_DrawFalseLetters.mono _ _)
   | (with_reducible exact spec_DrawPluralOf.mono _ _)
   | (with_reducible exact spec_FalseLetters.mono _ _)
   | (with_reducible first | exact LeO.refl _ | exact LeO.none _ | refine LeO.ite ?_ ?_ | refine LeO.bind ?_ (fun _ => ?_))
   | exact ih0 _ _ _ _ _ _
   | exact ih1 _ _ _ _
   | exact impl_FalseLetters.mono _ _
   | exact impl_FormsOf.mono _ _
   | exact spec_DrawFalseLetters.mono _ _
   | exact spec_DrawPluralOf.mono _ _
   | exact spec_FalseLetters.mono _ _ | exact LeO.none _ | refine LeO.ite ?_ ?_ | refine LeO.bind ?_ (fun _ => ?_)
  ·intro y0 y1 y2 y3
   unfold laws_FnWords.j1
   repeat' first
   | (with_reducible exact ih0 _ _ _ _ _ _)
   | (with_reducible exact ih1 _ _ _ _)
   | (with_reducible exact impl_FalseLetters.mono _ _)
   | (with_reducible exact impl_FormsOf.mono _ _)
   | (with_reducible exact spec_DrawFalseLetters.mono _ _)
   | (with_reducible exact spec_DrawPluralOf.mono _ _)
   | (with_reducible exact spec_FalseLetters.mono _ _)
   | (with_reducible first | exact LeO.refl _ | exact LeO.none _ | refine LeO.ite ?_ ?_ | refine LeO.bind ?_ (fun _ => ?_))
   | exact ih0 _ _ _ _ _ _
   | exact ih1 _ _ _ _
   | exact impl_FalseLetters.mono _ _
   | exact impl_FormsOf.mono _ _
   | exact spec_DrawFalseLetters.mono _ _
   | exact spec_DrawPluralOf.mono _ _
   | exact spec_FalseLetters.mono _ _ | exact LeO.none _ | refine LeO.ite ?_ ?_ | refine LeO.bind ?_ (fun _ => ?_)
theorem laws_FnWords.mono : ∀ a0 a1 k, LeO (laws_FnWords.f k a0 a1) (laws_FnWords.f (k + 1) a0 a1) := by
 intro a0 a1 k
 obtain ⟨ih0, ih1⟩ := laws_FnWords.mono_l k
 unfold laws_FnWords.f
 repeat' first
   | (with_reducible exact ih0 _ _ _ _ _ _)
   | (with_reducible exact ih1 _ _ _ _)
   | (with_reducible exact impl_FalseLetters.mono _ _)
   | (with_reducible exact impl_FormsOf.mono _ _)
   | (with_reducible exact spec_DrawFalseLetters.mono _ _)
   | (with_reducible exact spec_DrawPluralOf.mono _ _)
   | (with_reducible exact spec_FalseLetters.mono _ _)
   | (with_reducible first | exact LeO.refl _ | exact LeO.none _ | refine LeO.ite ?_ ?_ | refine LeO.bind ?_ (fun _ => ?_))
   | exact ih0 _ _ _ _ _ _
   | exact ih1 _ _ _ _
   | exact impl_FalseLetters.mono _ _
   | exact impl_FormsOf.mono _ _
   | exact spec_DrawFalseLetters.mono _ _
   | exact spec_DrawPluralOf.mono _ _
   | exact spec_FalseLetters.mono _ _ | exact LeO.none _ | refine LeO.ite ?_ ?_ | refine LeO.bind ?_ (fun _ => ?_)
set_option maxHeartbeats 8000000 in
set_option maxRecDepth 100000 in
theorem laws_FnWords.calls (k : Nat) (A0 : Option Addr) (c0 : Nat) (l0 : List Int) (A1 : Option Addr) (c1 : Nat) (l1 : List Int) (r : Bool) (w : World) (hr0 : Kd.C (Kd.int .u8) w A0 l0.length l0) (hc0 : l0.length ≤ c0) (hr1 : Kd.C (Kd.int .u8) w A1 l1.length l1) (hc1 : l1.length ≤ c1) (h : laws_FnWords.f k l0 l1 = some r) :
  Calls Try.prog 3 #[.slice A0 l0.length c0, .slice A1 l1.length c1] w fun e w' => e = .returned (.bool r) ∧ Below w.heap.size w w' := by
 have HR0 := Aside0.mk hr0
 have HC0 := Aside0.mk hc0
 clear hr0 hc0
 have HR1 := Aside0.mk hr1
 have HC1 := Aside0.mk hc1
 clear hr1 hc1
 have HB := Aside0.mk (Below.refl w.heap.size w)
 have H : (if (wrap64 ((l0.length : Int) + (l1.length : Int))) > 1048576 then (some true) else ((spec_DrawPluralOf.f k l0).bind fun bt251 => ((impl_PluralOf.f bt251.1 bt251.2).bind fun t253 => ((spec_PluralOf.f bt251.1 bt251.2).bind fun t254 => (if t253 = t254 then ((impl_FormsOf.f k bt251.1).bind fun t255 => (laws_FnWords.l0 k l1 t253 false t255 (t255.length : Int) 0)) else (some false)))))) = some r := h
 clear h
 by_cases c3 : (wrap64 ((l0.length : Int) + (l1.length : Int))) > 1048576
 ·rw [if_pos c3] at H
  have c3b0 : decide (1048576 < (wrap64 ((l0.length : Int) + (l1.length : Int)))) = true := decide_eq_true c3
  clear c3
  obtain rfl := Option.some.inj H
  go_enter Try.func3, Try.ntmps3
  go_wp2
  go_ret
  exact ⟨by first | rfl | (simp [errW_none, errW_some] <;> rfl) | (simp [*, errW_none, errW_some] <;> rfl), by repeat (first | (with_reducible first | exact HB.out | apply below_alloc | apply pw_below_drewN | apply below_drew1) | exact HB.out)⟩
 ·rw [if_neg c3] at H
  have c3b0 : decide (1048576 < (wrap64 ((l0.length : Int) + (l1.length : Int)))) = false := decide_eq_false c3
  clear c3
  replace H := Option.bind_eq_some_iff.mp H
  obtain ⟨⟨t251, t252⟩, A40, H⟩ := H
  replace H : ((impl_PluralOf.f t251 t252).bind fun t253 => ((spec_PluralOf.f t251 t252).bind fun t254 => (if t253 = t254 then ((impl_FormsOf.f k t251).bind fun t255 => (laws_FnWords.l0 k l1 t253 false t255 (t255.length : Int) 0)) else (some false)))) = some r := H
  have A4 := Aside0.mk A40
  clear A40
  replace H := Option.bind_eq_some_iff.mp H
  obtain ⟨t253, A50, H⟩ := H
  replace H : ((spec_PluralOf.f t251 t252).bind fun t254 => (if t253 = t254 then ((impl_FormsOf.f k t251).bind fun t255 => (laws_FnWords.l0 k l1 t253 false t255 (t255.length : Int) 0)) else (some false))) = some r := H
  have A5 := Aside0.mk A50
  clear A50
  replace H := Option.bind_eq_some_iff.mp H
  obtain ⟨t254, A60, H⟩ := H
  replace H : (if t253 = t254 then ((impl_FormsOf.f k t251).bind fun t255 => (laws_FnWords.l0 k l1 t253 false t255 (t255.length : Int) 0)) else (some false)) = some r := H
  have A6 := Aside0.mk A60
  clear A60
  by_cases c7 : t253 = t254
  ·rw [if_pos c7] at H
   have c7b0 : (t253 == t254) = true := beq_iff_eq.mpr c7
   have c7b1 : (t253 != t254) = false := bne_eq_false_iff_eq.mpr c7
   clear c7
   replace H := Option.bind_eq_some_iff.mp H
   obtain ⟨t255, A80, H⟩ := H
   replace H : (laws_FnWords.l0 k l1 t253 false t255 (t255.length : Int) 0) = some r := H
   have A8 := Aside0.mk A80
   clear A80
   have H' := Aside0.mk H
   clear H
   go_enter Try.func3, Try.ntmps3
   go_wp2_with (first | ((with_reducible refine gate_callee (f := 4) rfl ?_); refine goesL_ (some 26) rfl rfl Try.func4 (by kernel_rfl) rfl #[.slice A0 l0.length c0] rfl (by (try simp only [List.map_toArray, List.map_cons, List.map_nil]); first | done | rfl | (simp only [List.length_drop, List.length_take]; rfl)) ?_; (with_reducible refine (spec_DrawPluralOf.calls k _ _ l0 t251 t252 _ ?side1 ?side2 A4.out).mono ?_); (case side1 => repeat (first | exact HR0.out | (with_reducible refine Kd.C_alloc ?_ _) | (with_reducible refine Kd.C_drewN ?_ _) | (with_reducible refine Kd.C_drew ?_))); (case side2 => exact HC0.out); rintro e w9 ⟨rfl, hb⟩; refine ⟨_, rfl, ?_⟩; have n0_ := Aside0.mk (below_step (by repeat (first | (with_reducible first | exact HB.out | apply below_alloc | apply pw_below_drewN | apply below_drew1) | exact HB.out)) hb); clear HB; have HB := n0_; clear n0_; (try clear hb); (try clear hb2); (try clear hk); (try clear hi)) | ((with_reducible refine gate_callee (f := 5) rfl ?_); refine goesL_ (some 31) rfl rfl Try.func5 (by kernel_rfl) rfl #[.string t251, .int .i64 t252] rfl (by (try simp only [List.map_toArray, List.map_cons, List.map_nil]); first | done | rfl | (simp only [List.length_drop, List.length_take]; rfl)) ?_; (with_reducible refine (impl_PluralOf.calls t251 t252 t253 _ A5.out).mono ?_); rintro e w' ⟨rfl, ⟨nd, rfl⟩⟩; refine ⟨_, rfl, ?_⟩) | ((with_reducible refine gate_callee (f := 6) rfl ?_); refine goesL_ (some 35) rfl rfl Try.func6 (by kernel_rfl) rfl #[.string t251, .int .i64 t252] rfl (by (try simp only [List.map_toArray, List.map_cons, List.map_nil]); first | done | rfl | (simp only [List.length_drop, List.length_take]; rfl)) ?_; (with_reducible refine (spec_PluralOf.calls t251 t252 t254 _ A6.out).mono ?_); rintro e w' ⟨rfl, ⟨nd, rfl⟩⟩; refine ⟨_, rfl, ?_⟩) | ((with_reducible refine gate_callee (f := 7) rfl ?_); refine goesL_ (some 38) rfl rfl Try.func7 (by kernel_rfl) rfl #[.string t251] rfl (by (try simp only [List.map_toArray, List.map_cons, List.map_nil]); first | done | rfl | (simp only [List.length_drop, List.length_take]; rfl)) ?_; (with_reducible refine (impl_FormsOf.calls k t251 t255 _ A8.out).mono ?_); rintro e w10 ⟨v256, rfl, ho0, hb⟩; refine ⟨_, rfl, ?_⟩; have n0_ := Aside0.mk (Kd.R_lower ho0 (below_size (by repeat (first | (with_reducible first | exact HB.out | apply below_alloc | apply pw_below_drewN | apply below_drew1) | exact HB.out)))); have n1_ := Aside0.mk (below_step (by repeat (first | (with_reducible first | exact HB.out | apply below_alloc | apply pw_below_drewN | apply below_drew1) | exact HB.out)) hb); clear HB; have HO257 := n0_; have HB := n1_; clear n0_ n1_; (try clear hb); (try clear hb2); (try clear hk); (try clear hi); (try clear ho0); obtain ⟨Ao11, co11, eo11⟩ := Kd.R_slice HO257.out; subst eo11))
   (try simp only [Act.put, List.setIfInBounds_toArray, List.set_cons_zero, List.set_cons_succ])
   go_loopg [8, 40] k (fun kq v8 v40 w' => ∃ (x8_1 : Bool) (x40_1 : Int), v8 = .bool x8_1 ∧ v40 = .int .i64 x40_1 ∧ Aside0 (laws_FnWords.l0 kq l1 t253 x8_1 t255 (t255.length : Int) x40_1 = some r) ∧ Aside0 (kq ≤ k) ∧ Aside0 (Kd.R (Kd.int .i64) 3 w' w.heap.size (fun _ => True) (.slice Ao11 t255.length co11) t255) ∧ Aside0 (Below w.heap.size w w'))
   case atStart => exact ⟨(false), (0), (by first | rfl | (simp; done) | (simp [*]; done) | exact not_isEmpty _ | exact (not_isEmpty _).symm | exact is_empty _ | exact (is_empty _).symm), (by first | rfl | (simp; done) | (simp [*]; done) | exact not_isEmpty _ | exact (not_isEmpty _).symm | exact is_empty _ | exact (is_empty _).symm), H', ⟨Nat.le_refl _⟩, ⟨by (with_reducible repeat (first | apply Kd.R_alloc | apply Kd.R_drewN | apply Kd.R_drew)); exact HO257.out⟩, ⟨by repeat (first | (with_reducible first | exact HB.out | apply below_alloc | apply pw_below_drewN | apply below_drew1) | exact HB.out)⟩⟩
   case round =>
    clear H'
    try clear c1
    try clear p2
    try clear c3
    try clear c3b0
    try clear c4
    try clear c5
    try clear c6
    try clear p6
    try clear c7
    try clear c7b0
    try clear c7b1
    obtain ⟨x8_1, x40_1, rfl, rfl, HA, HK1, HO_38, HB⟩ := hrel
    cases gk with
    | zero => exact absurd HA.out (by simp [laws_FnWords.l0])
    | succ k1 =>
     have H := HA.out
     clear HA
     simp only [laws_FnWords.l0] at H
     by_cases c12 : x40_1 < (t255.length : Int)
     ·rw [if_pos c12] at H
      have c12b0 : decide (x40_1 < (t255.length : Int)) = true := decide_eq_true c12
      clear c12
      by_cases c13 : 0 ≤ x40_1
      ·rw [if_pos c13] at H
       have c13b0 : decide (0 ≤ x40_1) = true := decide_eq_true c13
       clear c13
       by_cases c14 : x40_1 < (t255.length : Int)
       ·rw [if_pos c14] at H
        have c14b0 : decide (x40_1 < (t255.length : Int)) = true := decide_eq_true c14
        clear c14
        by_cases c15 : x8_1 = true
        ·subst c15
         have H1 : (laws_FnWords.l0 k1 l1 t253 true t255 (t255.length : Int) (wrap64 (x40_1 + 1))) = some r := by rw [if_pos rfl] at H; exact H
         clear H
         have H := H1
         clear H1
         have H' := Aside0.mk H
         clear H
         have p258 : 0 ≤ (x40_1 : Int) := of_decide_eq_true (by first | (with_reducible assumption) | assumption)
         have q258 : x40_1 < (t255.length : Int) := of_decide_eq_true (by first | (with_reducible assumption) | assumption)
         obtain ⟨ad258, e258, hx258_0⟩ := Kd.at_int (Kd.R_reads' HO_38.out).2.2 x40_1 p258 q258
         cases e258
         replace p258 := eq_true p258
         replace q258 := eq_true q258
         go_wp2
         go_roundg k1
         case measure => have := HK1.out; omega
         case rel => exact ⟨(true), (wrap64 (x40_1 + 1)), (by first | rfl | (simp; done) | (simp [*]; done) | exact not_isEmpty _ | exact (not_isEmpty _).symm | exact is_empty _ | exact (is_empty _).symm), (by first | rfl | (simp; done) | (simp [*]; done) | exact not_isEmpty _ | exact (not_isEmpty _).symm | exact is_empty _ | exact (is_empty _).symm), H', ⟨by have := HK1.out; omega⟩, ⟨by (with_reducible repeat (first | apply Kd.R_alloc | apply Kd.R_drewN | apply Kd.R_drew)); exact HO_38.out⟩, ⟨by repeat (first | (with_reducible first | exact HB.out | apply below_alloc | apply pw_below_drewN | apply below_drew1) | exact HB.out)⟩⟩
        ·replace c15 := Bool.eq_false_iff.mpr c15
         subst c15
         have H1 : (laws_FnWords.l0 k1 l1 t253 ((rd t255 x40_1) == t253) t255 (t255.length : Int) (wrap64 (x40_1 + 1))) = some r := by rw [if_neg (show ¬ (false = true) by decide)] at H; exact H
         clear H
         have H := H1
         clear H1
         have H' := Aside0.mk H
         clear H
         have p258 : 0 ≤ (x40_1 : Int) := of_decide_eq_true (by first | (with_reducible assumption) | assumption)
         have q258 : x40_1 < (t255.length : Int) := of_decide_eq_true (by first | (with_reducible assumption) | assumption)
         obtain ⟨ad258, e258, hx258_0⟩ := Kd.at_int (Kd.R_reads' HO_38.out).2.2 x40_1 p258 q258
         cases e258
         replace p258 := eq_true p258
         replace q258 := eq_true q258
         go_wp2
         go_roundg k1
         case measure => have := HK1.out; omega
         case rel => exact ⟨(((rd t255 x40_1) == t253)), (wrap64 (x40_1 + 1)), (by first | rfl | (simp; done) | (simp [*]; done) | exact not_isEmpty _ | exact (not_isEmpty _).symm | exact is_empty _ | exact (is_empty _).symm), (by first | rfl | (simp; done) | (simp [*]; done) | exact not_isEmpty _ | exact (not_isEmpty _).symm | exact is_empty _ | exact (is_empty _).symm), H', ⟨by have := HK1.out; omega⟩, ⟨by (with_reducible repeat (first | apply Kd.R_alloc | apply Kd.R_drewN | apply Kd.R_drew)); exact HO_38.out⟩, ⟨by repeat (first | (with_reducible first | exact HB.out | apply below_alloc | apply pw_below_drewN | apply below_drew1) | exact HB.out)⟩⟩
       ·rw [if_neg c14] at H
        exact absurd H (by simp)
      ·rw [if_neg c13] at H
       exact absurd H (by simp)
     ·rw [if_neg c12] at H
      have c12b0 : decide (x40_1 < (t255.length : Int)) = false := decide_eq_false c12
      clear c12
      by_cases c16 : (x8_1 != (decide (t253 > 0))) = true
      ·rw [if_pos c16] at H
       have c16b0 : (x8_1 != (decide (t253 > 0))) = true := c16
       (try (have c16b1 : decide (x8_1 = (decide (t253 > 0))) = false := by simpa using c16))
       (try (have c16b2 : (x8_1 == (decide (t253 > 0))) = false := by simpa using c16))
       (try (have c16b3 : ¬ (x8_1 = (decide (t253 > 0))) := by simpa using c16))
       clear c16
       obtain rfl := Option.some.inj H
       go_wp2
       go_ret
       exact ⟨by first | rfl | (simp [errW_none, errW_some] <;> rfl) | (simp [*, errW_none, errW_some] <;> rfl), by repeat (first | (with_reducible first | exact HB.out | apply below_alloc | apply pw_below_drewN | apply below_drew1) | exact HB.out)⟩
      ·rw [if_neg c16] at H
       have c16b0 : (x8_1 != (decide (t253 > 0))) = false := by simpa using c16
       (try (have c16b1 : decide (x8_1 = (decide (t253 > 0))) = true := by simpa using c16))
       (try (have c16b2 : (x8_1 == (decide (t253 > 0))) = true := by simpa using c16))
       clear c16
       replace H := Option.bind_eq_some_iff.mp H
       obtain ⟨t259, A170, H⟩ := H
       replace H : ((impl_FalseLetters.f k1 t259).bind fun bt260 => ((spec_FalseLetters.f k1 t259).bind fun bt262 => (if (bt260.2 != bt262.2) = true then (laws_FnWords.j1 k1 t259 bt260.1 bt260.2 true) else (laws_FnWords.j1 k1 t259 bt260.1 bt260.2 (bt260.1.toList != bt262.1.toList))))) = some r := H
       have A17 := Aside0.mk A170
       clear A170
       replace H := Option.bind_eq_some_iff.mp H
       obtain ⟨⟨t260, t261⟩, A180, H⟩ := H
       replace H : ((spec_FalseLetters.f k1 t259).bind fun bt262 => (if (t261 != bt262.2) = true then (laws_FnWords.j1 k1 t259 t260 t261 true) else (laws_FnWords.j1 k1 t259 t260 t261 (t260.toList != bt262.1.toList)))) = some r := H
       have A18 := Aside0.mk A180
       clear A180
       replace H := Option.bind_eq_some_iff.mp H
       obtain ⟨⟨t262, t263⟩, A190, H⟩ := H
       replace H : (if (t261 != t263) = true then (laws_FnWords.j1 k1 t259 t260 t261 true) else (laws_FnWords.j1 k1 t259 t260 t261 (t260.toList != t262.toList))) = some r := H
       have A19 := Aside0.mk A190
       clear A190
       have HC20 := Aside0.mk H
       clear H
       go_upto_region 18 with (first | ((with_reducible refine gate_callee (f := 8) rfl ?_); refine goesL_ (some 56) rfl rfl Try.func8 (by kernel_rfl) rfl #[.slice A1 l1.length c1] rfl (by (try simp only [List.map_toArray, List.map_cons, List.map_nil]); first | done | rfl | (simp only [List.length_drop, List.length_take]; rfl)) ?_; (with_reducible refine (spec_DrawFalseLetters.calls k1 _ _ l1 t259 _ ?side1 ?side2 A17.out).mono ?_); (case side1 => repeat (first | exact (Kd.C_below HR1.out HB.out) | (with_reducible refine Kd.C_alloc ?_ _) | (with_reducible refine Kd.C_drewN ?_ _) | (with_reducible refine Kd.C_drew ?_))); (case side2 => exact HC1.out); rintro e w21 ⟨rfl, hb⟩; refine ⟨_, rfl, ?_⟩; have n0_ := Aside0.mk (Kd.R_below (by (with_reducible repeat (first | apply Kd.R_alloc | apply Kd.R_drewN | apply Kd.R_drew)); exact HO_38.out) hb); have n1_ := Aside0.mk (below_step (by repeat (first | (with_reducible first | exact HB.out | apply below_alloc | apply pw_below_drewN | apply below_drew1) | exact HB.out)) hb); clear HO_38; clear HB; have HO_38 := n0_; have HB := n1_; clear n0_ n1_; (try clear hb); (try clear hb2); (try clear hk); (try clear hi)) | ((with_reducible refine gate_callee (f := 9) rfl ?_); refine goesL_ (some 59) rfl rfl Try.func9 (by kernel_rfl) rfl #[.string t259] rfl (by (try simp only [List.map_toArray, List.map_cons, List.map_nil]); first | done | rfl | (simp only [List.length_drop, List.length_take]; rfl)) ?_; (with_reducible refine (impl_FalseLetters.calls k1 t259 t260 t261 _ A18.out).mono ?_); rintro e w22 ⟨rfl, hb⟩; refine ⟨_, rfl, ?_⟩; have n0_ := Aside0.mk (Kd.R_below (by (with_reducible repeat (first | apply Kd.R_alloc | apply Kd.R_drewN | apply Kd.R_drew)); exact HO_38.out) hb); have n1_ := Aside0.mk (below_step (by repeat (first | (with_reducible first | exact HB.out | apply below_alloc | apply pw_below_drewN | apply below_drew1) | exact HB.out)) hb); clear HO_38; clear HB; have HO_38 := n0_; have HB := n1_; clear n0_ n1_; (try clear hb); (try clear hb2); (try clear hk); (try clear hi)) | ((with_reducible refine gate_callee (f := 10) rfl ?_); refine goesL_ (some 64) rfl rfl Try.func10 (by kernel_rfl) rfl #[.string t259] rfl (by (try simp only [List.map_toArray, List.map_cons, List.map_nil]); first | done | rfl | (simp only [List.length_drop, List.length_take]; rfl)) ?_; (with_reducible refine (spec_FalseLetters.calls k1 t259 t262 t263 _ A19.out).mono ?_); rintro e w23 ⟨rfl, hb⟩; refine ⟨_, rfl, ?_⟩; have n0_ := Aside0.mk (Kd.R_below (by (with_reducible repeat (first | apply Kd.R_alloc | apply Kd.R_drewN | apply Kd.R_drew)); exact HO_38.out) hb); have n1_ := Aside0.mk (below_step (by repeat (first | (with_reducible first | exact HB.out | apply below_alloc | apply pw_below_drewN | apply below_drew1) | exact HB.out)) hb); clear HO_38; clear HB; have HO_38 := n0_; have HB := n1_; clear n0_ n1_; (try clear hb); (try clear hb2); (try clear hk); (try clear hi)))
       (try simp only [Act.put, List.setIfInBounds_toArray, List.set_cons_zero, List.set_cons_succ])
       go_cut [74] (fun v74 wc => ∃ (kq : Nat) (x74_19 : Bool), v74 = .bool x74_19 ∧ Aside0 (laws_FnWords.j1 kq t259 t260 t261 x74_19 = some r) ∧ Aside0 (kq ≤ k1) ∧ Aside0 (Below w.heap.size w wc))
       case first =>
        have H := HC20.out
        clear HC20
        by_cases c24 : (t261 != t263) = true
        ·rw [if_pos c24] at H
         have c24b0 : (t261 != t263) = true := c24
         (try (have c24b1 : decide (t261 = t263) = false := by simpa using c24))
         (try (have c24b2 : (t261 == t263) = false := by simpa using c24))
         (try (have c24b3 : ¬ (t261 = t263) := by simpa using c24))
         clear c24
         (first | rw [c24b0] | (simp only [i64_w, i32_w]; rw [c24b0]) | (rw [c24b2]; simp only [Bool.not_false, Bool.not_true]) | skip)
         have H' := Aside0.mk H
         clear H
         go_wp2
         go_meet
         case rel => exact ⟨_, (true), (by first | rfl | (simp; done) | (simp [*]; done) | exact not_isEmpty _ | exact (not_isEmpty _).symm | exact is_empty _ | exact (is_empty _).symm), H', ⟨by have := HK1.out; first | omega | exact Nat.le_refl _⟩, ⟨by repeat (first | (with_reducible first | exact HB.out | apply below_alloc | apply pw_below_drewN | apply below_drew1) | exact HB.out)⟩⟩
        ·rw [if_neg c24] at H
         have c24b0 : (t261 != t263) = false := by simpa using c24
         (try (have c24b1 : decide (t261 = t263) = true := by simpa using c24))
         (try (have c24b2 : (t261 == t263) = true := by simpa using c24))
         clear c24
         (first | rw [c24b0] | (simp only [i64_w, i32_w]; rw [c24b0]) | (rw [c24b2]; simp only [Bool.not_false, Bool.not_true]) | skip)
         have H' := Aside0.mk H
         clear H
         go_wp2
         go_meet
         case rel => exact ⟨_, ((t260.toList != t262.toList)), (by first | rfl | (simp; done) | (simp [*]; done) | exact not_isEmpty _ | exact (not_isEmpty _).symm | exact is_empty _ | exact (is_empty _).symm), H', ⟨by have := HK1.out; first | omega | exact Nat.le_refl _⟩, ⟨by repeat (first | (with_reducible first | exact HB.out | apply below_alloc | apply pw_below_drewN | apply below_drew1) | exact HB.out)⟩⟩
       case rest =>
        clear HC20
        try clear c1
        try clear c2
        try clear p2
        try clear q2
        try clear hx2
        try clear c3
        try clear c3b0
        try clear c4
        try clear c5
        try clear c6
        try clear p6
        try clear c7
        try clear c7b0
        try clear c7b1
        try clear c8
        try clear c9
        try clear c10
        try clear c12
        try clear c12b0
        try clear c13
        try clear c13b0
        try clear c14
        try clear c14b0
        try clear c15
        try clear c16
        try clear c16b0
        try clear c16b1
        try clear c16b2
        try clear c24
        try clear c24b0
        try clear c24b1
        try clear c24b2
        try clear hx258_0
        try clear p2
        try clear p258
        try clear p6
        try clear q258
        obtain ⟨kq, x74_19, rfl, HA, HJ19, HB⟩ := hcut
        cases kq with
        | zero => exact absurd HA.out (by simp [laws_FnWords.j1])
        | succ kj19 =>
         have H := HA.out
         clear HA
         simp only [laws_FnWords.j1] at H
         by_cases c25 : x74_19 = true
         ·subst c25
          have H1 : (some false) = some r := by rw [if_pos rfl] at H; exact H
          clear H
          have H := H1
          clear H1
          obtain rfl := Option.some.inj H
          go_wp2
          go_ret
          exact ⟨by first | rfl | (simp [errW_none, errW_some] <;> rfl) | (simp [*, errW_none, errW_some] <;> rfl), by repeat (first | (with_reducible first | exact HB.out | apply below_alloc | apply pw_below_drewN | apply below_drew1) | exact HB.out)⟩
         ·replace c25 := Bool.eq_false_iff.mpr c25
          subst c25
          have H1 : (if t261 = true then (if 1 ≤ (wrap64 ((t260.size : Int) - 1)) then (if (wrap64 ((t260.size : Int) - 1)) ≤ (t260.size : Int) then ((impl_FalseLetters.f kj19 (t260.extract 1 ((wrap64 ((t260.size : Int) - 1)) : Int).toNat)).bind fun bt264 => (if bt264.2 = true then (if 1 + t259.size ≤ 9223372036854775807 then (if ((⟨#[91]⟩ : ByteArray) ++ t259).size + 1 ≤ 9223372036854775807 then (some (bt264.1.toList == (((⟨#[91]⟩ : ByteArray) ++ t259) ++ (⟨#[93]⟩ : ByteArray)).toList)) else (none)) else (none)) else (some false))) else (none)) else (none)) else (some (t260.toList == ([] : List UInt8)))) = some r := by rw [if_neg (show ¬ (false = true) by decide)] at H; exact H
          clear H
          have H := H1
          clear H1
          by_cases c26 : t261 = true
          ·subst c26
           have H1 : (if 1 ≤ (wrap64 ((t260.size : Int) - 1)) then (if (wrap64 ((t260.size : Int) - 1)) ≤ (t260.size : Int) then ((impl_FalseLetters.f kj19 (t260.extract 1 ((wrap64 ((t260.size : Int) - 1)) : Int).toNat)).bind fun bt264 => (if bt264.2 = true then (if 1 + t259.size ≤ 9223372036854775807 then (if ((⟨#[91]⟩ : ByteArray) ++ t259).size + 1 ≤ 9223372036854775807 then (some (bt264.1.toList == (((⟨#[91]⟩ : ByteArray) ++ t259) ++ (⟨#[93]⟩ : ByteArray)).toList)) else (none)) else (none)) else (some false))) else (none)) else (none)) = some r := by rw [if_pos rfl] at H; exact H
           clear H
           have H := H1
           clear H1
           by_cases c27 : 1 ≤ (wrap64 ((t260.size : Int) - 1))
           ·rw [if_pos c27] at H
            have c27b0 := eq_true c27
            have c27b1 : decide (1 ≤ (wrap64 ((t260.size : Int) - 1))) = true := decide_eq_true c27
            clear c27
            by_cases c28 : (wrap64 ((t260.size : Int) - 1)) ≤ (t260.size : Int)
            ·rw [if_pos c28] at H
             have c28b0 := eq_true c28
             have c28b1 : decide ((wrap64 ((t260.size : Int) - 1)) ≤ (t260.size : Int)) = true := decide_eq_true c28
             clear c28
             replace H := Option.bind_eq_some_iff.mp H
             obtain ⟨⟨t264, t265⟩, A290, H⟩ := H
             replace H : (if t265 = true then (if 1 + t259.size ≤ 9223372036854775807 then (if ((⟨#[91]⟩ : ByteArray) ++ t259).size + 1 ≤ 9223372036854775807 then (some (t264.toList == (((⟨#[91]⟩ : ByteArray) ++ t259) ++ (⟨#[93]⟩ : ByteArray)).toList)) else (none)) else (none)) else (some false)) = some r := H
             have A29 := Aside0.mk A290
             clear A290
             by_cases c30 : t265 = true
             ·subst c30
              have H1 : (if 1 + t259.size ≤ 9223372036854775807 then (if ((⟨#[91]⟩ : ByteArray) ++ t259).size + 1 ≤ 9223372036854775807 then (some (t264.toList == (((⟨#[91]⟩ : ByteArray) ++ t259) ++ (⟨#[93]⟩ : ByteArray)).toList)) else (none)) else (none)) = some r := by rw [if_pos rfl] at H; exact H
              clear H
              have H := H1
              clear H1
              by_cases c31 : 1 + t259.size ≤ 9223372036854775807
              ·rw [if_pos c31] at H
               have c31b0 := eq_true c31
               have c31b1 : decide (1 + t259.size ≤ 9223372036854775807) = true := decide_eq_true c31
               try have c31b2 : (9223372036854775807 < 1 + t259.size) = False := eq_false (Nat.not_lt.2 c31)
               by_cases c32 : ((⟨#[91]⟩ : ByteArray) ++ t259).size + 1 ≤ 9223372036854775807
               ·rw [if_pos c32] at H
                have c32b0 := eq_true c32
                have c32b1 : decide (((⟨#[91]⟩ : ByteArray) ++ t259).size + 1 ≤ 9223372036854775807) = true := decide_eq_true c32
                try have c32b2 : (9223372036854775807 < ((⟨#[91]⟩ : ByteArray) ++ t259).size + 1) = False := eq_false (Nat.not_lt.2 c32)
                have c32b3 : ¬ (9223372036854775807 < 1 + t259.size + 1) := by have h_ := c32; simp only [ByteArray.size_append] at h_; have e_ : (⟨#[91]⟩ : ByteArray).size = 1 := rfl; omega
                obtain rfl := Option.some.inj H
                go_wp2_with (first | ((with_reducible refine gate_callee (f := 9) rfl ?_); refine goesL_ (some 85) rfl rfl Try.func9 (by kernel_rfl) rfl #[.string (t260.extract 1 ((wrap64 ((t260.size : Int) - 1)) : Int).toNat)] rfl (by (try simp only [List.map_toArray, List.map_cons, List.map_nil]); first | done | rfl | (simp only [List.length_drop, List.length_take]; rfl)) ?_; (with_reducible refine (impl_FalseLetters.calls kj19 (t260.extract 1 ((wrap64 ((t260.size : Int) - 1)) : Int).toNat) t264 true _ A29.out).mono ?_); rintro e w33 ⟨rfl, hb⟩; refine ⟨_, rfl, ?_⟩; have n0_ := Aside0.mk (below_step (by repeat (first | (with_reducible first | exact HB.out | apply below_alloc | apply pw_below_drewN | apply below_drew1) | exact HB.out)) hb); clear HB; have HB := n0_; clear n0_; (try clear hb); (try clear hb2); (try clear hk); (try clear hi)))
                go_ret
                exact ⟨by first | rfl | (simp [errW_none, errW_some] <;> rfl) | (simp [*, errW_none, errW_some] <;> rfl), by repeat (first | (with_reducible first | exact HB.out | apply below_alloc | apply pw_below_drewN | apply below_drew1) | exact HB.out)⟩
               ·rw [if_neg c32] at H
                exact absurd H (by simp)
              ·rw [if_neg c31] at H
               exact absurd H (by simp)
             ·replace c30 := Bool.eq_false_iff.mpr c30
              subst c30
              have H1 : (some false) = some r := by rw [if_neg (show ¬ (false = true) by decide)] at H; exact H
              clear H
              have H := H1
              clear H1
              obtain rfl := Option.some.inj H
              go_wp2_with (first | ((with_reducible refine gate_callee (f := 9) rfl ?_); refine goesL_ (some 85) rfl rfl Try.func9 (by kernel_rfl) rfl #[.string (t260.extract 1 ((wrap64 ((t260.size : Int) - 1)) : Int).toNat)] rfl (by (try simp only [List.map_toArray, List.map_cons, List.map_nil]); first | done | rfl | (simp only [List.length_drop, List.length_take]; rfl)) ?_; (with_reducible refine (impl_FalseLetters.calls kj19 (t260.extract 1 ((wrap64 ((t260.size : Int) - 1)) : Int).toNat) t264 false _ A29.out).mono ?_); rintro e w34 ⟨rfl, hb⟩; refine ⟨_, rfl, ?_⟩; have n0_ := Aside0.mk (below_step (by repeat (first | (with_reducible first | exact HB.out | apply below_alloc | apply pw_below_drewN | apply below_drew1) | exact HB.out)) hb); clear HB; have HB := n0_; clear n0_; (try clear hb); (try clear hb2); (try clear hk); (try clear hi)))
              go_ret
              exact ⟨by first | rfl | (simp [errW_none, errW_some] <;> rfl) | (simp [*, errW_none, errW_some] <;> rfl), by repeat (first | (with_reducible first | exact HB.out | apply below_alloc | apply pw_below_drewN | apply below_drew1) | exact HB.out)⟩
            ·rw [if_neg c28] at H
             exact absurd H (by simp)
           ·rw [if_neg c27] at H
            exact absurd H (by simp)
          ·replace c26 := Bool.eq_false_iff.mpr c26
           subst c26
           have H1 : (some (t260.toList == ([] : List UInt8))) = some r := by rw [if_neg (show ¬ (false = true) by decide)] at H; exact H
           clear H
           have H := H1
           clear H1
           obtain rfl := Option.some.inj H
           go_wp2
           go_ret
           exact ⟨by first | rfl | (simp [errW_none, errW_some] <;> rfl) | (simp [*, errW_none, errW_some] <;> rfl), by repeat (first | (with_reducible first | exact HB.out | apply below_alloc | apply pw_below_drewN | apply below_drew1) | exact HB.out)⟩
  ·rw [if_neg c7] at H
   have c7b0 : (t253 == t254) = false := beq_eq_false_iff_ne.mpr c7
   have c7b1 : (t253 != t254) = true := bne_iff_ne.mpr c7
   obtain rfl := Option.some.inj H
   go_enter Try.func3, Try.ntmps3
   go_wp2_with (first | ((with_reducible refine gate_callee (f := 4) rfl ?_); refine goesL_ (some 26) rfl rfl Try.func4 (by kernel_rfl) rfl #[.slice A0 l0.length c0] rfl (by (try simp only [List.map_toArray, List.map_cons, List.map_nil]); first | done | rfl | (simp only [List.length_drop, List.length_take]; rfl)) ?_; (with_reducible refine (spec_DrawPluralOf.calls k _ _ l0 t251 t252 _ ?side1 ?side2 A4.out).mono ?_); (case side1 => repeat (first | exact HR0.out | (with_reducible refine Kd.C_alloc ?_ _) | (with_reducible refine Kd.C_drewN ?_ _) | (with_reducible refine Kd.C_drew ?_))); (case side2 => exact HC0.out); rintro e w35 ⟨rfl, hb⟩; refine ⟨_, rfl, ?_⟩; have n0_ := Aside0.mk (below_step (by repeat (first | (with_reducible first | exact HB.out | apply below_alloc | apply pw_below_drewN | apply below_drew1) | exact HB.out)) hb); clear HB; have HB := n0_; clear n0_; (try clear hb); (try clear hb2); (try clear hk); (try clear hi)) | ((with_reducible refine gate_callee (f := 5) rfl ?_); refine goesL_ (some 31) rfl rfl Try.func5 (by kernel_rfl) rfl #[.string t251, .int .i64 t252] rfl (by (try simp only [List.map_toArray, List.map_cons, List.map_nil]); first | done | rfl | (simp only [List.length_drop, List.length_take]; rfl)) ?_; (with_reducible refine (impl_PluralOf.calls t251 t252 t253 _ A5.out).mono ?_); rintro e w' ⟨rfl, ⟨nd, rfl⟩⟩; refine ⟨_, rfl, ?_⟩) | ((with_reducible refine gate_callee (f := 6) rfl ?_); refine goesL_ (some 35) rfl rfl Try.func6 (by kernel_rfl) rfl #[.string t251, .int .i64 t252] rfl (by (try simp only [List.map_toArray, List.map_cons, List.map_nil]); first | done | rfl | (simp only [List.length_drop, List.length_take]; rfl)) ?_; (with_reducible refine (spec_PluralOf.calls t251 t252 t254 _ A6.out).mono ?_); rintro e w' ⟨rfl, ⟨nd, rfl⟩⟩; refine ⟨_, rfl, ?_⟩))
   go_ret
   exact ⟨by first | rfl | (simp [errW_none, errW_some] <;> rfl) | (simp [*, errW_none, errW_some] <;> rfl), by repeat (first | (with_reducible first | exact HB.out | apply below_alloc | apply pw_below_drewN | apply below_drew1) | exact HB.out)⟩
def laws_FnWords.Pure : Prop := ∀ (l0 : List Int) (l1 : List Int), l0.length ≤ maxLen → l0.length * 1 ≤ 140737488351232 → (∀ x ∈ l0, (Lit.int .u8 x).wf = true) → l1.length ≤ maxLen → l1.length * 1 ≤ 140737488351232 → (∀ x ∈ l1, (Lit.int .u8 x).wf = true) → ∃ k, laws_FnWords.f k l0 l1 = some true
end Go.Proofs.Ytnacjhgpanedoag.PFnWords
namespace Go.Proofs.YtnacjhgpanedoagO
open Go.ChangeShapes Go.WideShapes Go.Proofs.YtnacjhgpanedoagW.PrintWords Go.RowKit
def InU8 (n : Int) : Prop := 0 ≤ n ∧ n ≤ 255
def Opens {α : Type} (P : Program) (t : TypeId) (d : Kd α) (g : α → Prop) : Prop :=
  ∀ {H : Type} (enc : TypeId × Value → H) (w : World) (fuel : Nat) (cs : List Value) (y : DataW H) (ps : List MemPlace),
    DataW.trod enc P w 0 (fun _ => true) true fuel t cs = some (y, ps) → (∀ n ∈ y.weights P t, n ≤ reachBytes) → ∃ x, d.K w x cs ∧ g x
theorem Opens.imp {α : Type} {P : Program} {t : TypeId} {d : Kd α} {g g' : α → Prop} (h : Opens P t d g) (k : ∀ x, g x → g' x) : Opens P t d g' := by
  intro H enc w fuel cs y ps ht hw
  obtain ⟨x, hx, hg⟩ := h enc w fuel cs y ps ht hw
  exact ⟨x, hx, k x hg⟩
theorem opens_int {P : Program} {t : TypeId} {k : IntKind} (ht : P.underlying t = some (.int k)) : Opens P t (Kd.int k) (fun n => (Lit.int k n).wf = true) := by
  intro H enc w fuel cs y ps h _
  obtain ⟨n, rfl, _, hw⟩ := DataW.trod_int ht h
  exact ⟨n, rfl, hw⟩
theorem wf_u8 {n : Int} (h : (Lit.int .u8 n).wf = true) : InU8 n := bounds_u8 h
theorem opens_u8 {P : Program} {t : TypeId} (ht : P.underlying t = some (.int .u8)) : Opens P t (Kd.int .u8) InU8 := Opens.imp (opens_int ht) fun _ h => wf_u8 h
theorem exists_list {α : Type} (p : Nat → α → Prop) : ∀ n : Nat, (∀ i, i < n → ∃ x, p i x) → ∃ xs : List α, xs.length = n ∧ ∀ i x, xs[i]? = some x → p i x
  | 0, _ => ⟨[], rfl, fun i x h => by simp at h⟩
  | n + 1, h => by
    obtain ⟨xs, hl, hx⟩ := exists_list p n (fun i hi => h i (by omega))
    obtain ⟨x, hp⟩ := h n (by omega)
    refine ⟨xs ++ [x], by simp [hl], fun i y hy => ?_⟩
    rcases Nat.lt_or_ge i xs.length with hi | hi
    · rw [List.getElem?_append_left hi] at hy
      exact hx i y hy
    · have : i = n := by
        have := (List.getElem?_eq_some_iff.1 hy).1
        rw [List.length_append, List.length_singleton] at this
        omega
      subst this
      rw [List.getElem?_append_right hi] at hy
      rw [hl] at hy
      simp at hy
      subst hy
      exact hp
theorem add_add (ad : Addr) (i j : Nat) : (ad.add i).add j = ad.add (i + j) := by
  unfold Addr.add
  by_cases h1 : i = 0 <;> by_cases h2 : j = 0 <;> simp [h1, h2, Nat.add_assoc]
theorem weightsAll_mem {H : Type} {P : Program} {e : TypeId} : ∀ {l : List (DataW H)} {d : DataW H}, d ∈ l → ∀ n ∈ d.weights P e, n ∈ DataW.weightsAll P e l
  | [], d, h, _, _ => by simp at h
  | x :: r, d, h, n, hn => by
    simp only [DataW.weightsAll, List.mem_append]
    rcases List.mem_cons.1 h with rfl | h
    · exact .inl hn
    · exact .inr (weightsAll_mem h n hn)
theorem opens_slice {α : Type} {P : Program} {t e : TypeId} {d : Kd α} {g : α → Prop} {B : Nat} (ht : P.underlying t = some (.slice e)) (hs : P.cellsOf e = d.sz) (hB : P.bytesOf e = B) (h : Opens P e d g) :
    Opens P t (Kd.slice e d) (fun xs => xs.length * B ≤ 140737488351232 ∧ ∀ x ∈ xs, g x) := by
  intro H enc w fuel cs y ps hy hw
  rcases DataW.trod_slice ht hy with ⟨rfl, _⟩ | ⟨a, len, cap, elems, rest, n, rfl, rfl, hx, _, hlc, hcm, hel, hget, _, _⟩
  · exact ⟨[], ⟨none, 0, rfl, Nat.le_refl _, Kd.C_nil d w⟩, by simp⟩
  · obtain ⟨rfl, _⟩ := Prod.mk.inj hx
    simp only [DataW.weights, ht] at hw
    have hlen : len * B ≤ 140737488351232 := by
      have := hw _ List.mem_cons_self
      simp only [List.length_map, hB] at this
      have h2 : len * B ≤ (elems.length + rest.length) * B := Nat.mul_le_mul_right _ (by omega)
      exact Nat.le_trans h2 this
    have key : ∀ i, i < len → ∃ x, (∃ c, c.length = d.sz ∧ d.K w x c ∧ ∀ j u, c[j]? = some u → w.cell? (a.add (i * d.sz + j)) = some u) ∧ g x := by
      intro i hi
      have hg := hget i hi
      rw [List.getElem?_eq_getElem (by omega), Option.bind_eq_some_iff] at hg
      obtain ⟨c, hc, hd⟩ := hg
      obtain ⟨_, hcl, hcell⟩ := World.cells?_some hc
      obtain ⟨x, hK, hgx⟩ := h enc w n c _ _ hd (fun m hm => hw m (List.mem_cons_of_mem _ (List.mem_append_left _ (weightsAll_mem (List.mem_map_of_mem (List.getElem_mem _)) m hm))))
      refine ⟨x, ⟨c, hcl.trans hs, hK, fun j u hj => ?_⟩, hgx⟩
      have hjl : j < P.cellsOf e := by
        have := (List.getElem?_eq_some_iff.1 hj).1
        omega
      have := hcell j hjl
      rw [add_add, hj, hs] at this
      exact this
    obtain ⟨xs, hxl, hxs⟩ := exists_list _ len key
    refine ⟨xs, ⟨some a, cap, by rw [hxl], by omega, hxl ▸ ⟨hxl, by simp only [maxLen] at hcm; omega, fun _ => ⟨a, rfl, fun j p hp => (hxs j p hp).1⟩⟩⟩, by rw [hxl]; exact hlen, fun x hx => ?_⟩
    obtain ⟨i, hi, rfl⟩ := List.getElem_of_mem hx
    exact (hxs i _ (List.getElem?_eq_getElem hi)).2
theorem weights_of {H : Type} {P : Program} {ts : List TypeId} {ds : List (DataW H)} {j : Nat} {t : TypeId} {d : DataW H} (hsz : (DataW.weightsEach P ts ds).all (· ≤ reachBytes) = true) (ht : ts[j]? = some t) (hd : ds[j]? = some d) : ∀ n ∈ d.weights P t, n ≤ reachBytes := by
  intro n hn
  have := List.all_eq_true.1 hsz n (DataW.weights_mem_each ht hd n hn)
  simpa using this
theorem open_slice {α H : Type} {enc : TypeId × Value → H} {P : Program} {W : World} {t e : TypeId} {d : Kd α} {g : List α → Prop} {a : Option Addr} {len cap : Nat} {y : DataW H} {ps : List MemPlace} (h : Opens P t (Kd.slice e d) g)
    (hy : DataW.Trod enc P W 0 (fun _ => true) true t (.slice a len cap) y ps) (hw : ∀ n ∈ y.weights P t, n ≤ reachBytes) : ∃ xs : List α, len = xs.length ∧ xs.length ≤ cap ∧ d.C W a xs.length xs ∧ g xs := by
  obtain ⟨fuel, hf⟩ := hy
  obtain ⟨xs, ⟨A, c, he, hl, hC⟩, hg⟩ := h enc W fuel _ y ps hf hw
  have he' : Value.slice a len cap = .slice A xs.length c := by simpa [Value.cells] using he
  injection he' with h1 h2 h3
  subst h1 h2 h3
  exact ⟨xs, rfl, hl, hC, hg⟩
end Go.Proofs.YtnacjhgpanedoagO
namespace Go.Proofs.Ytnacjhgpanedoag.OFnWords
open Go.RowKit Go.Proofs.Ytnacjhgpanedoag.PFnWords Go.Proofs.YtnacjhgpanedoagW.PrintWords Go.Proofs.YtnacjhgpanedoagO
end Go.Proofs.Ytnacjhgpanedoag.OFnWords
namespace Go.Proofs.YtnacjhgpanedoagO
open Go.RowKit Go.Proofs.YtnacjhgpanedoagW.PrintWords Go.Proofs.YtnacjhgpanedoagW.PrintLast Go.Proofs.YtnacjhgpanedoagW.PrintMore
theorem w64 {n : Int} (h : -9223372036854775808 ≤ n) (k : n ≤ 9223372036854775807) : wrap64 n = n := by unfold wrap64; omega
theorem w64s (i : Nat) (h : i < 4611686018427387904) : wrap64 ((i : Int) + 1) = ((i + 1 : Nat) : Int) := by unfold wrap64; omega
theorem ev_eq {α : Type} {x : Option α} {r : α} (h : x = some r) : Ev (fun _ => x) r := ⟨0, fun _ _ => h⟩
theorem ev_some {α : Type} {x r : α} (h : x = r) : Ev (fun _ => some x) r := ⟨0, fun _ _ => by rw [h]⟩
theorem ev_pos {α : Type} {c : Prop} [Decidable c] {f g : Nat → Option α} {r : α} (h : c) (k : Ev f r) : Ev (fun n => if c then f n else g n) r := by
  obtain ⟨K, hK⟩ := k
  exact ⟨K, fun n hn => (if_pos h).trans (hK n hn)⟩
theorem ev_neg {α : Type} {c : Prop} [Decidable c] {f g : Nat → Option α} {r : α} (h : ¬ c) (k : Ev g r) : Ev (fun n => if c then f n else g n) r := by
  obtain ⟨K, hK⟩ := k
  exact ⟨K, fun n hn => (if_neg h).trans (hK n hn)⟩
theorem ev_ite {α : Type} {c : Prop} [Decidable c] {f g : Nat → Option α} {r : α} (h : c → Ev f r) (k : ¬ c → Ev g r) : Ev (fun n => if c then f n else g n) r := by
  by_cases hc : c
  · exact ev_pos hc (h hc)
  · exact ev_neg hc (k hc)
theorem ev_bindc {α β : Type} {x : Option α} {f : Nat → α → Option β} {a : α} {r : β} (h : x = some a) (k : Ev (fun n => f n a) r) : Ev (fun n => x.bind (f n)) r := by
  subst h; exact k
theorem rd_get {xs : List Int} {i : Nat} (h : i < xs.length) : rd xs (i : Int) = xs[i] := by simp [rd, List.getD_eq_getElem?_getD, h]
theorem rdOf_get {α : Type} {d : α} {xs : List α} {i : Nat} (h : i < xs.length) : rdOf d xs (i : Int) = xs[i] := by simp [rdOf, List.getD_eq_getElem?_getD, h]
theorem wrap_u64 {n : Int} (h0 : 0 ≤ n) (h1 : n ≤ 18446744073709551615) : IntKind.u64.wrap n = n := by
  have e : IntKind.u64.wrap n = n % 18446744073709551616 := by simp only [IntKind.wrap, IntKind.bits, IntKind.signed]; rfl
  rw [e]; omega
def Chain {α : Type} (E : α → Int → Int → Prop) : List α → Int → Int → Prop
  | [], c, d => c = d
  | x :: r, c, d => ∃ m, E x c m ∧ Chain E r m d
theorem Chain.snoc {α : Type} {E : α → Int → Int → Prop} : ∀ {l : List α} {c m d : Int} {x : α}, Chain E l c m → E x m d → Chain E (l ++ [x]) c d
  | [], _, _, _, _, h, k => by cases h; exact ⟨_, k, rfl⟩
  | _ :: _, _, _, _, _, ⟨q, h1, h2⟩, k => ⟨q, h1, Chain.snoc h2 k⟩
end Go.Proofs.YtnacjhgpanedoagO
namespace Go.Proofs.Ytnacjhgpanedoag.Pure
open Go.RowKit Go Go.Proofs.Ytnacjhgpanedoag.PFnWords Go.Proofs.Ytnacjhgpanedoag.OFnWords Go.Proofs.YtnacjhgpanedoagW.PrintWords Go.Proofs.YtnacjhgpanedoagW.PrintLast Go.Proofs.YtnacjhgpanedoagW.PrintMore Go.Proofs.YtnacjhgpanedoagO
set_option linter.unusedVariables false
set_option linter.unusedSimpArgs false
theorem st_spec_DrawPluralOf_j0 {r : (ByteArray × Int)} {x5 : ByteArray} {x123000 : List Int} {x123001 : Int} {x123002 : Int} (h : Ev (fun _ => (spec_l1Cur_pick.f x123000 x123001 x123002 125).bind fun bt138 => ((spec_l1Cur_one.f x123000 bt138.2.1 bt138.2.2 6).bind fun bt141 => (if bt141.1 = true then ((spec_l1Cur_among.f x123000 bt141.2.1 bt141.2.2 (([(-1), 1000000000, 1000000001, 100, 101, 111, 112, 1012] : List Int))).bind fun bt147 => (some (x5, bt147.1))) else (some (x5, bt138.1))))) r) : Ev (fun k => spec_DrawPluralOf.j0 k x5 x123000 x123001 x123002) r := Ev.step (fun k => by rw [spec_DrawPluralOf.j0]) h
theorem st_spec_DrawFalseLetters_l0 {r : (ByteArray)} {x4 : ByteArray} {x5 : Int} {x188000 : List Int} {x188001 : Int} {x188002 : Int} (h : Ev (fun k => if x5 > 0 then ((spec_l1Cur_of.f x188000 x188001 x188002 (([(⟨#[72, 101, 108, 108, 111, 32]⟩ : ByteArray), (⟨#[97, 122]⟩ : ByteArray), (⟨#[123, 119, 104, 111, 125]⟩ : ByteArray), (⟨#[123]⟩ : ByteArray), (⟨#[125]⟩ : ByteArray), (⟨#[230, 151, 165]⟩ : ByteArray), (⟨#[78, 110]⟩ : ByteArray)] : List ByteArray))).bind fun bt194 => (if x4.size + bt194.1.size ≤ 9223372036854775807 then (spec_DrawFalseLetters.l0 k (x4 ++ bt194.1) (wrap64 (x5 - 1)) x188000 bt194.2.1 bt194.2.2) else (none))) else ((spec_l1Cur_one.f x188000 x188001 x188002 16).bind fun bt197 => (if bt197.1 = true then ((spec_l1Cur_of.f x188000 bt197.2.1 bt197.2.2 (([(⟨#[255]⟩ : ByteArray), (⟨#[239, 191, 189]⟩ : ByteArray), (⟨#[195]⟩ : ByteArray)] : List ByteArray))).bind fun bt203 => (if x4.size + bt203.1.size ≤ 9223372036854775807 then (some (x4 ++ bt203.1)) else (none))) else (some x4)))) r) : Ev (fun k => spec_DrawFalseLetters.l0 k x4 x5 x188000 x188001 x188002) r := Ev.step (fun k => by rw [spec_DrawFalseLetters.l0]) h
theorem st_slices_Index_int_int_l0 {r : (Int)} {x0 : List Int} {x1 : Int} {x7 : Int} {x8 : Int} (h : Ev (fun k => if x8 < x7 then (if 0 ≤ x8 then (if x8 < (x0.length : Int) then (if x1 = (rd x0 x8) then (some x8) else (slices_Index_int_int.l0 k x0 x1 x7 (wrap64 (x8 + 1)))) else (none)) else (none)) else (some (-1))) r) : Ev (fun k => slices_Index_int_int.l0 k x0 x1 x7 x8) r := Ev.step (fun k => by rw [slices_Index_int_int.l0]) h
theorem st_impl_turnedLetter_j0 {r : (Int)} {x0 : Int} {x3 : Bool} (h : Ev (fun _ => if x3 = true then (some (97 + (((((x0 - 97) % 256) + 13) % 256) % 26))) else (if x0 ≥ 65 then (if x0 ≤ 90 then (some (65 + (((((x0 - 65) % 256) + 13) % 256) % 26))) else (some x0)) else (some x0))) r) : Ev (fun k => impl_turnedLetter.j0 k x0 x3) r := Ev.step (fun k => by rw [impl_turnedLetter.j0]) h
theorem st_impl_FalseLetters_j0 {r : (ByteArray × Bool)} {x0 : ByteArray} {x14 : Bool} (h : Ev (fun k => if x14 = true then (some ((⟨#[]⟩ : ByteArray), false)) else (impl_FalseLetters.l0 k x0 (([91] : List Int)) 0)) r) : Ev (fun k => impl_FalseLetters.j0 k x0 x14) r := Ev.step (fun k => by rw [impl_FalseLetters.j0]) h
theorem st_impl_FalseLetters_l0 {r : (ByteArray × Bool)} {x0 : ByteArray} {x4 : List Int} {x5 : Int} (h : Ev (fun k => if x5 < (x0.size : Int) then (if 0 ≤ x5 then (if (bt x0 x5) = 123 then (if x5 ≤ (x0.size : Int) then ((strings_IndexByte.f (x0.extract (x5 : Int).toNat x0.size) 125).bind fun t218 => (if t218 > 0 then (if x5 ≤ (wrap64 ((wrap64 (x5 + t218)) + 1)) then (if (wrap64 ((wrap64 (x5 + t218)) + 1)) ≤ (x0.size : Int) then (if x4.length + (x0.extract (x5 : Int).toNat ((wrap64 ((wrap64 (x5 + t218)) + 1)) : Int).toNat).size < 140737488355328 then (impl_FalseLetters.l0 k x0 (x4 ++ bytesOf (x0.extract (x5 : Int).toNat ((wrap64 ((wrap64 (x5 + t218)) + 1)) : Int).toNat)) (wrap64 (x5 + (wrap64 (t218 + 1))))) else (none)) else (none)) else (none)) else ((impl_turnedLetter.f k (bt x0 x5)).bind fun t222 => (if x4.length < 140737488355328 then (impl_FalseLetters.l0 k x0 (x4 ++ [t222]) (wrap64 (x5 + 1))) else (none))))) else (none)) else ((impl_turnedLetter.f k (bt x0 x5)).bind fun t226 => (if x4.length < 140737488355328 then (impl_FalseLetters.l0 k x0 (x4 ++ [t226]) (wrap64 (x5 + 1))) else (none)))) else (none)) else (if x4.length < 140737488355328 then (some (strOfNums (x4 ++ [93]), true)) else (none))) r) : Ev (fun k => impl_FalseLetters.l0 k x0 x4 x5) r := Ev.step (fun k => by rw [impl_FalseLetters.l0]) h
theorem st_spec_l18Rune_j2 {r : (Int × Int)} {x0 : ByteArray} {x5 : Int} {x6 : Int} (h : Ev (fun k => if x5 = 0 then (spec_l18Rune.j3 k x0 x5 x6 true) else (spec_l18Rune.j3 k x0 x5 x6 (decide ((x0.size : Int) < x5)))) r) : Ev (fun k => spec_l18Rune.j2 k x0 x5 x6) r := Ev.step (fun k => by rw [spec_l18Rune.j2]) h
theorem st_spec_l18Rune_j3 {r : (Int × Int)} {x0 : ByteArray} {x5 : Int} {x6 : Int} {x51 : Bool} (h : Ev (fun k => if x51 = true then (some (65533, 1)) else (spec_l18Rune.l0 k x0 x5 x6 1)) r) : Ev (fun k => spec_l18Rune.j3 k x0 x5 x6 x51) r := Ev.step (fun k => by rw [spec_l18Rune.j3]) h
theorem st_spec_l18Rune_l0 {r : (Int × Int)} {x0 : ByteArray} {x5 : Int} {x6 : Int} {x7 : Int} (h : Ev (fun k => if x7 < x5 then (if 0 ≤ x7 then (if x7 < (x0.size : Int) then (if (bt x0 x7) < 128 then (some (65533, 1)) else (if (bt x0 x7) > 191 then (some (65533, 1)) else (spec_l18Rune.l0 k x0 x5 (wrap64 ((wrap64 ((wrap64 (x6 * 64)) + (wrap64 (bt x0 x7)))) - 128)) (wrap64 (x7 + 1))))) else (none)) else (none)) else (if x5 = 3 then (if x6 < 2048 then (some (65533, 1)) else ((spec_l1In.f x6 55296 57343).bind fun t230 => (if t230 = true then (some (65533, 1)) else (if x5 = 4 then ((spec_l1In.f x6 65536 1114111).bind fun t231 => (if t231 = true then (some (x6, x5)) else (some (65533, 1)))) else (some (x6, x5)))))) else (if x5 = 4 then ((spec_l1In.f x6 65536 1114111).bind fun t232 => (if t232 = true then (some (x6, x5)) else (some (65533, 1)))) else (some (x6, x5))))) r) : Ev (fun k => spec_l18Rune.l0 k x0 x5 x6 x7) r := Ev.step (fun k => by rw [spec_l18Rune.l0]) h
theorem st_spec_l18Rune_j0 {r : (Int × Int)} {x0 : ByteArray} {x4 : Int} {x5 : Int} {x6 : Int} {x14 : Bool} (h : Ev (fun k => if x14 = true then (spec_l18Rune.j2 k x0 2 (wrap64 ((wrap64 (x4)) - 192))) else (if x4 ≥ 224 then (spec_l18Rune.j1 k x0 x4 x5 x6 (decide (x4 ≤ 239))) else (spec_l18Rune.j1 k x0 x4 x5 x6 false))) r) : Ev (fun k => spec_l18Rune.j0 k x0 x4 x5 x6 x14) r := Ev.step (fun k => by rw [spec_l18Rune.j0]) h
theorem st_spec_l18Rune_j1 {r : (Int × Int)} {x0 : ByteArray} {x4 : Int} {x5 : Int} {x6 : Int} {x24 : Bool} (h : Ev (fun k => if x24 = true then (spec_l18Rune.j2 k x0 3 (wrap64 ((wrap64 (x4)) - 224))) else (if x4 ≥ 240 then (if x4 ≤ 244 then (spec_l18Rune.j2 k x0 4 (wrap64 ((wrap64 (x4)) - 240))) else (spec_l18Rune.j2 k x0 x5 x6)) else (spec_l18Rune.j2 k x0 x5 x6))) r) : Ev (fun k => spec_l18Rune.j1 k x0 x4 x5 x6 x24) r := Ev.step (fun k => by rw [spec_l18Rune.j1]) h
theorem st_spec_RunesOf_l0 {r : (List Int × Bool)} {x0 : ByteArray} {x4 : List Int} {x5 : Int} (h : Ev (fun k => if x5 < (x0.size : Int) then (if 0 ≤ x5 then (if x5 ≤ (x0.size : Int) then ((spec_l18Rune.f k (x0.extract (x5 : Int).toNat x0.size)).bind fun bt233 => (if x4.length < 17592186044416 then (spec_RunesOf.l0 k x0 (x4 ++ [bt233.1]) (wrap64 (x5 + bt233.2))) else (none))) else (none)) else (none)) else (some (x4, true))) r) : Ev (fun k => spec_RunesOf.l0 k x0 x4 x5) r := Ev.step (fun k => by rw [spec_RunesOf.l0]) h
theorem st_spec_FalseLetters_l0 {r : (ByteArray × Bool)} {x0 : ByteArray} {x20 : List Int} {x21 : Int} {x22 : Int} (h : Ev (fun k => if x22 < x21 then (if 0 ≤ x22 then (if x22 < (x20.length : Int) then (if (rd x20 x22) = 65533 then (some ((⟨#[]⟩ : ByteArray), false)) else (spec_FalseLetters.l0 k x0 x20 x21 (wrap64 (x22 + 1)))) else (none)) else (none)) else (if x0.size < 140737488355328 then (spec_FalseLetters.l1 k (bytesOf x0) 0) else (none))) r) : Ev (fun k => spec_FalseLetters.l0 k x0 x20 x21 x22) r := Ev.step (fun k => by rw [spec_FalseLetters.l0]) h
theorem st_spec_FalseLetters_l1 {r : (ByteArray × Bool)} {x8 : List Int} {x9 : Int} (h : Ev (fun k => if x9 < (x8.length : Int) then (if 0 ≤ x9 then (if (rd x8 x9) = 123 then (spec_FalseLetters.l2 k x8 x9 x9) else (if (rd x8 x9) ≥ 97 then (spec_FalseLetters.j3 k x8 x9 (rd x8 x9) (decide ((rd x8 x9) ≤ 122))) else (spec_FalseLetters.j3 k x8 x9 (rd x8 x9) false))) else (none)) else (if 1 + (strOfNums x8).size ≤ 9223372036854775807 then (if ((⟨#[91]⟩ : ByteArray) ++ (strOfNums x8)).size + 1 ≤ 9223372036854775807 then (some (((⟨#[91]⟩ : ByteArray) ++ (strOfNums x8)) ++ (⟨#[93]⟩ : ByteArray), true)) else (none)) else (none))) r) : Ev (fun k => spec_FalseLetters.l1 k x8 x9) r := Ev.step (fun k => by rw [spec_FalseLetters.l1]) h
theorem st_spec_FalseLetters_l2 {r : (ByteArray × Bool)} {x8 : List Int} {x9 : Int} {x11 : Int} (h : Ev (fun k => if x11 < (x8.length : Int) then (if 0 ≤ x11 then (if (rd x8 x11) = 125 then (spec_FalseLetters.l1 k x8 (wrap64 (x11 + 1))) else (spec_FalseLetters.l2 k x8 x9 (wrap64 (x11 + 1)))) else (none)) else (spec_FalseLetters.l1 k x8 (wrap64 (x9 + 1)))) r) : Ev (fun k => spec_FalseLetters.l2 k x8 x9 x11) r := Ev.step (fun k => by rw [spec_FalseLetters.l2]) h
theorem st_spec_FalseLetters_j3 {r : (ByteArray × Bool)} {x8 : List Int} {x9 : Int} {x10 : Int} {x67 : Bool} (h : Ev (fun k => if x67 = true then (if 0 ≤ x9 then (if x9 < (x8.length : Int) then ((some (x8.set (x9 : Int).toNat (97 + (((((x10 - 97) % 256) + 13) % 256) % 26)) : List Int)).bind fun y248 => (if x10 ≥ 65 then (if x10 ≤ 90 then (spec_FalseLetters.l1 k (y248.set (x9 : Int).toNat (65 + (((((x10 - 65) % 256) + 13) % 256) % 26))) (wrap64 (x9 + 1))) else (spec_FalseLetters.l1 k y248 (wrap64 (x9 + 1)))) else (spec_FalseLetters.l1 k y248 (wrap64 (x9 + 1))))) else (none)) else (none)) else (if x10 ≥ 65 then (if x10 ≤ 90 then (if 0 ≤ x9 then (if x9 < (x8.length : Int) then (spec_FalseLetters.l1 k (x8.set (x9 : Int).toNat (65 + (((((x10 - 65) % 256) + 13) % 256) % 26))) (wrap64 (x9 + 1))) else (none)) else (none)) else (spec_FalseLetters.l1 k x8 (wrap64 (x9 + 1)))) else (spec_FalseLetters.l1 k x8 (wrap64 (x9 + 1))))) r) : Ev (fun k => spec_FalseLetters.j3 k x8 x9 x10 x67) r := Ev.step (fun k => by rw [spec_FalseLetters.j3]) h
theorem st_laws_FnWords_l0 {r : (Bool)} {x1 : List Int} {x7 : Int} {x8 : Bool} {x38 : List Int} {x39 : Int} {x40 : Int} (h : Ev (fun k => if x40 < x39 then (if 0 ≤ x40 then (if x40 < (x38.length : Int) then (if x8 = true then (laws_FnWords.l0 k x1 x7 true x38 x39 (wrap64 (x40 + 1))) else (laws_FnWords.l0 k x1 x7 ((rd x38 x40) == x7) x38 x39 (wrap64 (x40 + 1)))) else (none)) else (none)) else (if (x8 != (decide (x7 > 0))) = true then (some false) else ((spec_DrawFalseLetters.f k x1).bind fun t259 => ((impl_FalseLetters.f k t259).bind fun bt260 => ((spec_FalseLetters.f k t259).bind fun bt262 => (if (bt260.2 != bt262.2) = true then (laws_FnWords.j1 k t259 bt260.1 bt260.2 true) else (laws_FnWords.j1 k t259 bt260.1 bt260.2 (bt260.1.toList != bt262.1.toList)))))))) r) : Ev (fun k => laws_FnWords.l0 k x1 x7 x8 x38 x39 x40) r := Ev.step (fun k => by rw [laws_FnWords.l0]) h
theorem st_laws_FnWords_j1 {r : (Bool)} {x11 : ByteArray} {x12 : ByteArray} {x13 : Bool} {x74 : Bool} (h : Ev (fun k => if x74 = true then (some false) else (if x13 = true then (if 1 ≤ (wrap64 ((x12.size : Int) - 1)) then (if (wrap64 ((x12.size : Int) - 1)) ≤ (x12.size : Int) then ((impl_FalseLetters.f k (x12.extract 1 ((wrap64 ((x12.size : Int) - 1)) : Int).toNat)).bind fun bt264 => (if bt264.2 = true then (if 1 + x11.size ≤ 9223372036854775807 then (if ((⟨#[91]⟩ : ByteArray) ++ x11).size + 1 ≤ 9223372036854775807 then (some (bt264.1.toList == (((⟨#[91]⟩ : ByteArray) ++ x11) ++ (⟨#[93]⟩ : ByteArray)).toList)) else (none)) else (none)) else (some false))) else (none)) else (none)) else (some (x12.toList == ([] : List UInt8))))) r) : Ev (fun k => laws_FnWords.j1 k x11 x12 x13 x74) r := Ev.step (fun k => by rw [laws_FnWords.j1]) h
theorem inr_some (a b c : Int) : impl_inRange.f a b c = some (decide (b ≤ a ∧ a ≤ c)) := by
  unfold impl_inRange.f
  split <;> simp_all <;> omega
theorem in_some (a b c : Int) : spec_l1In.f a b c = some (decide (b ≤ a ∧ a ≤ c)) := by
  unfold spec_l1In.f
  split <;> simp_all <;> omega
def formsL (L : List UInt8) : List Int := if L = [101, 110] ∨ L = [102, 114] then [1, 5] else if L = [106, 97] then [5] else if L = [99, 115] then [1, 3, 5] else if L = [112, 108] ∨ L = [114, 117] then [1, 3, 4] else if L = [97, 114] then [1, 2, 3, 4, 5] else []
theorem forms_some (g : ByteArray) : Ev (fun k => impl_FormsOf.f k g) (formsL g.toList) := by
  unfold formsL
  generalize hL : g.toList = L
  refine ⟨2, fun k hk => ?_⟩
  obtain ⟨k, rfl⟩ : ∃ m, k = m + 2 := ⟨k - 2, by omega⟩
  show impl_FormsOf.f (k + 2) g = _
  unfold impl_FormsOf.f
  rw [hL]
  by_cases h1 : L = [101, 110]
  · simp [h1, impl_FormsOf.j0]
  by_cases h2 : L = [102, 114]
  · simp [h2, impl_FormsOf.j0]
  by_cases h3 : L = [106, 97]
  · simp [h3, hL, impl_FormsOf.j0]
  by_cases h4 : L = [99, 115]
  · simp [h4, hL, impl_FormsOf.j0]
  by_cases h5 : L = [112, 108]
  · simp [h5, hL, impl_FormsOf.j0, impl_FormsOf.j1]
  by_cases h6 : L = [114, 117]
  · simp [h6, hL, impl_FormsOf.j0, impl_FormsOf.j1]
  by_cases h7 : L = [97, 114]
  · simp [h7, hL, impl_FormsOf.j0, impl_FormsOf.j1]
  simp [h1, h2, h3, h4, h5, h6, h7, hL, impl_FormsOf.j0, impl_FormsOf.j1]
theorem plural_of (g : ByteArray) (n : Int) : ∃ p, impl_PluralOf.f g n = some p ∧ spec_PluralOf.f g n = some p ∧ ((formsL g.toList).any (· == p)) = decide (p > 0) := by
  unfold formsL impl_PluralOf.f spec_PluralOf.f impl_isCount.f
  simp only [inr_some, in_some, Option.bind_some, impl_one.f, impl_slavic.f, impl_arabic.f, spec_l19Slavic.f]
  generalize g.toList = L
  by_cases hr : 0 ≤ n ∧ n ≤ 1000000000
  · rw [decide_eq_true hr]
    have e100 : Int.tmod n 100 = n % 100 := Int.tmod_eq_emod_of_nonneg hr.1
    have e10 : Int.tmod n 10 = n % 10 := Int.tmod_eq_emod_of_nonneg hr.1
    rw [e100, e10]
    simp only [if_true]
    by_cases h1 : L = [101, 110]
    · subst h1
      by_cases hn : n = 1 <;> simp [hn]
    by_cases h2 : L = [102, 114]
    · subst h2
      by_cases hn : n ≤ 1 <;> simp [hn]
    by_cases h3 : L = [106, 97]
    · subst h3
      exact ⟨5, by simp⟩
    by_cases h4 : L = [99, 115]
    · subst h4
      by_cases hn : n = 1
      · subst hn; exact ⟨1, by simp⟩
      · by_cases h24 : 2 ≤ n ∧ n ≤ 4
        · exact ⟨3, by simp [hn, h24]⟩
        · refine ⟨5, ?_⟩
          rw [decide_eq_false h24]
          simp [hn]
    by_cases h5 : L = [112, 108]
    · subst h5
      by_cases hn : n = 1
      · subst hn; exact ⟨1, by simp⟩
      · by_cases ha : 2 ≤ n % 10 ∧ n % 10 ≤ 4
        · by_cases hb : 12 ≤ n % 100 ∧ n % 100 ≤ 14
          · exact ⟨4, by simp [hn, ha, hb]⟩
          · refine ⟨3, ?_⟩
            rw [decide_eq_true ha, decide_eq_false hb]
            simp [hn]
        · refine ⟨4, ?_⟩
          rw [decide_eq_false ha]
          simp [hn]
    by_cases h6 : L = [114, 117]
    · subst h6
      by_cases hn : n % 10 = 1
      · have ha : ¬ (2 ≤ n % 10 ∧ n % 10 ≤ 4) := by omega
        rw [decide_eq_false ha]
        by_cases hm : n % 100 = 11
        · exact ⟨4, by simp [hn, hm]⟩
        · exact ⟨1, by simp [hn, hm]⟩
      · by_cases ha : 2 ≤ n % 10 ∧ n % 10 ≤ 4
        · by_cases hb : 12 ≤ n % 100 ∧ n % 100 ≤ 14
          · exact ⟨4, by simp [hn, ha, hb]⟩
          · refine ⟨3, ?_⟩
            rw [decide_eq_true ha, decide_eq_false hb]
            simp [hn]
        · refine ⟨4, ?_⟩
          rw [decide_eq_false ha]
          simp [hn]
    by_cases h7 : L = [97, 114]
    · subst h7
      by_cases hn : n = 1
      · subst hn; exact ⟨1, by simp⟩
      by_cases hn2 : n = 2
      · subst hn2; exact ⟨2, by simp⟩
      by_cases ha : 3 ≤ n % 100 ∧ n % 100 ≤ 10
      · exact ⟨3, by simp [hn, hn2, ha]⟩
      · by_cases hb : n % 100 > 10
        · have hc : 11 ≤ n % 100 ∧ n % 100 ≤ 99 := by omega
          refine ⟨4, ?_⟩
          rw [decide_eq_false ha, decide_eq_true hc]
          simp [hn, hn2]
          omega
        · have hc : ¬ (11 ≤ n % 100 ∧ n % 100 ≤ 99) := by omega
          refine ⟨5, ?_⟩
          rw [decide_eq_false ha, decide_eq_false hc]
          simp [hn, hn2]
          omega
    exact ⟨0, by simp [h1, h2, h3, h4, h5, h6, h7]⟩
  · rw [decide_eq_false hr]
    refine ⟨0, by simp, by simp, ?_⟩
    repeat' split
    all_goals simp
theorem bt_nat (s : ByteArray) (i : Nat) (h : i < s.size) : bt s (i : Int) = ((s.get! i).toNat : Int) := by
  have hh : ((i : Int)).toNat < s.size := h
  unfold bt
  rw [dif_pos hh]
  simp [ByteArray.get!, getElem!_pos, h]
  rfl
theorem bt_ext_nat (s : ByteArray) (a j : Nat) (h : a + j < s.size) : bt (s.extract a s.size) (j : Int) = ((s.get! (a + j)).toNat : Int) := by
  have hz : (s.extract a s.size).size = s.size - a := by rw [ByteArray.size_extract]; omega
  have hj : ((j : Int)).toNat < (s.extract a s.size).size := by rw [hz]; show j < _; omega
  unfold bt
  rw [dif_pos hj]
  have e : (s.extract a s.size)[j]'(by rw [hz]; omega) = s[a + j]'h := by rw [ByteArray.getElem_extract]
  have e2 : s.get! (a + j) = s[a + j]'h := by
    simp [ByteArray.get!, getElem!_pos, h]
    rfl
  rw [e2]
  exact congrArg (fun x : UInt8 => ((x.toNat : Nat) : Int)) e
def dec (m b0 b1 b2 b3 : Nat) : Nat × Nat :=
  if b0 < 128 then (b0, 1)
  else if b0 / 32 == 6 && (decide (1 < m) && b1 / 64 == 2) then
    if (b0 % 32) * 64 + b1 % 64 ≥ 128 then ((b0 % 32) * 64 + b1 % 64, 2) else (65533, 1)
  else if b0 / 16 == 14 && (decide (1 < m) && b1 / 64 == 2) && (decide (2 < m) && b2 / 64 == 2) then
    if (b0 % 16) * 4096 + (b1 % 64) * 64 + b2 % 64 ≥ 2048 && Utf8.valid (((b0 % 16) * 4096 + (b1 % 64) * 64 + b2 % 64 : Nat) : Int) then ((b0 % 16) * 4096 + (b1 % 64) * 64 + b2 % 64, 3) else (65533, 1)
  else if b0 / 8 == 30 && (decide (1 < m) && b1 / 64 == 2) && (decide (2 < m) && b2 / 64 == 2) && (decide (3 < m) && b3 / 64 == 2) then
    if (b0 % 8) * 262144 + (b1 % 64) * 4096 + (b2 % 64) * 64 + b3 % 64 ≥ 65536 && Utf8.valid (((b0 % 8) * 262144 + (b1 % 64) * 4096 + (b2 % 64) * 64 + b3 % 64 : Nat) : Int) then ((b0 % 8) * 262144 + (b1 % 64) * 4096 + (b2 % 64) * 64 + b3 % 64, 4) else (65533, 1)
  else (65533, 1)
theorem decode_dec (s : ByteArray) (a : Nat) (h : a < s.size) : Utf8.decode s a = dec (s.size - a) (s.get! a).toNat (s.get! (a + 1)).toNat (s.get! (a + 2)).toNat (s.get! (a + 3)).toNat := by
  have e1 : decide (a + 1 < s.size) = decide (1 < s.size - a) := decide_eq_decide.2 (by omega)
  have e2 : decide (a + 2 < s.size) = decide (2 < s.size - a) := decide_eq_decide.2 (by omega)
  have e3 : decide (a + 3 < s.size) = decide (3 < s.size - a) := decide_eq_decide.2 (by omega)
  unfold Utf8.decode dec
  simp only [e1, e2, e3, Nat.add_zero, Utf8.runeError]
def runeEnd (n x : Int) : Int × Int := if (n = 3 ∧ (x < 2048 ∨ (55296 ≤ x ∧ x ≤ 57343))) ∨ (n = 4 ∧ ¬ (65536 ≤ x ∧ x ≤ 1114111)) then (65533, 1) else (x, n)
theorem rune_end (t : ByteArray) (n x : Int) : Ev (fun k => spec_l18Rune.l0 k t n x n) (runeEnd n x) := by
  refine st_spec_l18Rune_l0 (ev_neg (by omega) ?_)
  unfold runeEnd
  simp only [in_some, Option.bind_some]
  refine ev_eq ?_
  by_cases h3 : n = 3
  · subst h3
    by_cases hx : x < 2048
    · simp [hx]
    · by_cases hs : 55296 ≤ x ∧ x ≤ 57343
      · simp [hs]
      · rw [decide_eq_false hs]
        simp [hx, hs]
  · by_cases h4 : n = 4
    · subst h4
      by_cases hs : 65536 ≤ x ∧ x ≤ 1114111
      · simp [hs]
      · rw [decide_eq_false hs]
        simp [hs]
    · simp [h3, h4]
theorem rune_stop (t : ByteArray) (n x : Int) (i : Nat) (hi : (i : Int) < n) (hm : i < t.size) (hb : bt t (i : Int) < 128 ∨ bt t (i : Int) > 191) : Ev (fun k => spec_l18Rune.l0 k t n x (i : Int)) (65533, 1) := by
  refine st_spec_l18Rune_l0 (ev_pos hi (ev_pos (by omega) (ev_pos (by omega) ?_)))
  by_cases h1 : bt t (i : Int) < 128
  · exact ev_pos h1 (ev_some rfl)
  · exact ev_neg h1 (ev_pos (by omega) (ev_some rfl))
theorem rune_next (t : ByteArray) (n x x' : Int) (i : Nat) (hi : (i : Int) < n) (hm : i < t.size) (hx : 0 ≤ x) (hx2 : x ≤ 10000000) (hb : ¬ (bt t (i : Int) < 128 ∨ bt t (i : Int) > 191)) (e : x' = x * 64 + bt t (i : Int) - 128) (hi4 : i ≤ 4) {r : Int × Int} (h : Ev (fun k => spec_l18Rune.l0 k t n x' ((i + 1 : Nat) : Int)) r) : Ev (fun k => spec_l18Rune.l0 k t n x (i : Int)) r := by
  refine st_spec_l18Rune_l0 (ev_pos hi (ev_pos (by omega) (ev_pos (by omega) (ev_neg (fun h => hb (.inl h)) (ev_neg (fun h => hb (.inr h)) ?_)))))
  have hbr := bt_range t (i : Int)
  rw [w64s i (by omega), w64 (n := bt t (i : Int)) (by omega) (by omega), w64 (n := x * 64) (by omega) (by omega), w64 (n := x * 64 + bt t (i : Int)) (by omega) (by omega), w64 (by omega) (by omega), ← e]
  exact h
theorem end3 (c : Nat) : ((((if (decide (c ≥ 2048) && Utf8.valid (c : Int)) = true then (c, 3) else (65533, 1) : Nat × Nat).1 : Nat) : Int), (((if (decide (c ≥ 2048) && Utf8.valid (c : Int)) = true then (c, 3) else (65533, 1) : Nat × Nat).2 : Nat) : Int)) = if c ≤ 1114111 then runeEnd 3 (c : Int) else (65533, 1) := by
  unfold runeEnd Utf8.valid
  by_cases h1 : c < 2048
  · have : (c : Int) < 2048 := by omega
    have h2 : ¬ 2048 ≤ c := by omega
    simp [this, h2]
  · have h2 : 2048 ≤ c := by omega
    have h3 : ¬ (c : Int) < 2048 := by omega
    by_cases hs : 55296 ≤ (c : Int) ∧ (c : Int) ≤ 57343
    · have a1 : ¬ ((c : Int) < 55296) := by omega
      have a2 : ¬ (57344 ≤ (c : Int)) := by omega
      simp [hs, a1, a2]
    · by_cases hm : c ≤ 1114111
      · have a1 : ((c : Int) < 55296) ∨ (57344 ≤ (c : Int)) := by omega
        have a3 : (c : Int) ≤ 1114111 := by omega
        rcases a1 with a1 | a1
        · have a2 : ¬ (55296 ≤ (c : Int)) := by omega
          simp [h2, h3, hm, a1, a2]
        · have a2 : ¬ ((c : Int) ≤ 57343) := by omega
          simp [h2, h3, hm, a1, a2, a3]
      · have a1 : ¬ ((c : Int) < 55296) := by omega
        have a3 : ¬ ((c : Int) ≤ 1114111) := by omega
        simp [hm, a1, a3]
theorem end4 (c : Nat) : ((((if (decide (c ≥ 65536) && Utf8.valid (c : Int)) = true then (c, 4) else (65533, 1) : Nat × Nat).1 : Nat) : Int), (((if (decide (c ≥ 65536) && Utf8.valid (c : Int)) = true then (c, 4) else (65533, 1) : Nat × Nat).2 : Nat) : Int)) = runeEnd 4 (c : Int) := by
  unfold runeEnd Utf8.valid
  by_cases h1 : 65536 ≤ c
  · have a1 : ¬ ((c : Int) < 55296) := by omega
    have a2 : (57344 ≤ (c : Int)) := by omega
    have a4 : (65536 ≤ (c : Int)) := by omega
    by_cases hm : (c : Int) ≤ 1114111
    · simp [h1, a1, a2, a4, hm]
    · simp [h1, a1, a2, a4, hm]
  · have a4 : ¬ (65536 ≤ (c : Int)) := by omega
    simp [h1, a4]
theorem rune_dec (t : ByteArray) (b0 b1 b2 b3 : Nat) (hm : 0 < t.size) (l0 : b0 < 256) (l1 : b1 < 256) (l2 : b2 < 256) (l3 : b3 < 256) (e0 : bt t 0 = (b0 : Int)) (e1 : 1 < t.size → bt t 1 = (b1 : Int)) (e2 : 2 < t.size → bt t 2 = (b2 : Int)) (e3 : 3 < t.size → bt t 3 = (b3 : Int)) :
    Ev (fun k => spec_l18Rune.f k t) (((dec t.size b0 b1 b2 b3).1 : Int), ((dec t.size b0 b1 b2 b3).2 : Int)) := by
  have hm' : (0 : Int) < (t.size : Int) := by omega
  refine ev_pos hm' ?_
  rw [e0]
  by_cases h1 : b0 < 128
  · refine ev_pos (by omega) (ev_some ?_)
    rw [w64 (by omega) (by omega)]
    simp [dec, h1]
  refine ev_neg (by omega) ?_
  by_cases h2 : b0 < 194
  · have hd : dec t.size b0 b1 b2 b3 = (65533, 1) := by
      unfold dec
      rw [if_neg h1]
      have a2 : (b0 / 16 == 14) = false := by simp; omega
      have a3 : (b0 / 8 == 30) = false := by simp; omega
      rw [a2, a3]
      simp only [Bool.false_and, Bool.false_eq_true, if_false]
      split
      · rename_i hc
        have hc1 : b0 / 32 = 6 := by simp at hc; exact hc.1
        have hc2 : b1 / 64 = 2 := by simp at hc; exact hc.2.2
        rw [if_neg (by omega)]
      · rfl
    rw [hd]
    refine ev_neg (by omega) (st_spec_l18Rune_j0 (ev_neg (by decide) (ev_neg (by omega) (st_spec_l18Rune_j1 (ev_neg (by decide) (ev_neg (by omega) (st_spec_l18Rune_j2 (ev_pos rfl (st_spec_l18Rune_j3 (ev_pos rfl (ev_some rfl)))))))))))
  refine ev_pos (by omega) ?_
  by_cases h3 : b0 ≤ 223
  · rw [decide_eq_true (by omega)]
    refine st_spec_l18Rune_j0 (ev_pos rfl ?_)
    rw [w64 (n := (b0 : Int)) (by omega) (by omega), w64 (by omega) (by omega)]
    refine st_spec_l18Rune_j2 (ev_neg (by decide) ?_)
    have a2 : (b0 / 16 == 14) = false := by simp; omega
    have a3 : (b0 / 8 == 30) = false := by simp; omega
    have a1 : (b0 / 32 == 6) = true := by simp; omega
    by_cases hs : t.size < 2
    · rw [decide_eq_true (by omega)]
      have hd : dec t.size b0 b1 b2 b3 = (65533, 1) := by
        unfold dec
        rw [if_neg h1, a1, a2, a3, decide_eq_false (show ¬ 1 < t.size by omega)]
        simp
      rw [hd]
      exact st_spec_l18Rune_j3 (ev_pos rfl (ev_some rfl))
    · rw [decide_eq_false (by omega)]
      refine st_spec_l18Rune_j3 (ev_neg (by decide) ?_)
      have e1 := e1 (by omega)
      by_cases hb : b1 / 64 = 2
      · have hd : dec t.size b0 b1 b2 b3 = ((b0 % 32) * 64 + b1 % 64, 2) := by
          unfold dec
          rw [if_neg h1, a1, decide_eq_true (show 1 < t.size by omega)]
          simp only [hb, beq_self_eq_true, Bool.and_self, if_true]
          rw [if_pos (by omega)]
        rw [hd]
        refine rune_next t 2 ((b0 : Int) - 192) (((b0 % 32) * 64 + b1 % 64 : Nat) : Int) 1 (by omega) (by omega) (by omega) (by omega) (by rw [show ((1 : Nat) : Int) = 1 from rfl, e1]; omega) (by rw [show ((1 : Nat) : Int) = 1 from rfl, e1]; omega) (by omega) ?_
        have := rune_end t 2 (((b0 % 32) * 64 + b1 % 64 : Nat) : Int)
        simpa [runeEnd] using this
      · have hd : dec t.size b0 b1 b2 b3 = (65533, 1) := by
          have a4 : (b1 / 64 == 2) = false := by simpa using hb
          unfold dec
          rw [if_neg h1, a1, a2, a3, a4]
          simp
        rw [hd]
        exact rune_stop t 2 _ 1 (by omega) (by omega) (by rw [show ((1 : Nat) : Int) = 1 from rfl, e1]; omega)
  rw [decide_eq_false (by omega)]
  refine st_spec_l18Rune_j0 (ev_neg (by decide) (ev_pos (by omega) ?_))
  have a1 : (b0 / 32 == 6) = false := by simp; omega
  by_cases h4 : b0 ≤ 239
  · rw [decide_eq_true (by omega)]
    refine st_spec_l18Rune_j1 (ev_pos rfl ?_)
    rw [w64 (n := (b0 : Int)) (by omega) (by omega), w64 (by omega) (by omega)]
    refine st_spec_l18Rune_j2 (ev_neg (by decide) ?_)
    have a2 : (b0 / 16 == 14) = true := by simp; omega
    have a3 : (b0 / 8 == 30) = false := by simp; omega
    by_cases hs : t.size < 3
    · rw [decide_eq_true (by omega)]
      have hd : dec t.size b0 b1 b2 b3 = (65533, 1) := by
        unfold dec
        rw [if_neg h1, a1, a2, a3, decide_eq_false (show ¬ 2 < t.size by omega)]
        simp
      rw [hd]
      exact st_spec_l18Rune_j3 (ev_pos rfl (ev_some rfl))
    rw [decide_eq_false (by omega)]
    refine st_spec_l18Rune_j3 (ev_neg (by decide) ?_)
    have e1 := e1 (by omega)
    have e2 := e2 (by omega)
    by_cases hb : b1 / 64 = 2
    · refine rune_next t 3 ((b0 : Int) - 224) (((b0 % 16) * 64 + b1 % 64 : Nat) : Int) 1 (by omega) (by omega) (by omega) (by omega) (by rw [show ((1 : Nat) : Int) = 1 from rfl, e1]; omega) (by rw [show ((1 : Nat) : Int) = 1 from rfl, e1]; omega) (by omega) ?_
      by_cases hb2 : b2 / 64 = 2
      · refine rune_next t 3 _ (((b0 % 16) * 4096 + (b1 % 64) * 64 + b2 % 64 : Nat) : Int) 2 (by omega) (by omega) (by omega) (by omega) (by rw [show ((2 : Nat) : Int) = 2 from rfl, e2]; omega) (by rw [show ((2 : Nat) : Int) = 2 from rfl, e2]; omega) (by omega) ?_
        have hr := rune_end t 3 (((b0 % 16) * 4096 + (b1 % 64) * 64 + b2 % 64 : Nat) : Int)
        obtain ⟨c, hc⟩ : ∃ c, c = (b0 % 16) * 4096 + (b1 % 64) * 64 + b2 % 64 := ⟨_, rfl⟩
        rw [← hc] at hr ⊢
        have hd : dec t.size b0 b1 b2 b3 = if (decide (c ≥ 2048) && Utf8.valid (c : Int)) = true then (c, 3) else (65533, 1) := by
          unfold dec
          rw [if_neg h1, a1, a2, decide_eq_true (show 1 < t.size by omega), decide_eq_true (show 2 < t.size by omega), hb, hb2, ← hc]
          rfl
        rw [hd, end3, if_pos (by omega)]
        exact hr
      · have hd : dec t.size b0 b1 b2 b3 = (65533, 1) := by
          have a4 : (b2 / 64 == 2) = false := by simpa using hb2
          unfold dec
          rw [if_neg h1, a1, a3, a4]
          simp
        rw [hd]
        exact rune_stop t 3 _ 2 (by omega) (by omega) (by rw [show ((2 : Nat) : Int) = 2 from rfl, e2]; omega)
    · have hd : dec t.size b0 b1 b2 b3 = (65533, 1) := by
        have a4 : (b1 / 64 == 2) = false := by simpa using hb
        unfold dec
        rw [if_neg h1, a1, a3, a4]
        simp
      rw [hd]
      exact rune_stop t 3 _ 1 (by omega) (by omega) (by rw [show ((1 : Nat) : Int) = 1 from rfl, e1]; omega)
  rw [decide_eq_false (by omega)]
  have a2 : (b0 / 16 == 14) = false := by simp; omega
  refine st_spec_l18Rune_j1 (ev_neg (by decide) (ev_pos (by omega) ?_))
  by_cases h5 : b0 ≤ 244
  · refine ev_pos (by omega) ?_
    rw [w64 (n := (b0 : Int)) (by omega) (by omega), w64 (by omega) (by omega)]
    refine st_spec_l18Rune_j2 (ev_neg (by decide) ?_)
    have a3 : (b0 / 8 == 30) = true := by simp; omega
    by_cases hs : t.size < 4
    · rw [decide_eq_true (by omega)]
      have hd : dec t.size b0 b1 b2 b3 = (65533, 1) := by
        unfold dec
        rw [if_neg h1, a1, a2, a3, decide_eq_false (show ¬ 3 < t.size by omega)]
        simp
      rw [hd]
      exact st_spec_l18Rune_j3 (ev_pos rfl (ev_some rfl))
    rw [decide_eq_false (by omega)]
    refine st_spec_l18Rune_j3 (ev_neg (by decide) ?_)
    have e1 := e1 (by omega)
    have e2 := e2 (by omega)
    have e3 := e3 (by omega)
    have stop : ∀ i bi : Nat, i < 4 → 1 ≤ i → bt t (i : Int) = (bi : Int) → bi < 256 → ¬ bi / 64 = 2 → (bt t (i : Int) < 128 ∨ bt t (i : Int) > 191) := by intro i bi _ _ h h' h''; rw [h]; omega
    by_cases hb : b1 / 64 = 2
    · refine rune_next t 4 ((b0 : Int) - 240) (((b0 % 8) * 64 + b1 % 64 : Nat) : Int) 1 (by omega) (by omega) (by omega) (by omega) (by rw [show ((1 : Nat) : Int) = 1 from rfl, e1]; omega) (by rw [show ((1 : Nat) : Int) = 1 from rfl, e1]; omega) (by omega) ?_
      by_cases hb2 : b2 / 64 = 2
      · refine rune_next t 4 _ (((b0 % 8) * 4096 + (b1 % 64) * 64 + b2 % 64 : Nat) : Int) 2 (by omega) (by omega) (by omega) (by omega) (by rw [show ((2 : Nat) : Int) = 2 from rfl, e2]; omega) (by rw [show ((2 : Nat) : Int) = 2 from rfl, e2]; omega) (by omega) ?_
        by_cases hb3 : b3 / 64 = 2
        · refine rune_next t 4 _ (((b0 % 8) * 262144 + (b1 % 64) * 4096 + (b2 % 64) * 64 + b3 % 64 : Nat) : Int) 3 (by omega) (by omega) (by omega) (by omega) (by rw [show ((3 : Nat) : Int) = 3 from rfl, e3]; omega) (by rw [show ((3 : Nat) : Int) = 3 from rfl, e3]; omega) (by omega) ?_
          have hr := rune_end t 4 (((b0 % 8) * 262144 + (b1 % 64) * 4096 + (b2 % 64) * 64 + b3 % 64 : Nat) : Int)
          obtain ⟨c, hc⟩ : ∃ c, c = (b0 % 8) * 262144 + (b1 % 64) * 4096 + (b2 % 64) * 64 + b3 % 64 := ⟨_, rfl⟩
          rw [← hc] at hr ⊢
          have hd : dec t.size b0 b1 b2 b3 = if (decide (c ≥ 65536) && Utf8.valid (c : Int)) = true then (c, 4) else (65533, 1) := by
            unfold dec
            rw [if_neg h1, a1, a2, a3, decide_eq_true (show 1 < t.size by omega), decide_eq_true (show 2 < t.size by omega), decide_eq_true (show 3 < t.size by omega), hb, hb2, hb3, ← hc]
            rfl
          rw [hd, end4]
          exact hr
        · have hd : dec t.size b0 b1 b2 b3 = (65533, 1) := by
            have a4 : (b3 / 64 == 2) = false := by simpa using hb3
            unfold dec
            rw [if_neg h1, a1, a2, a4]
            simp
          rw [hd]
          exact rune_stop t 4 _ 3 (by omega) (by omega) (stop 3 b3 (by omega) (by omega) e3 l3 hb3)
      · have hd : dec t.size b0 b1 b2 b3 = (65533, 1) := by
          have a4 : (b2 / 64 == 2) = false := by simpa using hb2
          unfold dec
          rw [if_neg h1, a1, a2, a4]
          simp
        rw [hd]
        exact rune_stop t 4 _ 2 (by omega) (by omega) (stop 2 b2 (by omega) (by omega) e2 l2 hb2)
    · have hd : dec t.size b0 b1 b2 b3 = (65533, 1) := by
        have a4 : (b1 / 64 == 2) = false := by simpa using hb
        unfold dec
        rw [if_neg h1, a1, a2, a4]
        simp
      rw [hd]
      exact rune_stop t 4 _ 1 (by omega) (by omega) (stop 1 b1 (by omega) (by omega) e1 l1 hb)
  · have hd : dec t.size b0 b1 b2 b3 = (65533, 1) := by
      unfold dec
      rw [if_neg h1, a1, a2]
      simp only [Bool.false_and, Bool.false_eq_true, if_false]
      split
      · rename_i hc
        have hc1 : b0 / 8 = 30 := by simp at hc; exact hc.1.1.1
        have hv : Utf8.valid (((b0 % 8) * 262144 + (b1 % 64) * 4096 + (b2 % 64) * 64 + b3 % 64 : Nat) : Int) = false := by
          unfold Utf8.valid
          simp
          omega
        rw [hv]
        simp
      · rfl
    rw [hd]
    exact ev_neg (by omega) (st_spec_l18Rune_j2 (ev_pos rfl (st_spec_l18Rune_j3 (ev_pos rfl (ev_some rfl)))))
theorem rune_at (s : ByteArray) (a : Nat) (h : a < s.size) : Ev (fun k => spec_l18Rune.f k (s.extract a s.size)) (((Utf8.decode s a).1 : Int), ((Utf8.decode s a).2 : Int)) := by
  have hz : (s.extract a s.size).size = s.size - a := by rw [ByteArray.size_extract]; omega
  rw [decode_dec s a h, ← hz]
  exact rune_dec _ _ _ _ _ (by omega) (UInt8.toNat_lt _) (UInt8.toNat_lt _) (UInt8.toNat_lt _) (UInt8.toNat_lt _) (bt_ext_nat s a 0 h) (fun h1 => bt_ext_nat s a 1 (by omega)) (fun h1 => bt_ext_nat s a 2 (by omega)) (fun h1 => bt_ext_nat s a 3 (by omega))
theorem dec_width (m b0 b1 b2 b3 : Nat) : 1 ≤ (dec m b0 b1 b2 b3).2 ∧ (dec m b0 b1 b2 b3).2 ≤ 4 ∧ (dec m b0 b1 b2 b3).2 ≤ max m 1 := by
  unfold dec
  split
  · exact ⟨by show 1 ≤ 1; omega, by show 1 ≤ 4; omega, by show 1 ≤ _; omega⟩
  split
  · rename_i _ hc
    have : 1 < m := by simp at hc; exact hc.2.1
    split
    · exact ⟨by show 1 ≤ 2; omega, by show 2 ≤ 4; omega, by show 2 ≤ _; omega⟩
    · exact ⟨by show 1 ≤ 1; omega, by show 1 ≤ 4; omega, by show 1 ≤ _; omega⟩
  split
  · rename_i _ _ hc
    have : 2 < m := by simp at hc; exact hc.2.1
    split
    · exact ⟨by show 1 ≤ 3; omega, by show 3 ≤ 4; omega, by show 3 ≤ _; omega⟩
    · exact ⟨by show 1 ≤ 1; omega, by show 1 ≤ 4; omega, by show 1 ≤ _; omega⟩
  split
  · rename_i _ _ _ hc
    have : 3 < m := by simp at hc; exact hc.2.1
    split
    · exact ⟨by show 1 ≤ 4; omega, by show 4 ≤ 4; omega, by show 4 ≤ _; omega⟩
    · exact ⟨by show 1 ≤ 1; omega, by show 1 ≤ 4; omega, by show 1 ≤ _; omega⟩
  · exact ⟨by show 1 ≤ 1; omega, by show 1 ≤ 4; omega, by show 1 ≤ _; omega⟩
theorem width_at (s : ByteArray) (a : Nat) (h : a < s.size) : 1 ≤ (Utf8.decode s a).2 ∧ (Utf8.decode s a).2 ≤ 4 ∧ a + (Utf8.decode s a).2 ≤ s.size := by
  rw [decode_dec s a h]
  have := dec_width (s.size - a) (s.get! a).toNat (s.get! (a + 1)).toNat (s.get! (a + 2)).toNat (s.get! (a + 3)).toNat
  exact ⟨this.1, this.2.1, by omega⟩
theorem runes_loop (s : ByteArray) (hs : s.size ≤ 400) : ∀ (n a : Nat) (out : List Int), s.size ≤ a + n → a ≤ s.size → out.length ≤ a → Ev (fun k => spec_RunesOf.l0 k s out (a : Int)) (out ++ runesFrom s n a, true) := by
  intro n
  induction n with
  | zero =>
    intro a out h1 h2 _
    exact st_spec_RunesOf_l0 (ev_neg (by omega) (ev_some (by simp [runesFrom])))
  | succ n ih =>
    intro a out h1 h2 h3
    by_cases ha : a < s.size
    · obtain ⟨w1, w4, w⟩ := width_at s a ha
      have := ih (a + (Utf8.decode s a).2) (out ++ [((Utf8.decode s a).1 : Int)]) (by omega) w (by rw [List.length_append, List.length_singleton]; omega)
      refine st_spec_RunesOf_l0 (ev_pos (by omega) (ev_pos (by omega) (ev_pos (by omega) (Ev.bind (rune_at s a ha) (ev_pos (by omega) ?_)))))
      rw [w64 (by omega) (by omega)]
      simp only [runesFrom, ha, if_true]
      rw [List.append_assoc] at this
      exact this
    · rw [runesFrom_end s _ a ha, List.append_nil]
      exact st_spec_RunesOf_l0 (ev_neg (by omega) (ev_some rfl))
theorem runes_spec (s : ByteArray) (hs : s.size ≤ 400) : Ev (fun k => spec_RunesOf.f k s) (runes s, true) :=
  ev_neg (by omega) (by have := runes_loop s hs s.size 0 [] (by omega) (by omega) (Nat.le_refl _); rwa [List.nil_append] at this)
theorem runes_len (s : ByteArray) : ∀ (n a : Nat), (runesFrom s n a).length ≤ n := by
  intro n
  induction n with
  | zero => intro a; simp [runesFrom]
  | succ n ih =>
    intro a
    simp only [runesFrom]
    split
    · simp only [List.length_cons]; have := ih (a + (Utf8.decode s a).2); omega
    · simp
theorem ext_size (s : ByteArray) (a b : Nat) (h : b ≤ s.size) : (s.extract a b).size = b - a := by
  rw [ByteArray.size_extract]; omega
theorem bt_get (s : ByteArray) (i : Nat) (h : i < s.size) : bt s (i : Int) = ((s[i]'h).toNat : Int) := by
  unfold bt
  rw [dif_pos (by simpa using h)]
  rfl
theorem bt_ext (s : ByteArray) (a j : Nat) (h : a + j < s.size) : bt (s.extract a s.size) (j : Int) = bt s ((a + j : Nat) : Int) := by
  have hs := ext_size s a s.size (Nat.le_refl _)
  rw [bt_get _ _ (by omega), bt_get _ _ h, ByteArray.getElem_extract]
theorem byte_cases (s : ByteArray) : (Lib.indexByte s.data.toList 125 = -1 ∧ ∀ i, i < s.size → bt s (i : Int) ≠ 125) ∨ ∃ o : Nat, o < s.size ∧ Lib.indexByte s.data.toList 125 = (o : Int) ∧ bt s (o : Int) = 125 ∧ ∀ i, i < o → bt s (i : Int) ≠ 125 := by
  have hsz : s.data.toList.length = s.size := data_length s
  have get_ : ∀ i, (hi : i < s.size) → s.data.toList[i]? = some (s[i]'hi) := by
    intro i hi
    rw [List.getElem?_eq_getElem (by omega)]
    rfl
  have at_ : ∀ i, i < s.size → bt s (i : Int) = 125 → s.data.toList[i]? = some 125 := by
    intro i hi h
    rw [bt_get s i hi] at h
    rw [get_ i hi]
    congr 1
    exact UInt8.toNat_inj.1 (by show s[i].toNat = 125; omega)
  by_cases hm : Lib.indexByte s.data.toList 125 = -1
  · exact .inl ⟨hm, fun i hi h => Lib.indexByte_none hm i (at_ i hi h)⟩
  · have hge := Lib.indexByte_ge s.data.toList 125
    obtain ⟨o, ho⟩ : ∃ o : Nat, Lib.indexByte s.data.toList 125 = (o : Int) := ⟨(Lib.indexByte s.data.toList 125).toNat, by omega⟩
    obtain ⟨h1, h2⟩ := Lib.indexByte_some ho
    have hos : o < s.size := by
      have := (List.getElem?_eq_some_iff.1 h1).1
      omega
    refine .inr ⟨o, hos, ho, ?_, fun i hi h => h2 i hi (at_ i (by omega) h)⟩
    rw [get_ o hos] at h1
    injection h1 with h1
    rw [bt_get s o hos, h1]
    rfl
theorem byte_call (t : ByteArray) (v : Int) (h : Lib.indexByte t.data.toList 125 = v) : strings_IndexByte.f t 125 = some v := by
  unfold strings_IndexByte.f
  rw [show (125 : Int).toNat.toUInt8 = 125 from rfl, h]
theorem bytes_at (s : ByteArray) (i : Nat) (h : i < s.size) : (bytesOf s)[i]? = some (bt s (i : Int)) := by
  have hl : i < (bytesOf s).length := by rw [bytesOf_length]; exact h
  rw [List.getElem?_eq_getElem hl, ← rd_bytesOf, rd_get hl]
theorem bytes_mem (s : ByteArray) : ∀ x ∈ bytesOf s, 0 ≤ x ∧ x ≤ 255 := by
  intro x hx
  unfold bytesOf at hx
  obtain ⟨b, _, rfl⟩ := List.mem_map.1 hx
  have := UInt8.toNat_lt b
  omega
theorem bytes_ext (s : ByteArray) (a b : Nat) (h : b ≤ s.size) : bytesOf (s.extract a b) = ((bytesOf s).drop a).take (b - a) := by
  apply List.ext_getElem?
  intro j
  by_cases hj : j < b - a
  · have e1 : j < (s.extract a b).size := by rw [ext_size s a b h]; exact hj
    rw [bytes_at _ _ e1, List.getElem?_take_of_lt hj, List.getElem?_drop, bytes_at s (a + j) (by omega), bt_get _ _ e1, bt_get s (a + j) (by omega), ByteArray.getElem_extract]
  · rw [List.getElem?_eq_none (by rw [bytesOf_length, ext_size s a b h]; omega), List.getElem?_eq_none (by rw [List.length_take]; omega)]
theorem str_bytes (s : ByteArray) : strOfNums (bytesOf s) = s := by
  unfold strOfNums bytesOf
  rw [List.map_map]
  have : (s.data.toList.map ((fun n : Int => UInt8.ofNat n.toNat) ∘ fun b => (b.toNat : Int))) = s.data.toList := by
    conv => rhs; rw [← List.map_id s.data.toList]
    apply List.map_congr_left
    intro b _
    simp
  rw [this]
theorem bytes_str (xs : List Int) (h : ∀ x ∈ xs, 0 ≤ x ∧ x ≤ 255) : bytesOf (strOfNums xs) = xs := by
  unfold bytesOf
  rw [strOfNums_data, List.map_map]
  conv => rhs; rw [← List.map_id xs]
  apply List.map_congr_left
  intro x hx
  have := h x hx
  simp
  omega
theorem str_append (xs ys : List Int) : strOfNums (xs ++ ys) = strOfNums xs ++ strOfNums ys := by
  apply ByteArray.ext
  simp [strOfNums]
def turn (c : Int) : Int := if 97 ≤ c ∧ c ≤ 122 then 97 + (c - 97 + 13) % 26 else if 65 ≤ c ∧ c ≤ 90 then 65 + (c - 65 + 13) % 26 else c
theorem turn_ev (c : Int) (h0 : 0 ≤ c) (h1 : c ≤ 255) : Ev (fun k => impl_turnedLetter.f k c) (turn c) := by
  unfold turn
  by_cases ha : c ≥ 97
  · refine ev_pos ha ?_
    by_cases hb : c ≤ 122
    · rw [decide_eq_true hb, if_pos ⟨ha, hb⟩]
      exact st_impl_turnedLetter_j0 (ev_pos rfl (ev_some (by omega)))
    · rw [decide_eq_false hb, if_neg (show ¬ (97 ≤ c ∧ c ≤ 122) by omega), if_neg (show ¬ (65 ≤ c ∧ c ≤ 90) by omega)]
      exact st_impl_turnedLetter_j0 (ev_neg (by decide) (ev_pos (by omega) (ev_neg (by omega) (ev_some rfl))))
  · refine ev_neg ha (st_impl_turnedLetter_j0 (ev_neg (by decide) ?_))
    rw [if_neg (show ¬ (97 ≤ c ∧ c ≤ 122) by omega)]
    by_cases hb : c ≥ 65
    · refine ev_pos hb ?_
      by_cases hc : c ≤ 90
      · rw [if_pos (show 65 ≤ c ∧ c ≤ 90 from ⟨hb, hc⟩)]
        exact ev_pos hc (ev_some (by omega))
      · rw [if_neg (show ¬ (65 ≤ c ∧ c ≤ 90) by omega)]
        exact ev_neg hc (ev_some rfl)
    · rw [if_neg (show ¬ (65 ≤ c ∧ c ≤ 90) by omega)]
      exact ev_neg hb (ev_some rfl)
theorem turn_turn (c : Int) : turn (turn c) = c := by
  unfold turn
  by_cases h1 : 97 ≤ c ∧ c ≤ 122
  · rw [if_pos h1, if_pos (by omega)]; omega
  · rw [if_neg h1]
    by_cases h2 : 65 ≤ c ∧ c ≤ 90
    · rw [if_pos h2, if_neg (by omega), if_pos (by omega)]; omega
    · rw [if_neg h2, if_neg h1, if_neg h2]
def Alike (x y : Int) : Prop := x = y ∨ (65 ≤ x ∧ x ≤ 122 ∧ 65 ≤ y ∧ y ≤ 122)
theorem alike_turn (c : Int) : Alike c (turn c) := by
  unfold turn Alike
  by_cases h1 : 97 ≤ c ∧ c ≤ 122
  · rw [if_pos h1]; right; omega
  · rw [if_neg h1]
    by_cases h2 : 65 ≤ c ∧ c ≤ 90
    · rw [if_pos h2]; right; omega
    · rw [if_neg h2]; exact .inl rfl
def brace : List Int → Option Nat
  | [] => none
  | c :: r => if c = 125 then some 0 else (brace r).map (· + 1)
theorem brace_of : ∀ (l : List Int) (j : Nat), l[j]? = some 125 → (∀ i, i < j → l[i]? ≠ some 125) → brace l = some j
  | [], j, h, _ => by simp at h
  | c :: r, 0, h, _ => by simp at h; simp [brace, h]
  | c :: r, j + 1, h, h2 => by
    have h0 : c ≠ 125 := fun e => h2 0 (by omega) (by simp [e])
    have := brace_of r j (by simpa using h) (fun i hi => by have := h2 (i + 1) (by omega); simpa using this)
    simp [brace, h0, this]
theorem brace_no : ∀ (l : List Int), (∀ i : Nat, l[i]? ≠ some 125) → brace l = none
  | [], _ => rfl
  | c :: r, h => by
    have h0 : c ≠ 125 := fun e => h 0 (by simp [e])
    have := brace_no r (fun i => by have := h (i + 1); simpa using this)
    simp [brace, h0, this]
theorem brace_some : ∀ (l : List Int) (j : Nat), brace l = some j → l[j]? = some 125 ∧ ∀ i, i < j → l[i]? ≠ some 125
  | [], j, h => by simp [brace] at h
  | c :: r, j, h => by
    unfold brace at h
    by_cases h0 : c = 125
    · rw [if_pos h0] at h
      obtain rfl := Option.some.inj h
      exact ⟨by simp [h0], fun i hi => absurd hi (by omega)⟩
    · rw [if_neg h0] at h
      obtain ⟨m, hm, rfl⟩ := Option.map_eq_some_iff.1 h
      obtain ⟨h1, h2⟩ := brace_some r m hm
      refine ⟨by simpa using h1, fun i hi => ?_⟩
      cases i with
      | zero => simpa using h0
      | succ i => have := h2 i (by omega); simpa using this
theorem brace_none : ∀ (l : List Int), brace l = none → ∀ i : Nat, l[i]? ≠ some 125
  | [], _, i => by simp
  | c :: r, h, i => by
    unfold brace at h
    by_cases h0 : c = 125
    · rw [if_pos h0] at h; cases h
    · rw [if_neg h0] at h
      have hr : brace r = none := by simpa using h
      cases i with
      | zero => simpa using h0
      | succ i => have := brace_none r hr i; simpa using this
def cvt : Nat → List Int → List Int
  | 0, _ => []
  | _ + 1, [] => []
  | n + 1, c :: r => if c = 123 then (match brace r with
    | some j => c :: (r.take (j + 1) ++ cvt n (r.drop (j + 1)))
    | none => c :: cvt n r) else turn c :: cvt n r
theorem cvt_nil (n : Nat) : cvt n [] = [] := by cases n <;> rfl
def AlikeL (l m : List Int) : Prop := l.length = m.length ∧ ∀ i : Nat, ∀ x y : Int, l[i]? = some x → m[i]? = some y → Alike x y
theorem alike_cons {x y : Int} {l m : List Int} (h : Alike x y) (k : AlikeL l m) : AlikeL (x :: l) (y :: m) := by
  refine ⟨by simp [k.1], fun i a b ha hb => ?_⟩
  cases i with
  | zero => simp at ha hb; subst ha hb; exact h
  | succ i => exact k.2 i a b (by simpa using ha) (by simpa using hb)
theorem alike_same : ∀ {p l m : List Int}, AlikeL l m → AlikeL (p ++ l) (p ++ m)
  | [], _, _, k => k
  | _ :: p, _, _, k => alike_cons (.inl rfl) (alike_same (p := p) k)
theorem alike_cvt : ∀ (n : Nat) (l : List Int), l.length ≤ n → AlikeL l (cvt n l)
  | 0, l, h => by obtain rfl : l = [] := List.eq_nil_of_length_eq_zero (by omega); exact ⟨rfl, fun i x y hx => by simp at hx⟩
  | n + 1, [], _ => ⟨rfl, fun i x y hx => by simp at hx⟩
  | n + 1, c :: r, h => by
    have hr : r.length ≤ n := by simpa using h
    simp only [cvt]
    by_cases h0 : c = 123
    · rw [if_pos h0]
      cases hb : brace r with
      | none => exact alike_cons (.inl rfl) (alike_cvt n r hr)
      | some j =>
        refine alike_cons (.inl rfl) ?_
        have := alike_same (p := r.take (j + 1)) (alike_cvt n (r.drop (j + 1)) (by rw [List.length_drop]; omega))
        rwa [List.take_append_drop] at this
    · rw [if_neg h0]
      exact alike_cons (alike_turn c) (alike_cvt n r hr)
theorem alike_125 {x y : Int} (h : Alike x y) : x = 125 ↔ y = 125 := by unfold Alike at h; omega
theorem alike_123 {x y : Int} (h : Alike x y) : x = 123 ↔ y = 123 := by unfold Alike at h; omega
theorem brace_alike : ∀ {l m : List Int}, AlikeL l m → brace l = brace m
  | [], [], _ => rfl
  | [], y :: m, h => by have := h.1; simp at this
  | x :: l, [], h => by have := h.1; simp at this
  | x :: l, y :: m, h => by
    have h0 := h.2 0 x y rfl rfl
    have hr : AlikeL l m := ⟨by have := h.1; simpa using this, fun i a b ha hb => h.2 (i + 1) a b (by simpa using ha) (by simpa using hb)⟩
    have ih := brace_alike hr
    simp only [brace, ih]
    by_cases hx : x = 125
    · rw [if_pos hx, if_pos ((alike_125 h0).1 hx)]
    · rw [if_neg hx, if_neg (fun hy => hx ((alike_125 h0).2 hy))]
theorem cvt_cvt : ∀ (n m : Nat) (l : List Int), l.length ≤ n → l.length ≤ m → cvt m (cvt n l) = l
  | n, m, [], _, _ => by rw [cvt_nil, cvt_nil]
  | 0, m, c :: r, h, _ => by simp at h
  | n + 1, 0, c :: r, _, h => by simp at h
  | n + 1, m + 1, c :: r, h, h' => by
    have hr : r.length ≤ n := by simpa using h
    have hr' : r.length ≤ m := by simpa using h'
    simp only [cvt]
    by_cases h0 : c = 123
    · rw [if_pos h0]
      cases hb : brace r with
      | none =>
        show cvt (m + 1) (c :: cvt n r) = _
        simp only [cvt]
        rw [if_pos h0, ← brace_alike (alike_cvt n r hr), hb]
        show c :: cvt m (cvt n r) = _
        rw [cvt_cvt n m r hr hr']
      | some j =>
        show cvt (m + 1) (c :: (r.take (j + 1) ++ cvt n (r.drop (j + 1)))) = _
        simp only [cvt]
        have hd : (r.drop (j + 1)).length ≤ n := by rw [List.length_drop]; omega
        have ha : AlikeL r (r.take (j + 1) ++ cvt n (r.drop (j + 1))) := by
          have := alike_same (p := r.take (j + 1)) (alike_cvt n (r.drop (j + 1)) hd)
          rwa [List.take_append_drop] at this
        rw [if_pos h0, ← brace_alike ha, hb]
        have hj := (List.getElem?_eq_some_iff.1 (brace_some r j hb).1).1
        have hl : (r.take (j + 1)).length = j + 1 := by rw [List.length_take]; omega
        show c :: ((r.take (j + 1) ++ cvt n (r.drop (j + 1))).take (j + 1) ++ cvt m ((r.take (j + 1) ++ cvt n (r.drop (j + 1))).drop (j + 1))) = _
        rw [List.take_left' hl, List.drop_left' hl, cvt_cvt n m (r.drop (j + 1)) hd (by rw [List.length_drop]; omega), List.take_append_drop]
    · rw [if_neg h0]
      have ht : turn c ≠ 123 := fun e => h0 ((alike_123 (alike_turn c)).2 e)
      show cvt (m + 1) (turn c :: cvt n r) = _
      simp only [cvt]
      rw [if_neg ht, turn_turn, cvt_cvt n m r hr hr']
theorem drop_cons {l : List Int} {i : Nat} {c : Int} (h : l[i]? = some c) : l.drop i = c :: l.drop (i + 1) := by
  obtain ⟨hl, e⟩ := List.getElem?_eq_some_iff.1 h
  rw [List.drop_eq_getElem_cons hl, e]
theorem w_add (i j : Nat) (h : i + j < 100000) : wrap64 ((i : Int) + (j : Int)) = ((i + j : Nat) : Int) := by unfold wrap64; omega
theorem impl_brace (s : ByteArray) (hs : s.size ≤ 200) (i j : Nat) (out : List Int) {r : ByteArray × Bool} (hij : i + j + 2 ≤ s.size) (h123 : bt s (i : Int) = 123) (hcall : strings_IndexByte.f (s.extract i s.size) 125 = some ((j + 1 : Nat) : Int)) (ho : out.length ≤ 1000)
    (next : Ev (fun k => impl_FalseLetters.l0 k s (out ++ bytesOf (s.extract i (i + j + 2))) ((i + j + 2 : Nat) : Int)) r) : Ev (fun k => impl_FalseLetters.l0 k s out (i : Int)) r := by
  have w1 : wrap64 ((i : Int) + ((j + 1 : Nat) : Int)) = ((i + (j + 1) : Nat) : Int) := w_add i (j + 1) (by omega)
  have w2 : wrap64 (((i + (j + 1) : Nat) : Int) + 1) = ((i + j + 2 : Nat) : Int) := w64s (i + (j + 1)) (by omega)
  have w0 : wrap64 (((j + 1 : Nat) : Int) + 1) = ((j + 2 : Nat) : Int) := w64s (j + 1) (by omega)
  have w3 : wrap64 ((i : Int) + wrap64 (((j + 1 : Nat) : Int) + 1)) = ((i + j + 2 : Nat) : Int) := by rw [w0]; exact w_add i (j + 2) (by omega)
  have hz : (s.extract i (i + j + 2)).size = j + 2 := by rw [ext_size s _ _ hij]; omega
  have a1 : (i : Int) < (s.size : Int) := by omega
  have a2 : (i : Int) ≤ (s.size : Int) := by omega
  have a3 : ((j + 1 : Nat) : Int) > 0 := by omega
  have a4 : (i : Int) ≤ ((i + j + 2 : Nat) : Int) := by omega
  have a5 : ((i + j + 2 : Nat) : Int) ≤ (s.size : Int) := by omega
  have a6 : out.length + (s.extract i (i + j + 2)).size < 140737488355328 := by rw [hz]; omega
  have a7 : (0 : Int) ≤ (i : Int) := by omega
  refine st_impl_FalseLetters_l0 (ev_pos a1 (ev_pos a7 (ev_pos h123 (ev_pos a2 (ev_bindc hcall (ev_pos a3 ?_))))))
  rw [w1, w2, w3]
  exact ev_pos a4 (ev_pos a5 (ev_pos a6 next))
theorem impl_loop (s : ByteArray) (hs : s.size ≤ 200) : ∀ (n i : Nat) (out : List Int), s.size ≤ i + n → i ≤ s.size → out.length + (s.size - i) ≤ 1000 → Ev (fun k => impl_FalseLetters.l0 k s out (i : Int)) (strOfNums (out ++ cvt n ((bytesOf s).drop i) ++ [93]), true) := by
  intro n
  induction n with
  | zero =>
    intro i out h1 h2 h3
    have e : i = s.size := by omega
    exact st_impl_FalseLetters_l0 (ev_neg (by omega) (ev_pos (by omega) (ev_some (by simp [cvt]))))
  | succ n ih =>
    intro i out h1 h2 h3
    by_cases hi : i < s.size
    · have hc := bytes_at s i hi
      have hd := drop_cons hc
      have hbr := bt_range s (i : Int)
      rw [hd]
      have one : (cvt (n + 1) (bt s (i : Int) :: (bytesOf s).drop (i + 1)) = turn (bt s (i : Int)) :: cvt n ((bytesOf s).drop (i + 1))) → Ev (fun k => (impl_turnedLetter.f k (bt s (i : Int))).bind fun t226 => (if out.length < 140737488355328 then (impl_FalseLetters.l0 k s (out ++ [t226]) (wrap64 ((i : Int) + 1))) else (none))) (strOfNums (out ++ cvt (n + 1) (bt s (i : Int) :: (bytesOf s).drop (i + 1)) ++ [93]), true) := by
        intro e
        refine Ev.bind (turn_ev _ hbr.1 hbr.2) (ev_pos (by omega) ?_)
        rw [w64s i (by omega), e]
        have := ih (i + 1) (out ++ [turn (bt s (i : Int))]) (by omega) (by omega) (by rw [List.length_append, List.length_singleton]; omega)
        rw [List.append_assoc out] at this
        exact this
      by_cases h123 : bt s (i : Int) = 123
      · have hz := ext_size s i s.size (Nat.le_refl _)
        rcases byte_cases (s.extract i s.size) with ⟨hm, hno⟩ | ⟨o, ho, hm, h125, hno⟩
        · have hcall := byte_call _ _ hm
          clear hm
          refine st_impl_FalseLetters_l0 (ev_pos (by omega) (ev_pos (by omega) (ev_pos h123 (ev_pos (by omega) (ev_bindc hcall (ev_neg (by decide) (one ?_)))))))
          have hb : brace ((bytesOf s).drop (i + 1)) = none := by
            refine brace_no _ fun j hj => ?_
            rw [List.getElem?_drop] at hj
            have hl := (List.getElem?_eq_some_iff.1 hj).1
            rw [bytesOf_length] at hl
            rw [bytes_at s _ hl] at hj
            have := hno (1 + j) (by omega)
            rw [bt_ext s i (1 + j) (by omega)] at this
            exact this (by have := Option.some.inj hj; rw [← this]; congr 1; omega)
          simp only [cvt]
          rw [if_pos h123, hb, h123]
          rfl
        · have ho0 : o ≠ 0 := by
            intro e
            subst e
            rw [bt_ext s i 0 (by omega)] at h125
            have : bt s ((i + 0 : Nat) : Int) = bt s (i : Int) := rfl
            omega
          obtain ⟨j, rfl⟩ : ∃ j, o = j + 1 := ⟨o - 1, by omega⟩
          have hb : brace ((bytesOf s).drop (i + 1)) = some j := by
            refine brace_of _ j ?_ fun m hm' hj => ?_
            · rw [List.getElem?_drop, bytes_at s _ (by omega)]
              rw [bt_ext s i (j + 1) (by omega)] at h125
              rw [← h125]
              congr 3
              omega
            · rw [List.getElem?_drop, bytes_at s _ (by omega)] at hj
              have := hno (m + 1) (by omega)
              rw [bt_ext s i (m + 1) (by omega)] at this
              exact this (by have := Option.some.inj hj; rw [← this]; congr 2; omega)
          have hcall := byte_call _ _ hm
          clear hm
          have hij : i + j + 2 ≤ s.size := by omega
          have hp : bytesOf (s.extract i (i + j + 2)) = bt s (i : Int) :: ((bytesOf s).drop (i + 1)).take (j + 1) := by
            rw [bytes_ext s i _ hij, hd]
            have : i + j + 2 - i = (j + 1) + 1 := by omega
            rw [this, List.take_succ_cons]
          have hdd : ((bytesOf s).drop (i + 1)).drop (j + 1) = (bytesOf s).drop (i + j + 2) := by
            rw [List.drop_drop]
            congr 1
            omega
          have hl : (out ++ bytesOf (s.extract i (i + j + 2))).length + (s.size - (i + j + 2)) ≤ 1000 := by rw [List.length_append, bytesOf_length, ext_size s _ _ hij]; omega
          have this := ih (i + j + 2) (out ++ bytesOf (s.extract i (i + j + 2))) (by omega) hij hl
          refine impl_brace s hs i j out hij h123 hcall (by omega) ?_
          have e : out ++ cvt (n + 1) (bt s (i : Int) :: (bytesOf s).drop (i + 1)) ++ [93] = out ++ bytesOf (s.extract i (i + j + 2)) ++ cvt n ((bytesOf s).drop (i + j + 2)) ++ [93] := by
            simp only [cvt]
            rw [if_pos h123, hb, hp, ← hdd]
            simp
          rw [e]
          exact this
      · refine st_impl_FalseLetters_l0 (ev_pos (by omega) (ev_pos (by omega) (ev_neg h123 (one ?_))))
        simp only [cvt]
        rw [if_neg h123]
    · have e : i = s.size := by omega
      rw [List.drop_eq_nil_of_le (by rw [bytesOf_length]; omega), cvt_nil]
      exact st_impl_FalseLetters_l0 (ev_neg (by omega) (ev_pos (by omega) (ev_some (by simp))))
theorem scan_no (X : List Int) (a : Nat) (hX : X.length ≤ 1000) {r : ByteArray × Bool} (h : Ev (fun k => spec_FalseLetters.l1 k X (wrap64 ((a : Int) + 1))) r) : ∀ (n i : Nat), i + n = X.length → (∀ k, i ≤ k → X[k]? ≠ some 125) → Ev (fun k => spec_FalseLetters.l2 k X (a : Int) (i : Int)) r := by
  intro n
  induction n with
  | zero =>
    intro i hi _
    exact st_spec_FalseLetters_l2 (ev_neg (by omega) h)
  | succ n ih =>
    intro i hi hno
    have hil : i < X.length := by omega
    have hx : rd X (i : Int) ≠ 125 := by
      intro e
      rw [rd_get hil] at e
      exact hno i (Nat.le_refl _) (by rw [List.getElem?_eq_getElem hil, e])
    refine st_spec_FalseLetters_l2 (ev_pos (by omega) (ev_pos (by omega) (ev_neg hx ?_)))
    rw [w64s i (by omega)]
    exact ih (i + 1) (by omega) (fun k hk => hno k (by omega))
theorem scan_hit (X : List Int) (a : Nat) (hX : X.length ≤ 1000) {r : ByteArray × Bool} : ∀ (n i : Nat), X[i + n]? = some 125 → (∀ k, i ≤ k → k < i + n → X[k]? ≠ some 125) → Ev (fun k => spec_FalseLetters.l1 k X ((i + n + 1 : Nat) : Int)) r → Ev (fun k => spec_FalseLetters.l2 k X (a : Int) (i : Int)) r := by
  intro n
  induction n with
  | zero =>
    intro i hi _ h
    obtain ⟨hil, e⟩ := List.getElem?_eq_some_iff.1 hi
    have hil' : i < X.length := hil
    refine st_spec_FalseLetters_l2 (ev_pos (by omega) (ev_pos (by omega) (ev_pos (by rw [rd_get hil']; exact e) ?_)))
    rw [w64s i (by omega)]
    exact h
  | succ n ih =>
    intro i hi hno h
    have hi2 := (List.getElem?_eq_some_iff.1 hi).1
    have hil : i < X.length := by omega
    have hx : rd X (i : Int) ≠ 125 := by
      intro e
      rw [rd_get hil] at e
      exact hno i (Nat.le_refl _) (by omega) (by rw [List.getElem?_eq_getElem hil, e])
    refine st_spec_FalseLetters_l2 (ev_pos (by omega) (ev_pos (by omega) (ev_neg hx ?_)))
    rw [w64s i (by omega)]
    refine ih (i + 1) (by rw [← hi]; congr 1; omega) (fun k hk hk2 => hno k (by omega) (by omega)) ?_
    have e : i + 1 + n + 1 = i + (n + 1) + 1 := by omega
    rw [e]
    exact h
def bracket (l : List Int) : ByteArray := ((⟨#[91]⟩ : ByteArray) ++ strOfNums l) ++ (⟨#[93]⟩ : ByteArray)
theorem bracket_eq (l : List Int) : bracket l = strOfNums ([91] ++ l ++ [93]) := by
  rw [str_append, str_append]
  rfl
theorem set_mid (p : List Int) (c v : Int) (r : List Int) : (p ++ c :: r).set p.length v = p ++ v :: r := by simp
theorem rd_mid (p : List Int) (c : Int) (r : List Int) : rd (p ++ c :: r) (p.length : Int) = c := by
  rw [rd_get (by simp)]
  simp
theorem spec_loop : ∀ (n : Nat) (p rest : List Int), rest.length ≤ n → p.length + rest.length ≤ 400 → (∀ x ∈ rest, 0 ≤ x ∧ x ≤ 255) → Ev (fun k => spec_FalseLetters.l1 k (p ++ rest) (p.length : Int)) (bracket (p ++ cvt n rest), true) := by
  intro n
  induction n with
  | zero =>
    intro p rest h1 h2 h3
    obtain rfl : rest = [] := List.eq_nil_of_length_eq_zero (by omega)
    rw [List.append_nil, cvt_nil, List.append_nil]
    have hz : (strOfNums p).size = p.length := strOfNums_size p
    have hz1 : ((⟨#[91]⟩ : ByteArray) ++ strOfNums p).size = 1 + p.length := by rw [ByteArray.size_append, hz]; rfl
    exact st_spec_FalseLetters_l1 (ev_neg (by omega) (ev_pos (by omega) (ev_pos (by omega) (ev_some rfl))))
  | succ n ih =>
    intro p rest h1 h2 h3
    cases rest with
    | nil =>
      rw [List.append_nil, cvt_nil, List.append_nil]
      have hz : (strOfNums p).size = p.length := strOfNums_size p
      have hz1 : ((⟨#[91]⟩ : ByteArray) ++ strOfNums p).size = 1 + p.length := by rw [ByteArray.size_append, hz]; rfl
      exact st_spec_FalseLetters_l1 (ev_neg (by omega) (ev_pos (by omega) (ev_pos (by omega) (ev_some rfl))))
    | cons c r =>
      have hc := h3 c (by simp)
      have hlen : (p ++ c :: r).length = p.length + (r.length + 1) := by simp
      have hr : r.length ≤ n := by simpa using h1
      have hpl : p.length + (r.length + 1) ≤ 400 := by simpa using h2
      have hrd := rd_mid p c r
      have e1 : (p.length : Int) + 1 = ((p.length + 1 : Nat) : Int) := rfl
      have hw : wrap64 ((p.length : Int) + 1) = ((p.length + 1 : Nat) : Int) := w64s _ (by omega)
      have next : ∀ v, Ev (fun k => spec_FalseLetters.l1 k (p ++ v :: r) (wrap64 ((p.length : Int) + 1))) (bracket (p ++ (v :: cvt n r)), true) := by
        intro v
        have := ih (p ++ [v]) r hr (by rw [List.length_append, List.length_singleton]; omega) (fun x hx => h3 x (List.mem_cons_of_mem _ hx))
        rw [List.length_append, List.length_singleton, List.append_assoc, List.append_assoc] at this
        rw [hw]
        exact this
      have a1 : (p.length : Int) < ((p ++ c :: r).length : Int) := by rw [hlen]; omega
      have a0 : (0 : Int) ≤ (p.length : Int) := by omega
      refine st_spec_FalseLetters_l1 (ev_pos a1 (ev_pos a0 ?_))
      rw [hrd]
      simp only [cvt]
      by_cases h123 : c = 123
      · rw [if_pos h123]
        refine ev_pos h123 ?_
        cases hb : brace r with
        | none =>
          refine scan_no (p ++ c :: r) p.length (by omega) ?_ (r.length + 1) p.length hlen.symm ?_
          · exact next c
          · intro k hk e
            rw [List.getElem?_append_right hk] at e
            cases hkk : k - p.length with
            | zero => rw [hkk] at e; simp at e; omega
            | succ m => rw [hkk] at e; exact brace_none r hb m (by simpa using e)
        | some j =>
          obtain ⟨hj1, hj2⟩ := brace_some r j hb
          have hjl := (List.getElem?_eq_some_iff.1 hj1).1
          refine scan_hit (p ++ c :: r) p.length (by omega) (j + 1) p.length ?_ ?_ ?_
          · rw [List.getElem?_append_right (by omega)]
            have : p.length + (j + 1) - p.length = j + 1 := by omega
            rw [this]
            simpa using hj1
          · intro k hk hk2 e
            rw [List.getElem?_append_right hk] at e
            cases hkk : k - p.length with
            | zero => rw [hkk] at e; simp at e; omega
            | succ m => rw [hkk] at e; exact hj2 m (by omega) (by simpa using e)
          · have ht : (r.take (j + 1)).length = j + 1 := by rw [List.length_take]; omega
            have hd : (r.drop (j + 1)).length ≤ n := by rw [List.length_drop]; omega
            have := ih (p ++ c :: r.take (j + 1)) (r.drop (j + 1)) hd (by rw [List.length_append, List.length_cons, ht, List.length_drop]; omega) (fun x hx => h3 x (List.mem_cons_of_mem _ (List.mem_of_mem_drop hx)))
            have el : (p ++ c :: r.take (j + 1)).length = p.length + (j + 1) + 1 := by rw [List.length_append, List.length_cons, ht]; omega
            have ex : p ++ c :: r.take (j + 1) ++ r.drop (j + 1) = p ++ c :: r := by simp
            rw [el, ex] at this
            have ey : p ++ c :: r.take (j + 1) ++ cvt n (r.drop (j + 1)) = p ++ c :: (r.take (j + 1) ++ cvt n (r.drop (j + 1))) := by simp
            rw [ey] at this
            exact this
      · rw [if_neg h123]
        refine ev_neg h123 ?_
        have hset := fun v => set_mid p c v r
        have t0 : ((p.length : Int)).toNat = p.length := rfl
        have no3 : ∀ v : Int, turn c = v → Ev (fun k => spec_FalseLetters.l1 k (p ++ v :: r) (wrap64 ((p.length : Int) + 1))) (bracket (p ++ turn c :: cvt n r), true) := by
          intro v hv
          rw [hv]
          exact next v
        by_cases h97 : c ≥ 97
        · refine ev_pos h97 ?_
          by_cases h122 : c ≤ 122
          · rw [decide_eq_true h122]
            refine st_spec_FalseLetters_j3 (ev_pos rfl (ev_pos a0 (ev_pos a1 (ev_bindc rfl (ev_pos (by omega) (ev_neg (by omega) ?_))))))
            rw [t0, hset]
            exact no3 _ (by unfold turn; rw [if_pos ⟨h97, h122⟩]; omega)
          · rw [decide_eq_false h122]
            refine st_spec_FalseLetters_j3 (ev_neg (by decide) (ev_pos (by omega) (ev_neg (by omega) ?_)))
            exact no3 _ (by unfold turn; rw [if_neg (show ¬ (97 ≤ c ∧ c ≤ 122) by omega), if_neg (show ¬ (65 ≤ c ∧ c ≤ 90) by omega)])
        · refine ev_neg h97 (st_spec_FalseLetters_j3 (ev_neg (by decide) ?_))
          by_cases h65 : c ≥ 65
          · refine ev_pos h65 ?_
            by_cases h90 : c ≤ 90
            · refine ev_pos h90 (ev_pos a0 (ev_pos a1 ?_))
              rw [t0, hset]
              exact no3 _ (by unfold turn; rw [if_neg (show ¬ (97 ≤ c ∧ c ≤ 122) by omega), if_pos (show 65 ≤ c ∧ c ≤ 90 from ⟨h65, h90⟩)]; omega)
            · refine ev_neg h90 ?_
              exact no3 _ (by unfold turn; rw [if_neg (show ¬ (97 ≤ c ∧ c ≤ 122) by omega), if_neg (show ¬ (65 ≤ c ∧ c ≤ 90) by omega)])
          · refine ev_neg h65 ?_
            exact no3 _ (by unfold turn; rw [if_neg (show ¬ (97 ≤ c ∧ c ≤ 122) by omega), if_neg (show ¬ (65 ≤ c ∧ c ≤ 90) by omega)])
theorem and255 (a : Int) : 0 ≤ Go.bits .and .u64 a 255 ∧ Go.bits .and .u64 a 255 ≤ 255 := by
  have h : (BitVec.ofInt 64 a &&& BitVec.ofInt 64 255).toNat ≤ 255 := by
    rw [BitVec.toNat_and]
    exact Nat.le_trans Nat.and_le_right (by decide)
  have e : Go.bits .and .u64 a 255 = IntKind.u64.wrap (((BitVec.ofInt 64 a &&& BitVec.ofInt 64 255).toNat : Nat) : Int) := rfl
  rw [e, wrap_u64 (by omega) (by omega)]
  omega
theorem next_some (code : List Int) (hc : ∀ y ∈ code, InU8 y) (at_ seed : Int) (h0 : 0 ≤ at_) (h1 : at_ ≤ 1099511627776) : ∃ v s, spec_l1Cur_next.f code at_ seed = some (v, at_ + 1, s) ∧ 0 ≤ v ∧ v < 256 := by
  have e : wrap64 (at_ + 1) = at_ + 1 := w64 (by omega) (by omega)
  have hw : ∀ a : Int, wrap64 (Go.bits .and .u64 a 255) = Go.bits .and .u64 a 255 := fun a => by have := and255 a; exact w64 (by omega) (by omega)
  unfold spec_l1Cur_next.f
  rw [e]
  by_cases h : at_ < (code.length : Int)
  · obtain ⟨i, rfl⟩ : ∃ i : Nat, at_ = (i : Int) := ⟨at_.toNat, by omega⟩
    have hv : 0 ≤ rd code (i : Int) ∧ rd code (i : Int) < 256 := by
      rw [rd_get (by omega)]
      have := hc _ (List.getElem_mem (by omega : i < code.length))
      exact ⟨this.1, by have := this.2; omega⟩
    have hr : wrap64 (rd code (i : Int)) = rd code (i : Int) := w64 (by omega) (by omega)
    rw [if_pos h, if_pos h0, hr]
    by_cases h2 : (i : Int) + 1 ≤ (code.length : Int)
    · rw [if_pos h2]; exact ⟨_, _, rfl, hv.1, hv.2⟩
    · rw [if_neg h2, hw]; exact ⟨_, _, rfl, (and255 _).1, by have := (and255 (IntKind.u64.wrap ((IntKind.u64.wrap ((IntKind.u64.wrap (seed * 6364136223846793005)) + (IntKind.u64.wrap (rd code (i : Int))))) + 1442695040888963407) / 1099511627776)).2; omega⟩
  · rw [if_neg h]
    by_cases h2 : at_ + 1 ≤ (code.length : Int)
    · rw [if_pos h2]; exact ⟨0, _, rfl, by omega, by omega⟩
    · rw [if_neg h2, hw]; exact ⟨_, _, rfl, (and255 _).1, by have := (and255 (IntKind.u64.wrap ((IntKind.u64.wrap ((IntKind.u64.wrap (seed * 6364136223846793005)))) + 1442695040888963407) / 1099511627776)).2; omega⟩
theorem pick_some (code : List Int) (hc : ∀ y ∈ code, InU8 y) (at_ seed n : Int) (h0 : 0 ≤ at_) (h1 : at_ ≤ 1099511627776) (n1 : 1 ≤ n) (n2 : n ≤ 200) : ∃ v a s, spec_l1Cur_pick.f code at_ seed n = some (v, a, s) ∧ 0 ≤ v ∧ v < n ∧ at_ ≤ a ∧ a ≤ at_ + 1 := by
  unfold spec_l1Cur_pick.f
  by_cases h : n ≤ 1
  · rw [if_pos h]; exact ⟨0, at_, seed, rfl, by omega, by omega, by omega, by omega⟩
  · obtain ⟨v, s, hv, v0, v1⟩ := next_some code hc at_ seed h0 h1
    rw [if_neg h, hv]
    simp only [Option.bind_some]
    rw [if_neg (by omega), if_neg (by omega)]
    refine ⟨Int.tmod v n, at_ + 1, s, rfl, Int.tmod_nonneg _ v0, Int.tmod_lt_of_pos _ (by omega), by omega, by omega⟩
theorem pick_any (code : List Int) (hc : ∀ y ∈ code, InU8 y) (at_ seed n : Int) (h0 : 0 ≤ at_) (h1 : at_ ≤ 1000000000) (n1 : 1 ≤ n) : ∃ v a s, spec_l1Cur_pick.f code at_ seed n = some (v, a, s) ∧ at_ ≤ a ∧ a ≤ at_ + 2 := by
  unfold spec_l1Cur_pick.f
  by_cases h : n ≤ 1
  · rw [if_pos h]; exact ⟨0, at_, seed, rfl, by omega, by omega⟩
  · obtain ⟨v, s, hv, _, _⟩ := next_some code hc at_ seed h0 (by omega)
    rw [if_neg h, hv]
    simp only [Option.bind_some]
    by_cases h2 : n > 200
    · obtain ⟨v2, s2, hv2, _, _⟩ := next_some code hc (at_ + 1) s (by omega) (by omega)
      rw [if_pos h2, hv2]
      simp only [Option.bind_some]
      rw [if_neg (by omega)]
      exact ⟨_, _, _, rfl, by omega, by omega⟩
    · rw [if_neg h2, if_neg (by omega)]
      exact ⟨_, _, _, rfl, by omega, by omega⟩
theorem one_any (code : List Int) (hc : ∀ y ∈ code, InU8 y) (at_ seed n : Int) (h0 : 0 ≤ at_) (h1 : at_ ≤ 1000000000) (n1 : 1 ≤ n) : ∃ v a s, spec_l1Cur_one.f code at_ seed n = some (v, a, s) ∧ at_ ≤ a ∧ a ≤ at_ + 2 := by
  obtain ⟨v, a, s, h, h2⟩ := pick_any code hc at_ seed n h0 h1 n1
  exact ⟨_, _, _, by unfold spec_l1Cur_one.f; rw [h]; rfl, h2⟩
theorem among_any (code : List Int) (hc : ∀ y ∈ code, InU8 y) (at_ seed : Int) (l : List Int) (h0 : 0 ≤ at_) (h1 : at_ ≤ 1000000000) (n1 : 1 ≤ l.length) (n2 : l.length ≤ 200) : ∃ v a s, spec_l1Cur_among.f code at_ seed l = some (v, a, s) ∧ v ∈ l ∧ at_ ≤ a ∧ a ≤ at_ + 2 := by
  obtain ⟨v, a, s, h, v0, v1, a0, a1⟩ := pick_some code hc at_ seed (l.length : Int) h0 (by omega) (by omega) (by omega)
  obtain ⟨i, rfl⟩ : ∃ i : Nat, v = (i : Int) := ⟨v.toNat, by omega⟩
  refine ⟨rd l (i : Int), a, s, ?_, ?_, a0, by omega⟩
  · unfold spec_l1Cur_among.f
    rw [h]
    simp only [Option.bind_some]
    rw [if_pos v0, if_pos v1]
  · rw [rd_get (by omega)]; exact List.getElem_mem _
def AlikeN (x y : Nat) : Prop := x = y ∨ (65 ≤ x ∧ x ≤ 122 ∧ 65 ≤ y ∧ y ≤ 122)
theorem cont_cases {x y : Nat} (h : AlikeN x y) : (x / 64 = 2 ∧ y = x) ∨ ((x / 64 == 2) = false ∧ (y / 64 == 2) = false) := by
  unfold AlikeN at h
  rcases h with rfl | h
  · by_cases hx : x / 64 = 2
    · exact .inl ⟨hx, rfl⟩
    · exact .inr ⟨by simpa using hx, by simpa using hx⟩
  · refine .inr ⟨?_, ?_⟩ <;> simp <;> omega
theorem dec_alike (m b0 b1 b2 b3 c0 c1 c2 c3 : Nat) (h0 : AlikeN b0 c0) (h1 : AlikeN b1 c1) (h2 : AlikeN b2 c2) (h3 : AlikeN b3 c3) : (dec m b0 b1 b2 b3).2 = (dec m c0 c1 c2 c3).2 ∧ ((dec m b0 b1 b2 b3).1 = 65533 ↔ (dec m c0 c1 c2 c3).1 = 65533) := by
  by_cases hb : b0 < 128
  · have hc : c0 < 128 := by unfold AlikeN at h0; omega
    unfold dec
    rw [if_pos hb, if_pos hc]
    refine ⟨rfl, ?_⟩
    show b0 = 65533 ↔ c0 = 65533
    omega
  · have hc : c0 = b0 := by unfold AlikeN at h0; omega
    subst hc
    rcases cont_cases h1 with ⟨_, rfl⟩ | ⟨k1, k1'⟩
    · rcases cont_cases h2 with ⟨_, rfl⟩ | ⟨k2, k2'⟩
      · rcases cont_cases h3 with ⟨_, rfl⟩ | ⟨k3, k3'⟩
        · exact ⟨rfl, Iff.rfl⟩
        · unfold dec
          rw [k3, k3']
          simp
      · unfold dec
        rw [k2, k2']
        simp
    · unfold dec
      rw [k1, k1']
      simp
theorem get_out (s : ByteArray) (i : Nat) (h : s.size ≤ i) : s.get! i = 0 := by
  have h' : ¬ i < s.data.size := by show ¬ i < s.size; omega
  show s.data[i]! = 0
  rw [getElem!_neg s.data i h']
  rfl
theorem decode_alike (s u : ByteArray) (hz : s.size = u.size) (h : ∀ i, i < s.size → AlikeN (s.get! i).toNat (u.get! i).toNat) (a : Nat) (ha : a < s.size) : (Utf8.decode s a).2 = (Utf8.decode u a).2 ∧ ((Utf8.decode s a).1 = 65533 ↔ (Utf8.decode u a).1 = 65533) := by
  have h' : ∀ i, AlikeN (s.get! i).toNat (u.get! i).toNat := by
    intro i
    by_cases hi : i < s.size
    · exact h i hi
    · rw [get_out s i (by omega), get_out u i (by omega)]; exact .inl rfl
  rw [decode_dec s a ha, decode_dec u a (by omega), hz]
  exact dec_alike _ _ _ _ _ _ _ _ _ (h' _) (h' _) (h' _) (h' _)
theorem runes_alike (s u : ByteArray) (hz : s.size = u.size) (h : ∀ i, i < s.size → AlikeN (s.get! i).toNat (u.get! i).toNat) : ∀ (n a : Nat), (65533 : Int) ∈ runesFrom s n a ↔ (65533 : Int) ∈ runesFrom u n a := by
  intro n
  induction n with
  | zero => intro a; simp [runesFrom]
  | succ n ih =>
    intro a
    simp only [runesFrom]
    by_cases ha : a < s.size
    · obtain ⟨e1, e2⟩ := decode_alike s u hz h a ha
      rw [if_pos ha, if_pos (show a < u.size by omega), e1, List.mem_cons, List.mem_cons, ih]
      have e3 : ((65533 : Int) = ((Utf8.decode s a).1 : Int)) ↔ ((65533 : Int) = ((Utf8.decode u a).1 : Int)) := by omega
      rw [e3]
    · rw [if_neg ha, if_neg (show ¬ a < u.size by omega)]
theorem get_bytes (s : ByteArray) (i : Nat) (h : i < s.size) : (bytesOf s)[i]? = some (((s.get! i).toNat : Nat) : Int) := by rw [bytes_at s i h, bt_nat s i h]
theorem runes_cvt (s : ByteArray) : (65533 : Int) ∈ runes s ↔ (65533 : Int) ∈ runes (strOfNums (cvt s.size (bytesOf s))) := by
  have hl : (bytesOf s).length = s.size := bytesOf_length s
  have hA := alike_cvt s.size (bytesOf s) (by omega)
  have hz : (strOfNums (cvt s.size (bytesOf s))).size = s.size := by rw [strOfNums_size, ← hA.1, hl]
  have hm : ∀ x ∈ cvt s.size (bytesOf s), 0 ≤ x ∧ x ≤ 255 := by
    intro x hx
    obtain ⟨i, hi, e⟩ := List.getElem_of_mem hx
    have hi2 : i < (bytesOf s).length := by rw [hA.1]; exact hi
    have hx0 := bytes_mem s _ (List.getElem_mem hi2)
    have := hA.2 i _ x (List.getElem?_eq_getElem hi2) (by rw [List.getElem?_eq_getElem hi, e])
    unfold Alike at this
    omega
  have hb := bytes_str _ hm
  unfold runes
  rw [hz]
  refine runes_alike s _ hz.symm (fun i hi => ?_) s.size 0
  have h1 := get_bytes s i hi
  have h2 := get_bytes (strOfNums (cvt s.size (bytesOf s))) i (by omega)
  rw [hb] at h2
  have := hA.2 i _ _ h1 h2
  unfold Alike at this
  unfold AlikeN
  omega
theorem index_ev (l : List Int) (v : Int) (hl : l.length < 1000000) : ∀ (n i : Nat), i + n = l.length → ∃ r, Ev (fun k => slices_Index_int_int.l0 k l v (l.length : Int) (i : Int)) r ∧ (r ≥ 0 ↔ v ∈ l.drop i) := by
  intro n
  induction n with
  | zero =>
    intro i hi
    refine ⟨-1, st_slices_Index_int_int_l0 (ev_neg (by omega) (ev_some rfl)), ?_⟩
    rw [List.drop_eq_nil_of_le (by omega)]
    simp
  | succ n ih =>
    intro i hi
    have hil : i < l.length := by omega
    rw [List.drop_eq_getElem_cons hil, List.mem_cons]
    by_cases h : v = l[i]
    · exact ⟨i, st_slices_Index_int_int_l0 (ev_pos (by omega) (ev_pos (by omega) (ev_pos (by omega) (ev_pos (by rw [rd_get hil]; exact h) (ev_some rfl))))), by simp [h]⟩
    · obtain ⟨r, hr, h2⟩ := ih (i + 1) (by omega)
      refine ⟨r, st_slices_Index_int_int_l0 (ev_pos (by omega) (ev_pos (by omega) (ev_pos (by omega) (ev_neg (by rw [rd_get hil]; exact h) ?_)))), by simp [h, h2]⟩
      rw [w64s i (by omega)]
      exact hr
theorem contains_ev (l : List Int) (v : Int) (hl : l.length < 1000000) : Ev (fun k => slices_Contains_int_int.f k l v) (decide (v ∈ l)) := by
  obtain ⟨r, hr, h⟩ := index_ev l v hl l.length 0 (by omega)
  refine Ev.bind hr (ev_some ?_)
  rw [List.drop_zero] at h
  exact decide_eq_decide.2 h
def outOf (s : ByteArray) : ByteArray × Bool := if (65533 : Int) ∈ runes s then ((⟨#[]⟩ : ByteArray), false) else (bracket (cvt s.size (bytesOf s)), true)
theorem runes_length (s : ByteArray) : (runes s).length ≤ s.size := runes_len s s.size 0
theorem impl_false (s : ByteArray) (hs : s.size ≤ 200) : Ev (fun k => impl_FalseLetters.f k s) (outOf s) := by
  have hl := runes_length s
  have hr : impl_runesOf.f s = some (runes s) := by
    unfold impl_runesOf.f
    exact if_pos (by omega)
  refine ev_neg (by omega) (ev_bindc hr (Ev.bind (contains_ev (runes s) 65533 (by omega)) ?_))
  unfold outOf
  by_cases h : (65533 : Int) ∈ runes s
  · rw [decide_eq_true h, if_pos h]
    exact st_impl_FalseLetters_j0 (ev_pos rfl (ev_some rfl))
  · rw [decide_eq_false h, if_neg h]
    refine st_impl_FalseLetters_j0 (ev_neg (by decide) ?_)
    have := impl_loop s hs s.size 0 [91] (by omega) (by omega) (by simp; omega)
    rw [List.drop_zero] at this
    rw [bracket_eq]
    exact this
theorem spec_scan (s : ByteArray) (hs : s.size ≤ 200) (l : List Int) (hl : l.length ≤ 1000) : ∀ (n i : Nat), i + n = l.length → Ev (fun k => spec_FalseLetters.l0 k s l (l.length : Int) (i : Int)) (if (65533 : Int) ∈ l.drop i then ((⟨#[]⟩ : ByteArray), false) else (bracket (cvt s.size (bytesOf s)), true)) := by
  intro n
  induction n with
  | zero =>
    intro i hi
    rw [List.drop_eq_nil_of_le (by omega), if_neg (by simp)]
    have := spec_loop s.size [] (bytesOf s) (by rw [bytesOf_length]; omega) (by rw [bytesOf_length]; simp; omega) (bytes_mem s)
    exact st_spec_FalseLetters_l0 (ev_neg (by omega) (ev_pos (by omega) this))
  | succ n ih =>
    intro i hi
    have hil : i < l.length := by omega
    rw [List.drop_eq_getElem_cons hil]
    by_cases h : l[i] = 65533
    · rw [if_pos (by simp [h])]
      exact st_spec_FalseLetters_l0 (ev_pos (by omega) (ev_pos (by omega) (ev_pos (by omega) (ev_pos (by rw [rd_get hil]; exact h) (ev_some rfl)))))
    · have e : ((65533 : Int) ∈ l[i] :: l.drop (i + 1)) ↔ (65533 : Int) ∈ l.drop (i + 1) := by
        rw [List.mem_cons]
        exact ⟨fun h' => h'.elim (fun h' => absurd h'.symm h) id, .inr⟩
      simp only [e]
      refine st_spec_FalseLetters_l0 (ev_pos (by omega) (ev_pos (by omega) (ev_pos (by omega) (ev_neg (by rw [rd_get hil]; exact h) ?_))))
      rw [w64s i (by omega)]
      exact ih (i + 1) (by omega)
theorem spec_false (s : ByteArray) (hs : s.size ≤ 200) : Ev (fun k => spec_FalseLetters.f k s) (outOf s) := by
  have hl := runes_length s
  refine ev_neg (by omega) (Ev.bind (runes_spec s (by omega)) ?_)
  have := spec_scan s hs (runes s) (by omega) (runes s).length 0 (by omega)
  rw [List.drop_zero] at this
  exact this
theorem of_some (code : List Int) (hc : ∀ y ∈ code, InU8 y) (at_ seed : Int) (h0 : 0 ≤ at_) (h1 : at_ ≤ 1099511627776) (l : List ByteArray) (hl : 1 ≤ l.length) (hl2 : l.length ≤ 200) (B : Nat) (hB : ∀ y ∈ l, y.size ≤ B) : ∃ t a s, spec_l1Cur_of.f code at_ seed l = some (t, a, s) ∧ t.size ≤ B ∧ at_ ≤ a ∧ a ≤ at_ + 1 := by
  obtain ⟨v, a, s, hv, v0, v1, a0, a1⟩ := pick_some code hc at_ seed (l.length : Int) h0 h1 (by omega) (by omega)
  obtain ⟨i, rfl⟩ : ∃ i : Nat, v = (i : Int) := ⟨v.toNat, by omega⟩
  unfold spec_l1Cur_of.f
  rw [hv]
  simp only [Option.bind_some]
  rw [if_pos v0, if_pos v1, rdOf_get (by omega)]
  exact ⟨_, a, s, rfl, hB _ (List.getElem_mem _), a0, a1⟩
theorem text_some (code : List Int) (hc : ∀ y ∈ code, InU8 y) : ∃ t, Ev (fun k => spec_DrawFalseLetters.f k code) t ∧ t.size ≤ 200 := by
  obtain ⟨n, a, s, hn, n0, n1, a0, a1⟩ := pick_some code hc 0 0 8 (by omega) (by omega) (by omega) (by omega)
  have key : ∀ m : Nat, m ≤ 8 → ∀ (b : ByteArray) (a s : Int), b.size + 6 * m ≤ 100 → 0 ≤ a → a + (m : Int) ≤ 1000 → ∃ t, Ev (fun k => spec_DrawFalseLetters.l0 k b (m : Int) code a s) t ∧ t.size ≤ 200 := by
    intro m
    induction m with
    | zero =>
      intro _ b a s hb g0 g1
      obtain ⟨v, a2, s2, hv, q0, q1⟩ := one_any code hc a s 16 g0 (by omega) (by omega)
      cases v with
      | false => exact ⟨b, st_spec_DrawFalseLetters_l0 (ev_neg (by omega) (ev_bindc hv (ev_neg (by simp) (ev_some rfl)))), by omega⟩
      | true =>
        obtain ⟨t, a3, s3, ht, t1, _, _⟩ := of_some code hc a2 s2 (by omega) (by omega) [(⟨#[255]⟩ : ByteArray), (⟨#[239, 191, 189]⟩ : ByteArray), (⟨#[195]⟩ : ByteArray)] (by decide) (by decide) 3 (by decide)
        exact ⟨b ++ t, st_spec_DrawFalseLetters_l0 (ev_neg (by omega) (ev_bindc hv (ev_pos rfl (ev_bindc ht (ev_pos (by show b.size + t.size ≤ _; omega) (ev_some rfl)))))), by rw [ByteArray.size_append]; omega⟩
    | succ m ih =>
      intro hm b a s hb g0 g1
      obtain ⟨t, a2, s2, ht, t1, q0, q1⟩ := of_some code hc a s g0 (by omega) [(⟨#[72, 101, 108, 108, 111, 32]⟩ : ByteArray), (⟨#[97, 122]⟩ : ByteArray), (⟨#[123, 119, 104, 111, 125]⟩ : ByteArray), (⟨#[123]⟩ : ByteArray), (⟨#[125]⟩ : ByteArray), (⟨#[230, 151, 165]⟩ : ByteArray), (⟨#[78, 110]⟩ : ByteArray)] (by decide) (by decide) 6 (by decide)
      obtain ⟨t', h2, h3⟩ := ih (by omega) (b ++ t) a2 s2 (by rw [ByteArray.size_append]; omega) (by omega) (by omega)
      refine ⟨t', st_spec_DrawFalseLetters_l0 (ev_pos (by omega) (ev_bindc ht (ev_pos (by show b.size + t.size ≤ _; omega) ?_))), h3⟩
      rw [show wrap64 (((m + 1 : Nat) : Int) - 1) = (m : Int) by rw [w64 (by omega) (by omega)]; omega]
      exact h2
  obtain ⟨m, rfl⟩ : ∃ m : Nat, n = (m : Int) := ⟨n.toNat, by omega⟩
  obtain ⟨t, h2, h3⟩ := key m (by omega) (⟨#[]⟩ : ByteArray) a s (by show 0 + 6 * m ≤ 100; omega) (by omega) (by omega)
  exact ⟨t, ev_bindc hn h2, h3⟩
theorem plural_draw (code : List Int) (hc : ∀ y ∈ code, InU8 y) : ∃ g n, Ev (fun k => spec_DrawPluralOf.f k code) (g, n) := by
  obtain ⟨t, a, s, ht, _, q0, q1⟩ := of_some code hc 0 0 (by omega) (by omega) [(⟨#[97, 114]⟩ : ByteArray), (⟨#[99, 115]⟩ : ByteArray), (⟨#[101, 110]⟩ : ByteArray), (⟨#[102, 114]⟩ : ByteArray), (⟨#[106, 97]⟩ : ByteArray), (⟨#[112, 108]⟩ : ByteArray), (⟨#[114, 117]⟩ : ByteArray)] (by decide) (by decide) 2 (by decide)
  obtain ⟨v, a2, s2, hv, p0, p1⟩ := one_any code hc a s 20 (by omega) (by omega) (by omega)
  have rest : ∀ (g : ByteArray) (a s : Int), 0 ≤ a → a ≤ 1000 → ∃ n, Ev (fun k => spec_DrawPluralOf.j0 k g code a s) (g, n) := by
    intro g a s g0 g1
    obtain ⟨x, a3, s3, hx, r0, r1⟩ := pick_any code hc a s 125 g0 (by omega) (by omega)
    obtain ⟨y, a4, s4, hy, u0, u1⟩ := one_any code hc a3 s3 6 (by omega) (by omega) (by omega)
    cases y with
    | false => exact ⟨x, st_spec_DrawPluralOf_j0 (ev_bindc hx (ev_bindc hy (ev_neg (by simp) (ev_some rfl))))⟩
    | true =>
      obtain ⟨z, a5, s5, hz, _⟩ := among_any code hc a4 s4 [(-1), 1000000000, 1000000001, 100, 101, 111, 112, 1012] (by omega) (by omega) (by decide) (by decide)
      exact ⟨z, st_spec_DrawPluralOf_j0 (ev_bindc hx (ev_bindc hy (ev_pos rfl (ev_bindc hz (ev_some rfl)))))⟩
  cases v with
  | false =>
    obtain ⟨n, h⟩ := rest t a2 s2 (by omega) (by omega)
    exact ⟨t, n, ev_bindc rfl (ev_bindc ht (ev_bindc hv (ev_neg (by simp) h)))⟩
  | true =>
    obtain ⟨t2, a3, s3, ht2, _, r0, r1⟩ := of_some code hc a2 s2 (by omega) (by omega) [(⟨#[]⟩ : ByteArray), (⟨#[100, 101]⟩ : ByteArray), (⟨#[69, 78]⟩ : ByteArray)] (by decide) (by decide) 2 (by decide)
    obtain ⟨n, h⟩ := rest t2 a3 s3 (by omega) (by omega)
    exact ⟨t2, n, ev_bindc rfl (ev_bindc ht (ev_bindc hv (ev_pos rfl (ev_bindc ht2 h))))⟩
theorem forms_loop (x1 : List Int) (p : Int) (fs : List Int) (hf : fs.length ≤ 1000) {r : Bool} : ∀ (n i : Nat) (b : Bool), i + n = fs.length → Ev (fun k => laws_FnWords.l0 k x1 p (b || (fs.drop i).any (· == p)) fs (fs.length : Int) (fs.length : Int)) r → Ev (fun k => laws_FnWords.l0 k x1 p b fs (fs.length : Int) (i : Int)) r := by
  intro n
  induction n with
  | zero =>
    intro i b hi h
    obtain rfl : i = fs.length := by omega
    rw [List.drop_length] at h
    simpa using h
  | succ n ih =>
    intro i b hi h
    have hil : i < fs.length := by omega
    rw [List.drop_eq_getElem_cons hil, List.any_cons, ← Bool.or_assoc] at h
    refine st_laws_FnWords_l0 (ev_pos (by omega) (ev_pos (by omega) (ev_pos (by omega) ?_)))
    rw [w64s i (by omega), rd_get hil]
    cases b with
    | true => exact ev_pos rfl (ih (i + 1) true (by omega) (by simpa using h))
    | false => exact ev_neg (by decide) (ih (i + 1) (fs[i] == p) (by omega) (by simpa using h))
theorem forms_short (L : List UInt8) : (formsL L).length ≤ 5 := by
  unfold formsL
  repeat' split
  all_goals simp
theorem FnWords : ∀ (l0 : List (Int)) (l1 : List (Int)), (l0.length * 1 ≤ 140737488351232 ∧ ∀ y ∈ l0, InU8 y) → (l1.length * 1 ≤ 140737488351232 ∧ ∀ y ∈ l1, InU8 y) → ∃ k, laws_FnWords.f k l0 l1 = some true := by
  intro code more gc gm
  refine Ev.rounds (g := fun k => laws_FnWords.f k code more) ?_
  refine ev_ite (fun _ => ev_some rfl) fun _ => ?_
  obtain ⟨g, n, hd⟩ := plural_draw code gc.2
  obtain ⟨p, hp1, hp2, hp3⟩ := plural_of g n
  refine Ev.bind hd (ev_bindc hp1 (ev_bindc hp2 (ev_pos rfl (Ev.bind (forms_some g) ?_))))
  have hs5 := forms_short g.toList
  refine forms_loop more p (formsL g.toList) (by omega) (formsL g.toList).length 0 false (by omega) ?_
  rw [List.drop_zero, Bool.false_or, hp3]
  refine st_laws_FnWords_l0 (ev_neg (by omega) (ev_neg (by simp) ?_))
  obtain ⟨s, hs, hz⟩ := text_some more gm.2
  refine Ev.bind hs (Ev.bind (impl_false s hz) (Ev.bind (spec_false s hz) (ev_neg (by simp) ?_)))
  have e1 : ((outOf s).1.toList != (outOf s).1.toList) = false := by simp
  rw [e1]
  refine st_laws_FnWords_j1 (ev_neg (by decide) ?_)
  unfold outOf
  by_cases hr : (65533 : Int) ∈ runes s
  · rw [if_pos hr]
    refine ev_neg (by decide) (ev_some ?_)
    rw [Lib.toList_data]
    rfl
  · rw [if_neg hr]
    have hl : (bytesOf s).length = s.size := bytesOf_length s
    have hA := alike_cvt s.size (bytesOf s) (by omega)
    obtain ⟨u, hu⟩ : ∃ u, u = strOfNums (cvt s.size (bytesOf s)) := ⟨_, rfl⟩
    have huz : u.size = s.size := by rw [hu, strOfNums_size, ← hA.1, hl]
    have hbz : (bracket (cvt s.size (bytesOf s))).size = s.size + 2 := by
      rw [bracket_eq, strOfNums_size, List.length_append, List.length_append, ← hA.1, hl]
      simp
      omega
    have hw : wrap64 (((bracket (cvt s.size (bytesOf s))).size : Int) - 1) = ((s.size + 1 : Nat) : Int) := by rw [hbz, w64 (by omega) (by omega)]; omega
    have hx : (bracket (cvt s.size (bytesOf s))).extract 1 (s.size + 1) = u := by
      have h91 : (⟨#[91]⟩ : ByteArray).size = 1 := rfl
      rw [hu]
      unfold bracket
      apply ByteArray.ext
      have hdz : (strOfNums (cvt s.size (bytesOf s))).data.size = s.size := by rw [hu] at huz; exact huz
      have hd2 : (strOfNums (cvt s.size (bytesOf s))).data.toList.length = s.size := by rw [Array.length_toList]; exact hdz
      apply Array.ext'
      rw [ByteArray.data_extract, Array.toList_extract]
      have e1 : ∀ a b : ByteArray, (a ++ b).data.toList = a.data.toList ++ b.data.toList := fun a b => by simp
      rw [e1, e1]
      show (([(91 : UInt8)] ++ (strOfNums (cvt s.size (bytesOf s))).data.toList ++ [(93 : UInt8)]).drop 1).take (s.size + 1 - 1) = _
      rw [List.append_assoc]
      show ((strOfNums (cvt s.size (bytesOf s))).data.toList ++ [(93 : UInt8)]).take (s.size + 1 - 1) = _
      rw [show s.size + 1 - 1 = s.size from rfl, List.take_left' hd2]
    have hm : ∀ x ∈ cvt s.size (bytesOf s), 0 ≤ x ∧ x ≤ 255 := by
      intro x hx
      obtain ⟨i, hi, e⟩ := List.getElem_of_mem hx
      have hi2 : i < (bytesOf s).length := by rw [hA.1]; exact hi
      have hx0 := bytes_mem s _ (List.getElem_mem hi2)
      have := hA.2 i _ x (List.getElem?_eq_getElem hi2) (by rw [List.getElem?_eq_getElem hi, e])
      unfold Alike at this
      omega
    have hb : bytesOf u = cvt s.size (bytesOf s) := by rw [hu]; exact bytes_str _ hm
    have hru : ¬ (65533 : Int) ∈ runes u := by rw [hu]; exact fun h => hr ((runes_cvt s).2 h)
    have h2 := impl_false u (by omega)
    have ho : outOf u = (bracket (bytesOf s), true) := by
      unfold outOf
      rw [if_neg hru, hb, huz, cvt_cvt s.size s.size (bytesOf s) (by omega) (by omega)]
    rw [ho] at h2
    refine ev_pos rfl ?_
    rw [hw]
    have t1 : (((s.size + 1 : Nat) : Int)).toNat = s.size + 1 := rfl
    rw [t1, hx]
    have h91 : (((⟨#[91]⟩ : ByteArray) ++ s)).size = 1 + s.size := by rw [ByteArray.size_append]; rfl
    refine ev_pos (by omega) (ev_pos (by show _ ≤ ((bracket (cvt s.size (bytesOf s))).size : Int); rw [hbz]; omega) (Ev.bind h2 (ev_pos rfl (ev_pos (by omega) (ev_pos (by omega) (ev_some ?_))))))
    unfold bracket
    rw [str_bytes]
    simp
end Go.Proofs.Ytnacjhgpanedoag.Pure
