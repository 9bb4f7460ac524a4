/- Texts of a row. -/
import Derived.Test.YtnacjhgpanedoacZFnExactGoodEntries3
import Derived.Test.YtnacjhgpanedoacZFnExactGoodEntries0
import Derived.SizedLaws
import Derived.ChangeArms
import Derived.OpenShut
import Derived.WideShapes
import Derived.WalkKit
import Derived.KernelRfl
import Derived.Laws.BitsLemmas
namespace Go.Proofs.Ytnacjhgpanedoac.PFnExactGoodEntries
open Go.RowKit Go.Proofs.YtnacjhgpanedoacW.PrintWords Go.Proofs.YtnacjhgpanedoacW.PrintLast Go.Proofs.YtnacjhgpanedoacW.PrintMore
attribute [local go_sem] max2_int min2_int max_two min_two max_three min_three max_four min_four   -- for this text's walks alone
set_option linter.unusedVariables false
set_option linter.unusedSimpArgs false
mutual
def impl_FormsOf.j0 : Nat → ByteArray → Bool → Option (List Int)
 | 0, _, _ => none
 | k + 1, x3, x4 => if x4 = true then (some (([1, 5] : List Int))) else (if x3.toList = ([106, 97] : List UInt8) then (some (([5] : List Int))) else (if x3.toList = ([99, 115] : List UInt8) then (some (([1, 3, 5] : List Int))) else (if x3.toList = ([112, 108] : List UInt8) then (impl_FormsOf.j1 k x3 true) else (impl_FormsOf.j1 k x3 (x3.toList == ([114, 117] : List UInt8))))))
def impl_FormsOf.j1 : Nat → ByteArray → Bool → Option (List Int)
 | 0, _, _ => none
 | k + 1, x3, x14 => if x14 = true then (some (([1, 3, 4] : List Int))) else (if x3.toList = ([97, 114] : List UInt8) then (some (([1, 2, 3, 4, 5] : List Int))) else (some ([] : List Int)))
end
def impl_FormsOf.f (k : Nat) (a0 : ByteArray) : Option (List Int) := if a0.toList = ([101, 110] : List UInt8) then (impl_FormsOf.j0 k a0 true) else (impl_FormsOf.j0 k a0 (a0.toList == ([102, 114] : List UInt8)))
theorem impl_FormsOf.mono_l : ∀ k, (∀ y0 y1, LeO (impl_FormsOf.j0 k y0 y1) (impl_FormsOf.j0 (k + 1) y0 y1)) ∧ (∀ y0 y1, LeO (impl_FormsOf.j1 k y0 y1) (impl_FormsOf.j1 (k + 1) y0 y1))
 | 0 => ⟨fun _ _ r h => by simp [impl_FormsOf.j0] at h, fun _ _ r h => by simp [impl_FormsOf.j1] at h⟩
 | k + 1 => by
  obtain ⟨ih0, ih1⟩ := impl_FormsOf.mono_l k
  refine ⟨?_, ?_⟩
  ·intro y0 y1
   unfold impl_FormsOf.j0
   repeat' first
   | (with_reducible exact ih0 _ _)
   | (with_reducible exact ih1 _ _)
   | (with_reducible first | exact LeO.refl _ | exact LeO.none _ | refine LeO.ite ?_ ?_ | refine LeO.bind ?_ (fun _ => ?_))
   | exact ih0 _ _
   | exact ih1 _ _ | exact LeO.none _ | refine LeO.ite ?_ ?_ | refine LeO.bind ?_ (fun _ => ?_)
  ·intro y0 y1
   unfold impl_FormsOf.j1
   repeat' first
   | (with_reducible exact ih0 _ _)
   | (with_reducible exact ih1 _ _)
   | (with_reducible first | exact LeO.refl _ | exact LeO.none _ | refine LeO.ite ?_ ?_ | refine LeO.bind ?_ (fun _ => ?_))
   | exact ih0 _ _
   | exact ih1 _ _ | exact LeO.none _ | refine LeO.ite ?_ ?_ | refine LeO.bind ?_ (fun _ => ?_)
theorem impl_FormsOf.mono : ∀ a0 k, LeO (impl_FormsOf.f k a0) (impl_FormsOf.f (k + 1) a0) := by
 intro a0 k
 obtain ⟨ih0, ih1⟩ := impl_FormsOf.mono_l k
 unfold impl_FormsOf.f
 repeat' first
   | (with_reducible exact ih0 _ _)
   | (with_reducible exact ih1 _ _)
   | (with_reducible first | exact LeO.refl _ | exact LeO.none _ | refine LeO.ite ?_ ?_ | refine LeO.bind ?_ (fun _ => ?_))
   | exact ih0 _ _
   | exact ih1 _ _ | exact LeO.none _ | refine LeO.ite ?_ ?_ | refine LeO.bind ?_ (fun _ => ?_)
set_option maxHeartbeats 8000000 in
set_option maxRecDepth 100000 in
theorem impl_FormsOf.calls (k : Nat) (a0 : ByteArray) (r : List Int) (w : World) (h : impl_FormsOf.f k a0 = some r) :
  Calls Try.prog 14 #[.string a0] w fun e w' => ∃ v0_ : Value, e = .returned (v0_) ∧ Kd.R (Kd.int .i64) 3 w' w.heap.size (fun _ => True) v0_ r ∧ Below w.heap.size w w' ∧ (r = [] → v0_ = .slice none 0 0) := by
 have HB := Aside0.mk (Below.refl w.heap.size w)
 have H : (if a0.toList = ([101, 110] : List UInt8) then (impl_FormsOf.j0 k a0 true) else (impl_FormsOf.j0 k a0 (a0.toList == ([102, 114] : List UInt8)))) = some r := h
 clear h
 have HC2 := Aside0.mk H
 clear H
 go_enter Try.func14, Try.ntmps14
 go_upto_if 4 with (fail)
 go_cut [4] (fun v4 wc => ∃ (kq : Nat) (x4_1 : Bool), v4 = .bool x4_1 ∧ Aside0 (impl_FormsOf.j0 kq a0 x4_1 = some r) ∧ Aside0 (kq ≤ k) ∧ Aside0 (Below w.heap.size w wc))
 case first =>
  have H := HC2.out
  clear HC2
  by_cases c3 : a0.toList = ([101, 110] : List UInt8)
  ·rw [if_pos c3] at H
   have c3b0 : (a0.toList == ([101, 110] : List UInt8)) = true := beq_iff_eq.mpr c3
   have c3b1 : (a0.toList != ([101, 110] : List UInt8)) = false := bne_eq_false_iff_eq.mpr c3
   clear c3
   (first | rw [c3b0] | (simp only [i64_w, i32_w]; rw [c3b0]) | (rw [c3b2]; simp only [Bool.not_false, Bool.not_true]) | skip)
   have H' := Aside0.mk H
   clear H
   go_wp2
   go_meet
   case rel => exact ⟨_, (true), tE, H', ⟨by first | omega | exact Nat.le_refl _⟩, ⟨by repeat (first | (with_reducible first | exact HB.out | apply below_alloc | apply pw_below_drewN | apply below_drew1) | exact HB.out)⟩⟩
  ·rw [if_neg c3] at H
   have c3b0 : (a0.toList == ([101, 110] : List UInt8)) = false := beq_eq_false_iff_ne.mpr c3
   have c3b1 : (a0.toList != ([101, 110] : List UInt8)) = true := bne_iff_ne.mpr c3
   (first | rw [c3b0] | (simp only [i64_w, i32_w]; rw [c3b0]) | (rw [c3b2]; simp only [Bool.not_false, Bool.not_true]) | skip)
   have H' := Aside0.mk H
   clear H
   go_wp2
   go_meet
   case rel => exact ⟨_, ((a0.toList == ([102, 114] : List UInt8))), tE, H', ⟨by first | omega | exact Nat.le_refl _⟩, ⟨by repeat (first | (with_reducible first | exact HB.out | apply below_alloc | apply pw_below_drewN | apply below_drew1) | exact HB.out)⟩⟩
 case rest =>
  clear HC2
  try clear c1
  try clear p2
  try clear c3
  try clear c3b0
  try clear c3b1
  try clear c3b2
  obtain ⟨kq, x4_1, rfl, HA, HJ1, HB⟩ := hcut
  cases kq with
  | zero => exact absurd HA.out (by simp [impl_FormsOf.j0])
  | succ kj1 =>
   have H := HA.out
   clear HA
   simp only [impl_FormsOf.j0] at H
   by_cases c4 : x4_1 = true
   ·subst c4
    have H1 : (some (([1, 5] : List Int))) = some r := by rw [if_pos rfl] at H; exact H
    clear H
    have H := H1
    clear H1
    obtain ⟨y161, hy161⟩ : ∃ y_ : List Int, y_ = (([1, 5] : List Int)) := ⟨_, rfl⟩
    replace H : (some y161) = some r := by first | (rw [hy161]; with_reducible exact H) | (have H2_ := (Option.bind_some _ _).symm.trans H; rw [hy161]; with_reducible exact H2_) | (have H2_ := (Option.bind_some _ _).symm.trans H; with_reducible exact H2_) | with_reducible exact H | (rw [hy161]; exact H) | exact H
    have Ny161 := Aside0.mk hy161
    clear hy161
    obtain rfl := Option.some.inj H
    go_wp2_with (first | ((with_reducible refine gate_dst (N := 7) rfl ?_); refine Kd.R_lit (Kd.int .i64) _ 3 ?hg (N := 7) ?hd (xs := ([1, 5] : List Int)) (inner := [.int .i64 1, .int .i64 5]) (ok := fun _ => True) (okp := fun _ => True) ?hr ?hp (fun _ hk => hk) trivial (Below.refl _ _) (Nat.le_refl _) (by simp) ?_; (case hd => rfl); (case hg => rfl); (case hr => exact sE); (case hp => exact (Reps.one (show Kd.M (Kd.int .i64) _ _ _ 1 [.int .i64 1] from rfl) (Reps.one (show Kd.M (Kd.int .i64) _ _ _ 5 [.int .i64 5] from rfl) (Reps.none _ _)))); intro v162 w5 ho6 hb hg_ hnew_; clear hg_ hnew_; (first | rw [← Ny161.out] at ho6 | (simp only [Int.reduceToNat] at ho6; rw [← Ny161.out] at ho6)); have HO163 := Aside0.mk (Kd.R_lower ho6 (below_size (lU))); replace HB := bH (lU) hb; clear hb ho6))
    go_ret
    exact ⟨_, eE, by (with_reducible repeat (first | apply Kd.R_alloc | apply Kd.R_drewN | apply Kd.R_drew)); exact HO163.out, lU, fun hr_ => absurd (hr_.symm.trans Ny161.out) (by simp)⟩
   ·replace c4 := Bool.eq_false_iff.mpr c4
    subst c4
    have H1 : (if a0.toList = ([106, 97] : List UInt8) then (some (([5] : List Int))) else (if a0.toList = ([99, 115] : List UInt8) then (some (([1, 3, 5] : List Int))) else (if a0.toList = ([112, 108] : List UInt8) then (impl_FormsOf.j1 kj1 a0 true) else (impl_FormsOf.j1 kj1 a0 (a0.toList == ([114, 117] : List UInt8)))))) = some r := by rw [if_neg (show ¬ (false = true) by decide)] at H; exact H
    clear H
    have H := H1
    clear H1
    by_cases c7 : a0.toList = ([106, 97] : List UInt8)
    ·rw [if_pos c7] at H
     have c7b0 : (a0.toList == ([106, 97] : List UInt8)) = true := beq_iff_eq.mpr c7
     have c7b1 : (a0.toList != ([106, 97] : List UInt8)) = false := bne_eq_false_iff_eq.mpr c7
     clear c7
     obtain ⟨y164, hy164⟩ : ∃ y_ : List Int, y_ = (([5] : List Int)) := ⟨_, rfl⟩
     replace H : (some y164) = some r := by first | (rw [hy164]; with_reducible exact H) | (have H2_ := (Option.bind_some _ _).symm.trans H; rw [hy164]; with_reducible exact H2_) | (have H2_ := (Option.bind_some _ _).symm.trans H; with_reducible exact H2_) | with_reducible exact H | (rw [hy164]; exact H) | exact H
     have Ny164 := Aside0.mk hy164
     clear hy164
     obtain rfl := Option.some.inj H
     go_wp2_with (first | ((with_reducible refine gate_dst (N := 10) rfl ?_); refine Kd.R_lit (Kd.int .i64) _ 3 ?hg (N := 10) ?hd (xs := ([5] : List Int)) (inner := [.int .i64 5]) (ok := fun _ => True) (okp := fun _ => True) ?hr ?hp (fun _ hk => hk) trivial (Below.refl _ _) (Nat.le_refl _) (by simp) ?_; (case hd => rfl); (case hg => rfl); (case hr => exact sE); (case hp => exact (Reps.one (show Kd.M (Kd.int .i64) _ _ _ 5 [.int .i64 5] from rfl) (Reps.none _ _))); intro v165 w8 ho9 hb hg_ hnew_; clear hg_ hnew_; (first | rw [← Ny164.out] at ho9 | (simp only [Int.reduceToNat] at ho9; rw [← Ny164.out] at ho9)); have HO166 := Aside0.mk (Kd.R_lower ho9 (below_size (lU))); replace HB := bH (lU) hb; clear hb ho9))
     go_ret
     exact ⟨_, eE, by (with_reducible repeat (first | apply Kd.R_alloc | apply Kd.R_drewN | apply Kd.R_drew)); exact HO166.out, lU, fun hr_ => absurd (hr_.symm.trans Ny164.out) (by simp)⟩
    ·rw [if_neg c7] at H
     have c7b0 : (a0.toList == ([106, 97] : List UInt8)) = false := beq_eq_false_iff_ne.mpr c7
     have c7b1 : (a0.toList != ([106, 97] : List UInt8)) = true := bne_iff_ne.mpr c7
     by_cases c10 : a0.toList = ([99, 115] : List UInt8)
     ·rw [if_pos c10] at H
      have c10b0 : (a0.toList == ([99, 115] : List UInt8)) = true := beq_iff_eq.mpr c10
      have c10b1 : (a0.toList != ([99, 115] : List UInt8)) = false := bne_eq_false_iff_eq.mpr c10
      clear c10
      obtain ⟨y167, hy167⟩ : ∃ y_ : List Int, y_ = (([1, 3, 5] : List Int)) := ⟨_, rfl⟩
      replace H : (some y167) = some r := by first | (rw [hy167]; with_reducible exact H) | (have H2_ := (Option.bind_some _ _).symm.trans H; rw [hy167]; with_reducible exact H2_) | (have H2_ := (Option.bind_some _ _).symm.trans H; with_reducible exact H2_) | with_reducible exact H | (rw [hy167]; exact H) | exact H
      have Ny167 := Aside0.mk hy167
      clear hy167
      obtain rfl := Option.some.inj H
      go_wp2_with (first | ((with_reducible refine gate_dst (N := 13) rfl ?_); refine Kd.R_lit (Kd.int .i64) _ 3 ?hg (N := 13) ?hd (xs := ([1, 3, 5] : List Int)) (inner := [.int .i64 1, .int .i64 3, .int .i64 5]) (ok := fun _ => True) (okp := fun _ => True) ?hr ?hp (fun _ hk => hk) trivial (Below.refl _ _) (Nat.le_refl _) (by simp) ?_; (case hd => rfl); (case hg => rfl); (case hr => exact sE); (case hp => exact (Reps.one (show Kd.M (Kd.int .i64) _ _ _ 1 [.int .i64 1] from rfl) (Reps.one (show Kd.M (Kd.int .i64) _ _ _ 3 [.int .i64 3] from rfl) (Reps.one (show Kd.M (Kd.int .i64) _ _ _ 5 [.int .i64 5] from rfl) (Reps.none _ _))))); intro v168 w11 ho12 hb hg_ hnew_; clear hg_ hnew_; (first | rw [← Ny167.out] at ho12 | (simp only [Int.reduceToNat] at ho12; rw [← Ny167.out] at ho12)); have HO169 := Aside0.mk (Kd.R_lower ho12 (below_size (lU))); replace HB := bH (lU) hb; clear hb ho12))
      go_ret
      exact ⟨_, eE, by (with_reducible repeat (first | apply Kd.R_alloc | apply Kd.R_drewN | apply Kd.R_drew)); exact HO169.out, lU, fun hr_ => absurd (hr_.symm.trans Ny167.out) (by simp)⟩
     ·rw [if_neg c10] at H
      have c10b0 : (a0.toList == ([99, 115] : List UInt8)) = false := beq_eq_false_iff_ne.mpr c10
      have c10b1 : (a0.toList != ([99, 115] : List UInt8)) = true := bne_iff_ne.mpr c10
      have HC13 := Aside0.mk H
      clear H
      go_upto_if 14 with (fail)
      go_cut [14] (fun v14 wc => ∃ (kq : Nat) (x14_12 : Bool), v14 = .bool x14_12 ∧ Aside0 (impl_FormsOf.j1 kq a0 x14_12 = some r) ∧ Aside0 (kq ≤ kj1) ∧ Aside0 (Below w.heap.size w wc))
      case first =>
       have H := HC13.out
       clear HC13
       by_cases c14 : a0.toList = ([112, 108] : List UInt8)
       ·rw [if_pos c14] at H
        have c14b0 : (a0.toList == ([112, 108] : List UInt8)) = true := beq_iff_eq.mpr c14
        have c14b1 : (a0.toList != ([112, 108] : List UInt8)) = false := bne_eq_false_iff_eq.mpr c14
        clear c14
        (first | rw [c14b0] | (simp only [i64_w, i32_w]; rw [c14b0]) | (rw [c14b2]; simp only [Bool.not_false, Bool.not_true]) | skip)
        have H' := Aside0.mk H
        clear H
        go_wp2
        go_meet
        case rel => exact ⟨_, (true), tE, H', ⟨by have := HJ1.out; first | omega | exact Nat.le_refl _⟩, ⟨by repeat (first | (with_reducible first | exact HB.out | apply below_alloc | apply pw_below_drewN | apply below_drew1) | exact HB.out)⟩⟩
       ·rw [if_neg c14] at H
        have c14b0 : (a0.toList == ([112, 108] : List UInt8)) = false := beq_eq_false_iff_ne.mpr c14
        have c14b1 : (a0.toList != ([112, 108] : List UInt8)) = true := bne_iff_ne.mpr c14
        (first | rw [c14b0] | (simp only [i64_w, i32_w]; rw [c14b0]) | (rw [c14b2]; simp only [Bool.not_false, Bool.not_true]) | skip)
        have H' := Aside0.mk H
        clear H
        go_wp2
        go_meet
        case rel => exact ⟨_, ((a0.toList == ([114, 117] : List UInt8))), tE, H', ⟨by have := HJ1.out; first | omega | exact Nat.le_refl _⟩, ⟨by repeat (first | (with_reducible first | exact HB.out | apply below_alloc | apply pw_below_drewN | apply below_drew1) | exact HB.out)⟩⟩
      case rest =>
       clear HC13
       try clear c1
       try clear p2
       try clear c3
       try clear c3b0
       try clear c3b1
       try clear c3b2
       try clear c4
       try clear c7
       try clear c7b0
       try clear c7b1
       try clear c10
       try clear c10b0
       try clear c10b1
       try clear c14
       try clear c14b0
       try clear c14b1
       try clear c14b2
       try clear p2
       obtain ⟨kq, x14_12, rfl, HA, HJ12, HB⟩ := hcut
       cases kq with
       | zero => exact absurd HA.out (by simp [impl_FormsOf.j1])
       | succ kj12 =>
        have H := HA.out
        clear HA
        simp only [impl_FormsOf.j1] at H
        by_cases c15 : x14_12 = true
        ·subst c15
         have H1 : (some (([1, 3, 4] : List Int))) = some r := by rw [if_pos rfl] at H; exact H
         clear H
         have H := H1
         clear H1
         obtain ⟨y170, hy170⟩ : ∃ y_ : List Int, y_ = (([1, 3, 4] : List Int)) := ⟨_, rfl⟩
         replace H : (some y170) = some r := by first | (rw [hy170]; with_reducible exact H) | (have H2_ := (Option.bind_some _ _).symm.trans H; rw [hy170]; with_reducible exact H2_) | (have H2_ := (Option.bind_some _ _).symm.trans H; with_reducible exact H2_) | with_reducible exact H | (rw [hy170]; exact H) | exact H
         have Ny170 := Aside0.mk hy170
         clear hy170
         obtain rfl := Option.some.inj H
         go_wp2_with (first | ((with_reducible refine gate_dst (N := 17) rfl ?_); refine Kd.R_lit (Kd.int .i64) _ 3 ?hg (N := 17) ?hd (xs := ([1, 3, 4] : List Int)) (inner := [.int .i64 1, .int .i64 3, .int .i64 4]) (ok := fun _ => True) (okp := fun _ => True) ?hr ?hp (fun _ hk => hk) trivial (Below.refl _ _) (Nat.le_refl _) (by simp) ?_; (case hd => rfl); (case hg => rfl); (case hr => exact sE); (case hp => exact (Reps.one (show Kd.M (Kd.int .i64) _ _ _ 1 [.int .i64 1] from rfl) (Reps.one (show Kd.M (Kd.int .i64) _ _ _ 3 [.int .i64 3] from rfl) (Reps.one (show Kd.M (Kd.int .i64) _ _ _ 4 [.int .i64 4] from rfl) (Reps.none _ _))))); intro v171 w16 ho17 hb hg_ hnew_; clear hg_ hnew_; (first | rw [← Ny170.out] at ho17 | (simp only [Int.reduceToNat] at ho17; rw [← Ny170.out] at ho17)); have HO172 := Aside0.mk (Kd.R_lower ho17 (below_size (lU))); replace HB := bH (lU) hb; clear hb ho17))
         go_ret
         exact ⟨_, eE, by (with_reducible repeat (first | apply Kd.R_alloc | apply Kd.R_drewN | apply Kd.R_drew)); exact HO172.out, lU, fun hr_ => absurd (hr_.symm.trans Ny170.out) (by simp)⟩
        ·replace c15 := Bool.eq_false_iff.mpr c15
         subst c15
         have H1 : (if a0.toList = ([97, 114] : List UInt8) then (some (([1, 2, 3, 4, 5] : List Int))) else (some ([] : List Int))) = some r := by rw [if_neg (show ¬ (false = true) by decide)] at H; exact H
         clear H
         have H := H1
         clear H1
         by_cases c18 : a0.toList = ([97, 114] : List UInt8)
         ·rw [if_pos c18] at H
          have c18b0 : (a0.toList == ([97, 114] : List UInt8)) = true := beq_iff_eq.mpr c18
          have c18b1 : (a0.toList != ([97, 114] : List UInt8)) = false := bne_eq_false_iff_eq.mpr c18
          clear c18
          obtain ⟨y173, hy173⟩ : ∃ y_ : List Int, y_ = (([1, 2, 3, 4, 5] : List Int)) := ⟨_, rfl⟩
          replace H : (some y173) = some r := by first | (rw [hy173]; with_reducible exact H) | (have H2_ := (Option.bind_some _ _).symm.trans H; rw [hy173]; with_reducible exact H2_) | (have H2_ := (Option.bind_some _ _).symm.trans H; with_reducible exact H2_) | with_reducible exact H | (rw [hy173]; exact H) | exact H
          have Ny173 := Aside0.mk hy173
          clear hy173
          obtain rfl := Option.some.inj H
          go_wp2_with (first | ((with_reducible refine gate_dst (N := 20) rfl ?_); refine Kd.R_lit (Kd.int .i64) _ 3 ?hg (N := 20) ?hd (xs := ([1, 2, 3, 4, 5] : List Int)) (inner := [.int .i64 1, .int .i64 2, .int .i64 3, .int .i64 4, .int .i64 5]) (ok := fun _ => True) (okp := fun _ => True) ?hr ?hp (fun _ hk => hk) trivial (Below.refl _ _) (Nat.le_refl _) (by simp) ?_; (case hd => rfl); (case hg => rfl); (case hr => exact sE); (case hp => exact (Reps.one (show Kd.M (Kd.int .i64) _ _ _ 1 [.int .i64 1] from rfl) (Reps.one (show Kd.M (Kd.int .i64) _ _ _ 2 [.int .i64 2] from rfl) (Reps.one (show Kd.M (Kd.int .i64) _ _ _ 3 [.int .i64 3] from rfl) (Reps.one (show Kd.M (Kd.int .i64) _ _ _ 4 [.int .i64 4] from rfl) (Reps.one (show Kd.M (Kd.int .i64) _ _ _ 5 [.int .i64 5] from rfl) (Reps.none _ _))))))); intro v174 w19 ho20 hb hg_ hnew_; clear hg_ hnew_; (first | rw [← Ny173.out] at ho20 | (simp only [Int.reduceToNat] at ho20; rw [← Ny173.out] at ho20)); have HO175 := Aside0.mk (Kd.R_lower ho20 (below_size (lU))); replace HB := bH (lU) hb; clear hb ho20))
          go_ret
          exact ⟨_, eE, by (with_reducible repeat (first | apply Kd.R_alloc | apply Kd.R_drewN | apply Kd.R_drew)); exact HO175.out, lU, fun hr_ => absurd (hr_.symm.trans Ny173.out) (by simp)⟩
         ·rw [if_neg c18] at H
          have c18b0 : (a0.toList == ([97, 114] : List UInt8)) = false := beq_eq_false_iff_ne.mpr c18
          have c18b1 : (a0.toList != ([97, 114] : List UInt8)) = true := bne_iff_ne.mpr c18
          obtain rfl := Option.some.inj H
          go_wp2
          go_ret
          exact ⟨.slice none 0 0, eE, by first | exact Kd.R_nil _ _ _ _ _ | exact Kd.N_nil _ _ _ _ _ | exact Kd.V_nil _ _ _ _ _ | exact Kd.Q_nil _ _ _ _ _ | exact Kd.S_nil _ _ _ _ _, lU, by first | rfl | exact fun _ => rfl⟩
def impl_isLetter.f (a0 : Int) : Option (Bool) := if a0 ≥ 97 then (if a0 ≤ 122 then (some true) else (if a0 ≥ 65 then (some (decide (a0 ≤ 90))) else (some false))) else (if a0 ≥ 65 then (some (decide (a0 ≤ 90))) else (some false))
set_option maxHeartbeats 8000000 in
set_option maxRecDepth 100000 in
theorem impl_isLetter.calls (a0 : Int) (r : Bool) (w : World) (h : impl_isLetter.f a0 = some r) :
  Calls Try.prog 29 #[.int .u8 a0] w fun e w' => e = .returned (.bool r) ∧ Drawn0 w w' := by
 have H : (if a0 ≥ 97 then (if a0 ≤ 122 then (some true) else (if a0 ≥ 65 then (some (decide (a0 ≤ 90))) else (some false))) else (if a0 ≥ 65 then (some (decide (a0 ≤ 90))) else (some false))) = some r := h
 clear h
 by_cases c2 : a0 ≥ 97
 ·rw [if_pos c2] at H
  have c2b0 : decide (97 ≤ a0) = true := decide_eq_true c2
  clear c2
  by_cases c3 : a0 ≤ 122
  ·rw [if_pos c3] at H
   have c3b0 : decide (a0 ≤ 122) = true := decide_eq_true c3
   clear c3
   obtain rfl := Option.some.inj H
   go_enter Try.func29, Try.ntmps29
   go_wp2
   go_ret
   exact ⟨by first | rfl | (simp; done) | (simp [*]; done) | exact not_isEmpty _ | exact (not_isEmpty _).symm | exact is_empty _ | exact (is_empty _).symm, by repeat (first | exact Drawn0.refl _ | apply Drawn0.step)⟩
  ·rw [if_neg c3] at H
   have c3b0 : decide (a0 ≤ 122) = false := decide_eq_false c3
   clear c3
   by_cases c4 : a0 ≥ 65
   ·rw [if_pos c4] at H
    have c4b0 : decide (65 ≤ a0) = true := decide_eq_true c4
    clear c4
    obtain rfl := Option.some.inj H
    go_enter Try.func29, Try.ntmps29
    go_wp2
    go_ret
    exact ⟨by first | rfl | (simp; done) | (simp [*]; done) | exact not_isEmpty _ | exact (not_isEmpty _).symm | exact is_empty _ | exact (is_empty _).symm, by repeat (first | exact Drawn0.refl _ | apply Drawn0.step)⟩
   ·rw [if_neg c4] at H
    have c4b0 : decide (65 ≤ a0) = false := decide_eq_false c4
    clear c4
    obtain rfl := Option.some.inj H
    go_enter Try.func29, Try.ntmps29
    go_wp2
    go_ret
    exact ⟨by first | rfl | (simp; done) | (simp [*]; done) | exact not_isEmpty _ | exact (not_isEmpty _).symm | exact is_empty _ | exact (is_empty _).symm, by repeat (first | exact Drawn0.refl _ | apply Drawn0.step)⟩
 ·rw [if_neg c2] at H
  have c2b0 : decide (97 ≤ a0) = false := decide_eq_false c2
  clear c2
  by_cases c5 : a0 ≥ 65
  ·rw [if_pos c5] at H
   have c5b0 : decide (65 ≤ a0) = true := decide_eq_true c5
   clear c5
   obtain rfl := Option.some.inj H
   go_enter Try.func29, Try.ntmps29
   go_wp2
   go_ret
   exact ⟨by first | rfl | (simp; done) | (simp [*]; done) | exact not_isEmpty _ | exact (not_isEmpty _).symm | exact is_empty _ | exact (is_empty _).symm, by repeat (first | exact Drawn0.refl _ | apply Drawn0.step)⟩
  ·rw [if_neg c5] at H
   have c5b0 : decide (65 ≤ a0) = false := decide_eq_false c5
   clear c5
   obtain rfl := Option.some.inj H
   go_enter Try.func29, Try.ntmps29
   go_wp2
   go_ret
   exact ⟨by first | rfl | (simp; done) | (simp [*]; done) | exact not_isEmpty _ | exact (not_isEmpty _).symm | exact is_empty _ | exact (is_empty _).symm, by repeat (first | exact Drawn0.refl _ | apply Drawn0.step)⟩
def impl_isDigit.f (a0 : Int) : Option (Bool) := if a0 ≥ 48 then (some (decide (a0 ≤ 57))) else (some false)
set_option maxHeartbeats 8000000 in
set_option maxRecDepth 100000 in
theorem impl_isDigit.calls (a0 : Int) (r : Bool) (w : World) (h : impl_isDigit.f a0 = some r) :
  Calls Try.prog 30 #[.int .u8 a0] w fun e w' => e = .returned (.bool r) ∧ Drawn0 w w' := by
 have H : (if a0 ≥ 48 then (some (decide (a0 ≤ 57))) else (some false)) = some r := h
 clear h
 by_cases c2 : a0 ≥ 48
 ·rw [if_pos c2] at H
  have c2b0 : decide (48 ≤ a0) = true := decide_eq_true c2
  clear c2
  obtain rfl := Option.some.inj H
  go_enter Try.func30, Try.ntmps30
  go_wp2
  go_ret
  exact ⟨by first | rfl | (simp; done) | (simp [*]; done) | exact not_isEmpty _ | exact (not_isEmpty _).symm | exact is_empty _ | exact (is_empty _).symm, by repeat (first | exact Drawn0.refl _ | apply Drawn0.step)⟩
 ·rw [if_neg c2] at H
  have c2b0 : decide (48 ≤ a0) = false := decide_eq_false c2
  clear c2
  obtain rfl := Option.some.inj H
  go_enter Try.func30, Try.ntmps30
  go_wp2
  go_ret
  exact ⟨by first | rfl | (simp; done) | (simp [*]; done) | exact not_isEmpty _ | exact (not_isEmpty _).symm | exact is_empty _ | exact (is_empty _).symm, by repeat (first | exact Drawn0.refl _ | apply Drawn0.step)⟩
def impl_inRange.f (a0 : Int) (a1 : Int) (a2 : Int) : Option (Bool) := if a1 ≤ a0 then (some (decide (a0 ≤ a2))) else (some false)
set_option maxHeartbeats 8000000 in
set_option maxRecDepth 100000 in
theorem impl_inRange.calls (a0 : Int) (a1 : Int) (a2 : Int) (r : Bool) (w : World) (h : impl_inRange.f a0 a1 a2 = some r) :
  Calls Try.prog 31 #[.int .i64 a0, .int .i64 a1, .int .i64 a2] w fun e w' => e = .returned (.bool r) ∧ Drawn0 w w' := by
 have H : (if a1 ≤ a0 then (some (decide (a0 ≤ a2))) else (some false)) = some r := h
 clear h
 by_cases c4 : a1 ≤ a0
 ·rw [if_pos c4] at H
  have c4b0 : decide (a1 ≤ a0) = true := decide_eq_true c4
  clear c4
  obtain rfl := Option.some.inj H
  go_enter Try.func31, Try.ntmps31
  go_wp2
  go_ret
  exact ⟨by first | rfl | (simp; done) | (simp [*]; done) | exact not_isEmpty _ | exact (not_isEmpty _).symm | exact is_empty _ | exact (is_empty _).symm, by repeat (first | exact Drawn0.refl _ | apply Drawn0.step)⟩
 ·rw [if_neg c4] at H
  have c4b0 : decide (a1 ≤ a0) = false := decide_eq_false c4
  clear c4
  obtain rfl := Option.some.inj H
  go_enter Try.func31, Try.ntmps31
  go_wp2
  go_ret
  exact ⟨by first | rfl | (simp; done) | (simp [*]; done) | exact not_isEmpty _ | exact (not_isEmpty _).symm | exact is_empty _ | exact (is_empty _).symm, by repeat (first | exact Drawn0.refl _ | apply Drawn0.step)⟩
def impl_GoodName.l0 : Nat → ByteArray → Int → Int → Option (Bool)
 | 0, _, _, _ => none
 | k + 1, x0, x5, x6 => if x6 < x5 then (if 0 ≤ x6 then (if x6 < (x0.size : Int) then ((impl_isLetter.f (bt x0 x6)).bind fun t177 => (if t177 = true then (impl_GoodName.l0 k x0 x5 (wrap64 (x6 + 1))) else (if (bt x0 x6) = 95 then (impl_GoodName.l0 k x0 x5 (wrap64 (x6 + 1))) else (if x6 = 0 then (some false) else ((impl_isDigit.f (bt x0 x6)).bind fun t178 => (if t178 = true then (impl_GoodName.l0 k x0 x5 (wrap64 (x6 + 1))) else (some false))))))) else (none)) else (none)) else ((impl_inRange.f (x0.size : Int) 1 20).bind fun t176 => (some t176))
def impl_GoodName.f (k : Nat) (a0 : ByteArray) : Option (Bool) := impl_GoodName.l0 k a0 (a0.size : Int) 0
theorem impl_GoodName.mono_l : ∀ k, (∀ y0 y1 y2, LeO (impl_GoodName.l0 k y0 y1 y2) (impl_GoodName.l0 (k + 1) y0 y1 y2))
 | 0 => fun _ _ _ r h => by simp [impl_GoodName.l0] at h
 | k + 1 => by
  have ih0 := impl_GoodName.mono_l k
  ·intro y0 y1 y2
   unfold impl_GoodName.l0
   repeat' first
   | (with_reducible exact ih0 _ _ _)
   | (with_reducible first | exact LeO.refl _ | exact LeO.none _ | refine LeO.ite ?_ ?_ | refine LeO.bind ?_ (fun _ => ?_))
   | exact ih0 _ _ _ | exact LeO.none _ | refine LeO.ite ?_ ?_ | refine LeO.bind ?_ (fun _ => ?_)
theorem impl_GoodName.mono : ∀ a0 k, LeO (impl_GoodName.f k a0) (impl_GoodName.f (k + 1) a0) := by
 intro a0 k
 have ih0 := impl_GoodName.mono_l k
 unfold impl_GoodName.f
 repeat' first
   | (with_reducible exact ih0 _ _ _)
   | (with_reducible first | exact LeO.refl _ | exact LeO.none _ | refine LeO.ite ?_ ?_ | refine LeO.bind ?_ (fun _ => ?_))
   | exact ih0 _ _ _ | exact LeO.none _ | refine LeO.ite ?_ ?_ | refine LeO.bind ?_ (fun _ => ?_)
set_option maxHeartbeats 8000000 in
set_option maxRecDepth 100000 in
theorem impl_GoodName.calls (k : Nat) (a0 : ByteArray) (r : Bool) (w : World) (h : impl_GoodName.f k a0 = some r) :
  Calls Try.prog 23 #[.string a0] w fun e w' => e = .returned (.bool r) ∧ Drawn0 w w' := by
 have H : (impl_GoodName.l0 k a0 (a0.size : Int) 0) = some r := h
 clear h
 have H' := Aside0.mk H
 clear H
 go_enter Try.func23, Try.ntmps23
 go_wp2
 go_loopg [6] k (fun kq v6 w' => ∃ (x6_1 : Int), v6 = .int .i64 x6_1 ∧ Aside0 (impl_GoodName.l0 kq a0 (a0.size : Int) x6_1 = some r) ∧ Aside0 (kq ≤ k) ∧ Drawn0 w w')
 case atStart => exact ⟨(0), tE, H', ⟨Nat.le_refl _⟩, by repeat (first | exact Drawn0.refl _ | apply Drawn0.step)⟩
 case round =>
  clear H'
  obtain ⟨x6_1, rfl, HA, HK1, ⟨m1, rfl⟩⟩ := hrel
  cases gk with
  | zero => exact absurd HA.out (by simp [impl_GoodName.l0])
  | succ k1 =>
   have H := HA.out
   clear HA
   simp only [impl_GoodName.l0] at H
   by_cases c2 : x6_1 < (a0.size : Int)
   ·rw [if_pos c2] at H
    have c2b0 : decide (x6_1 < (a0.size : Int)) = true := decide_eq_true c2
    clear c2
    by_cases c3 : 0 ≤ x6_1
    ·rw [if_pos c3] at H
     have c3b0 : decide (0 ≤ x6_1) = true := decide_eq_true c3
     clear c3
     by_cases c4 : x6_1 < (a0.size : Int)
     ·rw [if_pos c4] at H
      have c4b0 : decide (x6_1 < (a0.size : Int)) = true := decide_eq_true c4
      clear c4
      replace H := Option.bind_eq_some_iff.mp H
      obtain ⟨t177, A60, H⟩ := H
      replace H : (if t177 = true then (impl_GoodName.l0 k1 a0 (a0.size : Int) (wrap64 (x6_1 + 1))) else (if (bt a0 x6_1) = 95 then (impl_GoodName.l0 k1 a0 (a0.size : Int) (wrap64 (x6_1 + 1))) else (if x6_1 = 0 then (some false) else ((impl_isDigit.f (bt a0 x6_1)).bind fun t178 => (if t178 = true then (impl_GoodName.l0 k1 a0 (a0.size : Int) (wrap64 (x6_1 + 1))) else (some false)))))) = some r := H
      have A6 := Aside0.mk A60
      clear A60
      by_cases c7 : t177 = true
      ·subst c7
       have H1 : (impl_GoodName.l0 k1 a0 (a0.size : Int) (wrap64 (x6_1 + 1))) = some r := by rw [if_pos rfl] at H; exact H
       clear H
       have H := H1
       clear H1
       have H' := Aside0.mk H
       clear H
       have p5 : 0 ≤ (x6_1 : Int) := of_decide_eq_true hE
       have q5 : x6_1 < (a0.size : Int) := of_decide_eq_true hE
       have hx5 := bt_at a0 x6_1
       replace p5 := eq_true p5
       replace q5 := eq_true q5
       go_wp2_with (first | ((with_reducible refine gate_callee (f := 29) rfl ?_); refine goesL_ (some 12) rfl rfl Try.func29 (by kernel_rfl) rfl #[.int .u8 (bt a0 x6_1)] rfl aE ?_; (with_reducible refine (impl_isLetter.calls (bt a0 x6_1) true _ A6.out).mono ?_); rintro e w' ⟨rfl, ⟨nd, rfl⟩⟩; refine ⟨_, rfl, ?_⟩))
       go_roundg k1
       case measure => have := HK1.out; omega
       case rel => exact ⟨(wrap64 (x6_1 + 1)), tE, H', ⟨by have := HK1.out; omega⟩, by repeat (first | exact Drawn0.refl _ | apply Drawn0.step)⟩
      ·replace c7 := Bool.eq_false_iff.mpr c7
       subst c7
       have H1 : (if (bt a0 x6_1) = 95 then (impl_GoodName.l0 k1 a0 (a0.size : Int) (wrap64 (x6_1 + 1))) else (if x6_1 = 0 then (some false) else ((impl_isDigit.f (bt a0 x6_1)).bind fun t178 => (if t178 = true then (impl_GoodName.l0 k1 a0 (a0.size : Int) (wrap64 (x6_1 + 1))) else (some false))))) = some r := by rw [if_neg (show ¬ (false = true) by decide)] at H; exact H
       clear H
       have H := H1
       clear H1
       by_cases c9 : (bt a0 x6_1) = 95
       ·rw [if_pos c9] at H
        have c9b0 : ((bt a0 x6_1) == 95) = true := beq_iff_eq.mpr c9
        have c9b1 : ((bt a0 x6_1) != 95) = false := bne_eq_false_iff_eq.mpr c9
        clear c9
        have H' := Aside0.mk H
        clear H
        have p5 : 0 ≤ (x6_1 : Int) := of_decide_eq_true hE
        have q5 : x6_1 < (a0.size : Int) := of_decide_eq_true hE
        have hx5 := bt_at a0 x6_1
        replace p5 := eq_true p5
        replace q5 := eq_true q5
        go_wp2_with (first | ((with_reducible refine gate_callee (f := 29) rfl ?_); refine goesL_ (some 12) rfl rfl Try.func29 (by kernel_rfl) rfl #[.int .u8 (bt a0 x6_1)] rfl aE ?_; (with_reducible refine (impl_isLetter.calls (bt a0 x6_1) false _ A6.out).mono ?_); rintro e w' ⟨rfl, ⟨nd, rfl⟩⟩; refine ⟨_, rfl, ?_⟩; have p8 : 0 ≤ (x6_1 : Int) := of_decide_eq_true hE; have q8 : x6_1 < (a0.size : Int) := of_decide_eq_true hE; have hx8 := bt_at a0 x6_1; replace p8 := eq_true p8; replace q8 := eq_true q8))
        go_roundg k1
        case measure => have := HK1.out; omega
        case rel => exact ⟨(wrap64 (x6_1 + 1)), tE, H', ⟨by have := HK1.out; omega⟩, by repeat (first | exact Drawn0.refl _ | apply Drawn0.step)⟩
       ·rw [if_neg c9] at H
        have c9b0 : ((bt a0 x6_1) == 95) = false := beq_eq_false_iff_ne.mpr c9
        have c9b1 : ((bt a0 x6_1) != 95) = true := bne_iff_ne.mpr c9
        by_cases c10 : x6_1 = 0
        ·rw [if_pos c10] at H
         have c10b0 : (x6_1 == 0) = true := beq_iff_eq.mpr c10
         have c10b1 : (x6_1 != 0) = false := bne_eq_false_iff_eq.mpr c10
         clear c10
         obtain rfl := Option.some.inj H
         have p5 : 0 ≤ (x6_1 : Int) := of_decide_eq_true hE
         have q5 : x6_1 < (a0.size : Int) := of_decide_eq_true hE
         have hx5 := bt_at a0 x6_1
         replace p5 := eq_true p5
         replace q5 := eq_true q5
         go_wp2_with (first | ((with_reducible refine gate_callee (f := 29) rfl ?_); refine goesL_ (some 12) rfl rfl Try.func29 (by kernel_rfl) rfl #[.int .u8 (bt a0 x6_1)] rfl aE ?_; (with_reducible refine (impl_isLetter.calls (bt a0 x6_1) false _ A6.out).mono ?_); rintro e w' ⟨rfl, ⟨nd, rfl⟩⟩; refine ⟨_, rfl, ?_⟩; have p8 : 0 ≤ (x6_1 : Int) := of_decide_eq_true hE; have q8 : x6_1 < (a0.size : Int) := of_decide_eq_true hE; have hx8 := bt_at a0 x6_1; replace p8 := eq_true p8; replace q8 := eq_true q8))
         go_ret
         exact ⟨by first | rfl | (simp; done) | (simp [*]; done) | exact not_isEmpty _ | exact (not_isEmpty _).symm | exact is_empty _ | exact (is_empty _).symm, by repeat (first | exact Drawn0.refl _ | apply Drawn0.step)⟩
        ·rw [if_neg c10] at H
         have c10b0 : (x6_1 == 0) = false := beq_eq_false_iff_ne.mpr c10
         have c10b1 : (x6_1 != 0) = true := bne_iff_ne.mpr c10
         replace H := Option.bind_eq_some_iff.mp H
         obtain ⟨t178, A120, H⟩ := H
         replace H : (if t178 = true then (impl_GoodName.l0 k1 a0 (a0.size : Int) (wrap64 (x6_1 + 1))) else (some false)) = some r := H
         have A12 := Aside0.mk A120
         clear A120
         by_cases c13 : t178 = true
         ·subst c13
          have H1 : (impl_GoodName.l0 k1 a0 (a0.size : Int) (wrap64 (x6_1 + 1))) = some r := by rw [if_pos rfl] at H; exact H
          clear H
          have H := H1
          clear H1
          have H' := Aside0.mk H
          clear H
          have p5 : 0 ≤ (x6_1 : Int) := of_decide_eq_true hE
          have q5 : x6_1 < (a0.size : Int) := of_decide_eq_true hE
          have hx5 := bt_at a0 x6_1
          replace p5 := eq_true p5
          replace q5 := eq_true q5
          go_wp2_with (first | ((with_reducible refine gate_callee (f := 29) rfl ?_); refine goesL_ (some 12) rfl rfl Try.func29 (by kernel_rfl) rfl #[.int .u8 (bt a0 x6_1)] rfl aE ?_; (with_reducible refine (impl_isLetter.calls (bt a0 x6_1) false _ A6.out).mono ?_); rintro e w' ⟨rfl, ⟨nd, rfl⟩⟩; refine ⟨_, rfl, ?_⟩; have p8 : 0 ≤ (x6_1 : Int) := of_decide_eq_true hE; have q8 : x6_1 < (a0.size : Int) := of_decide_eq_true hE; have hx8 := bt_at a0 x6_1; replace p8 := eq_true p8; replace q8 := eq_true q8; have p11 : 0 ≤ (x6_1 : Int) := of_decide_eq_true hE; have q11 : x6_1 < (a0.size : Int) := of_decide_eq_true hE; have hx11 := bt_at a0 x6_1; replace p11 := eq_true p11; replace q11 := eq_true q11) | (go_at_call 30; (with_reducible refine (impl_isDigit.calls (bt a0 x6_1) true _ A12.out).mono ?_); rintro e w' ⟨rfl, ⟨nd, rfl⟩⟩))
          go_roundg k1
          case measure => have := HK1.out; omega
          case rel => exact ⟨(wrap64 (x6_1 + 1)), tE, H', ⟨by have := HK1.out; omega⟩, by repeat (first | exact Drawn0.refl _ | apply Drawn0.step)⟩
         ·replace c13 := Bool.eq_false_iff.mpr c13
          subst c13
          have H1 : (some false) = some r := by rw [if_neg (show ¬ (false = true) by decide)] at H; exact H
          clear H
          have H := H1
          clear H1
          obtain rfl := Option.some.inj H
          have p5 : 0 ≤ (x6_1 : Int) := of_decide_eq_true hE
          have q5 : x6_1 < (a0.size : Int) := of_decide_eq_true hE
          have hx5 := bt_at a0 x6_1
          replace p5 := eq_true p5
          replace q5 := eq_true q5
          go_wp2_with (first | ((with_reducible refine gate_callee (f := 29) rfl ?_); refine goesL_ (some 12) rfl rfl Try.func29 (by kernel_rfl) rfl #[.int .u8 (bt a0 x6_1)] rfl aE ?_; (with_reducible refine (impl_isLetter.calls (bt a0 x6_1) false _ A6.out).mono ?_); rintro e w' ⟨rfl, ⟨nd, rfl⟩⟩; refine ⟨_, rfl, ?_⟩; have p8 : 0 ≤ (x6_1 : Int) := of_decide_eq_true hE; have q8 : x6_1 < (a0.size : Int) := of_decide_eq_true hE; have hx8 := bt_at a0 x6_1; replace p8 := eq_true p8; replace q8 := eq_true q8; have p11 : 0 ≤ (x6_1 : Int) := of_decide_eq_true hE; have q11 : x6_1 < (a0.size : Int) := of_decide_eq_true hE; have hx11 := bt_at a0 x6_1; replace p11 := eq_true p11; replace q11 := eq_true q11) | (go_at_call 30; (with_reducible refine (impl_isDigit.calls (bt a0 x6_1) false _ A12.out).mono ?_); rintro e w' ⟨rfl, ⟨nd, rfl⟩⟩))
          go_ret
          exact ⟨by first | rfl | (simp; done) | (simp [*]; done) | exact not_isEmpty _ | exact (not_isEmpty _).symm | exact is_empty _ | exact (is_empty _).symm, by repeat (first | exact Drawn0.refl _ | apply Drawn0.step)⟩
     ·rw [if_neg c4] at H
      exact absurd H (by simp)
    ·rw [if_neg c3] at H
     exact absurd H (by simp)
   ·rw [if_neg c2] at H
    have c2b0 : decide (x6_1 < (a0.size : Int)) = false := decide_eq_false c2
    clear c2
    replace H := Option.bind_eq_some_iff.mp H
    obtain ⟨t176, A140, H⟩ := H
    replace H : (some t176) = some r := H
    have A14 := Aside0.mk A140
    clear A140
    obtain rfl := Option.some.inj H
    go_wp2_with (first | ((with_reducible refine gate_callee (f := 31) rfl ?_); refine goesL_ (some 34) rfl rfl Try.func31 (by kernel_rfl) rfl #[.int .i64 (a0.size : Int), .int .i64 1, .int .i64 20] rfl aE ?_; (with_reducible refine (impl_inRange.calls (a0.size : Int) 1 20 t176 _ A14.out).mono ?_); rintro e w' ⟨rfl, ⟨nd, rfl⟩⟩; refine ⟨_, rfl, ?_⟩))
    go_ret
    exact ⟨by first | rfl | (simp; done) | (simp [*]; done) | exact not_isEmpty _ | exact (not_isEmpty _).symm | exact is_empty _ | exact (is_empty _).symm, by repeat (first | exact Drawn0.refl _ | apply Drawn0.step)⟩
def impl_areKeyed.l0 : Nat → List (S36) → List (S36) → Int → Int → Option (Bool)
 | 0, _, _, _, _ => none
 | k + 1, x0, x5, x6, x7 => if x7 < x6 then (if 0 ≤ x7 then (if x7 < (x5.length : Int) then ((impl_GoodName.f k ((rd_T36 x5 x7).f0)).bind fun t181 => (if t181 = true then (if x7 > 0 then (if 0 ≤ (wrap64 (x7 - 1)) then (if (wrap64 (x7 - 1)) < (x0.length : Int) then (if ((Op.bytesLess (((rd_T36 x0 (wrap64 (x7 - 1))).f0).toList) (((rd_T36 x5 x7).f0).toList)) = true) then (impl_areKeyed.l0 k x0 x5 x6 (wrap64 (x7 + 1))) else (some false)) else (none)) else (none)) else (impl_areKeyed.l0 k x0 x5 x6 (wrap64 (x7 + 1)))) else (some false))) else (none)) else (none)) else (some (decide ((x0.length : Int) ≤ 60)))
def impl_areKeyed.f (k : Nat) (l0 : List (S36)) : Option (Bool) := impl_areKeyed.l0 k l0 l0 (l0.length : Int) 0
theorem impl_areKeyed.mono_l : ∀ k, (∀ y0 y1 y2 y3, LeO (impl_areKeyed.l0 k y0 y1 y2 y3) (impl_areKeyed.l0 (k + 1) y0 y1 y2 y3))
 | 0 => fun _ _ _ _ r h => by simp [impl_areKeyed.l0] at h
 | k + 1 => by
  have ih0 := impl_areKeyed.mono_l k
  ·intro y0 y1 y2 y3
   unfold impl_areKeyed.l0
   repeat' first
   | (with_reducible exact ih0 _ _ _ _)
   | (with_reducible exact impl_GoodName.mono _ _)
   | (with_reducible first | exact LeO.refl _ | exact LeO.none _ | refine LeO.ite ?_ ?_ | refine LeO.bind ?_ (fun _ => ?_))
   | exact ih0 _ _ _ _
   | exact impl_GoodName.mono _ _ | exact LeO.none _ | refine LeO.ite ?_ ?_ | refine LeO.bind ?_ (fun _ => ?_)
theorem impl_areKeyed.mono : ∀ a0 k, LeO (impl_areKeyed.f k a0) (impl_areKeyed.f (k + 1) a0) := by
 intro a0 k
 have ih0 := impl_areKeyed.mono_l k
 unfold impl_areKeyed.f
 repeat' first
   | (with_reducible exact ih0 _ _ _ _)
   | (with_reducible exact impl_GoodName.mono _ _)
   | (with_reducible first | exact LeO.refl _ | exact LeO.none _ | refine LeO.ite ?_ ?_ | refine LeO.bind ?_ (fun _ => ?_))
   | exact ih0 _ _ _ _
   | exact impl_GoodName.mono _ _ | exact LeO.none _ | refine LeO.ite ?_ ?_ | refine LeO.bind ?_ (fun _ => ?_)
set_option maxHeartbeats 8000000 in
set_option maxRecDepth 100000 in
theorem impl_areKeyed.calls (k : Nat) (A0 : Option Addr) (c0 : Nat) (l0 : List (S36)) (r : Bool) (w : World) (hr0 : Kd.C k36 w A0 l0.length l0) (hc0 : l0.length ≤ c0) (h : impl_areKeyed.f k l0 = some r) :
  Calls Try.prog 15 #[.slice A0 l0.length c0] w fun e w' => e = .returned (.bool r) ∧ Below w.heap.size w w' := by
 have hu36 := Try.underlying36
 have HR0 := Aside0.mk hr0
 have HC0 := Aside0.mk hc0
 clear hr0 hc0
 have HB := Aside0.mk (Below.refl w.heap.size w)
 have H : (impl_areKeyed.l0 k l0 l0 (l0.length : Int) 0) = some r := h
 clear h
 have H' := Aside0.mk H
 clear H
 go_enter Try.func15, Try.ntmps15
 go_wp2
 repeat (go_quiet (fail); try go_wp2)
 go_loopg [7] k (fun kq v7 w' => ∃ (x7_1 : Int), v7 = .int .i64 x7_1 ∧ Aside0 (impl_areKeyed.l0 kq l0 l0 (l0.length : Int) x7_1 = some r) ∧ Aside0 (kq ≤ k) ∧ Aside0 (Below w.heap.size w w'))
 case atStart => exact ⟨(0), tE, H', ⟨Nat.le_refl _⟩, ⟨by repeat (first | (with_reducible first | exact HB.out | apply below_alloc | apply pw_below_drewN | apply below_drew1) | exact HB.out)⟩⟩
 case round =>
  clear H'
  try clear c1
  obtain ⟨x7_1, rfl, HA, HK1, HB⟩ := hrel
  cases gk with
  | zero => exact absurd HA.out (by simp [impl_areKeyed.l0])
  | succ k1 =>
   have H := HA.out
   clear HA
   simp only [impl_areKeyed.l0] at H
   by_cases c2 : x7_1 < (l0.length : Int)
   ·rw [if_pos c2] at H
    have c2b0 : decide (x7_1 < (l0.length : Int)) = true := decide_eq_true c2
    clear c2
    by_cases c3 : 0 ≤ x7_1
    ·rw [if_pos c3] at H
     have c3b0 : decide (0 ≤ x7_1) = true := decide_eq_true c3
     clear c3
     by_cases c4 : x7_1 < (l0.length : Int)
     ·rw [if_pos c4] at H
      have c4b0 : decide (x7_1 < (l0.length : Int)) = true := decide_eq_true c4
      clear c4
      replace H := Option.bind_eq_some_iff.mp H
      obtain ⟨t181, A50, H⟩ := H
      replace H : (if t181 = true then (if x7_1 > 0 then (if 0 ≤ (wrap64 (x7_1 - 1)) then (if (wrap64 (x7_1 - 1)) < (l0.length : Int) then (if ((Op.bytesLess (((rd_T36 l0 (wrap64 (x7_1 - 1))).f0).toList) (((rd_T36 l0 x7_1).f0).toList)) = true) then (impl_areKeyed.l0 k1 l0 l0 (l0.length : Int) (wrap64 (x7_1 + 1))) else (some false)) else (none)) else (none)) else (impl_areKeyed.l0 k1 l0 l0 (l0.length : Int) (wrap64 (x7_1 + 1)))) else (some false)) = some r := H
      have A5 := Aside0.mk A50
      clear A50
      by_cases c6 : t181 = true
      ·subst c6
       have H1 : (if x7_1 > 0 then (if 0 ≤ (wrap64 (x7_1 - 1)) then (if (wrap64 (x7_1 - 1)) < (l0.length : Int) then (if ((Op.bytesLess (((rd_T36 l0 (wrap64 (x7_1 - 1))).f0).toList) (((rd_T36 l0 x7_1).f0).toList)) = true) then (impl_areKeyed.l0 k1 l0 l0 (l0.length : Int) (wrap64 (x7_1 + 1))) else (some false)) else (none)) else (none)) else (impl_areKeyed.l0 k1 l0 l0 (l0.length : Int) (wrap64 (x7_1 + 1)))) = some r := by rw [if_pos rfl] at H; exact H
       clear H
       have H := H1
       clear H1
       by_cases c7 : x7_1 > 0
       ·rw [if_pos c7] at H
        have c7b0 : decide (0 < x7_1) = true := decide_eq_true c7
        clear c7
        obtain ⟨ji8, hji8⟩ : ∃ j_ : Int, (wrap64 (x7_1 - 1)) = j_ := ⟨_, rfl⟩
        replace H : (if 0 ≤ (ji8) then (if (ji8) < (l0.length : Int) then (if ((Op.bytesLess (((rd_T36 l0 (ji8)).f0).toList) (((rd_T36 l0 x7_1).f0).toList)) = true) then (impl_areKeyed.l0 k1 l0 l0 (l0.length : Int) (wrap64 (x7_1 + 1))) else (some false)) else (none)) else (none)) = some r := by first | (rw [hji8] at H; exact H) | (simp only [hji8] at H ⊢; exact H)
        (try rw [hji8] at A5)
        have hji8w : (IntKind.i64.wrap (x7_1 - 1)) = ji8 := (i64_w _).trans hji8
        by_cases c9 : 0 ≤ (ji8)
        ·rw [if_pos c9] at H
         have c9b0 : decide (0 ≤ (ji8)) = true := decide_eq_true c9
         clear c9
         by_cases c10 : (ji8) < (l0.length : Int)
         ·rw [if_pos c10] at H
          have c10b0 : decide ((ji8) < (l0.length : Int)) = true := decide_eq_true c10
          clear c10
          by_cases c11 : ((Op.bytesLess (((rd_T36 l0 (ji8)).f0).toList) (((rd_T36 l0 x7_1).f0).toList)) = true)
          ·rw [if_pos c11] at H
           have c11b0 : (Op.bytesLess (((rd_T36 l0 (ji8)).f0).toList) (((rd_T36 l0 x7_1).f0).toList)) = true := c11
           clear c11
           have H' := Aside0.mk H
           clear H
           have p179 : 0 ≤ (x7_1 : Int) := of_decide_eq_true hE
           have q179 : x7_1 < (l0.length : Int) := of_decide_eq_true hE
           obtain ⟨ad179, A179_1, c179_1, e179, hx179_0, hx179_1, hx179_2, hl179_1, hi179_1⟩ := at_T36 HR0.out x7_1 p179 q179
           cases e179
           replace hx179_0 := (HB.out.cell (World.block_lt_of_cell? w _ hx179_0)).trans hx179_0
           replace hx179_1 := (HB.out.cell (World.block_lt_of_cell? w _ hx179_1)).trans hx179_1
           replace hx179_2 := (HB.out.cell (World.block_lt_of_cell? w _ hx179_2)).trans hx179_2
           have HR179_1 := Aside0.mk hi179_1
           have HC179_1 := Aside0.mk hl179_1
           clear hi179_1 hl179_1
           replace p179 := eq_true p179
           replace q179 := eq_true q179
           go_wp2_with (first | ((with_reducible refine gate_dst (N := 4) rfl ?_); refine box_event rfl (N := 4) rfl (cs := #[.string (⟨#[]⟩ : ByteArray), .slice none 0 0, .bool false]) (t := 36) sE ?_; intro gb180 hg w12 hbox hb; have BK180 := Aside0.mk hbox; have GW180 := gS w hg (lU); have GE180 := gS w hg (lU); replace HB := bH (lU) hb; clear hb hbox hg; have hcz13_0 := cz BK180 0 (.string (⟨#[]⟩ : ByteArray)); have hcz13_1 := cz BK180 1 (.slice none 0 0); have hcz13_2 := cz BK180 2 (.bool false); have hfz13_0 := fz BK180 0; have hfz13_1 := fz BK180 1; have hfz13_2 := fz BK180 2) | ((with_reducible refine gate_store (t := 36) (p := 4) rfl ?_); (try (rw [drewN_self w12]; generalize hq_ : World.drewN w12 _ = w12; replace BK180 := Aside0.mk (blk_at hq_ BK180.out); replace HB := Aside0.mk (below_at hq_ HB.out); clear hq_)); refine store_event (t := 36) (p := 4) (v := ?vo_w14) (w1 := (((w12.setCell ⟨gb180, 0, none⟩ (.string ((rd_T36 l0 x7_1).f0))).setCell ⟨gb180, 1, none⟩ (.slice A179_1 ((rd_T36 l0 x7_1).f1).length c179_1)).setCell ⟨gb180, 2, none⟩ (.bool ((rd_T36 l0 x7_1).f2)))) ?hg ?ho ?hn ?hr ?_; (case ho => rfl); (case hg => rfl); (case hn => rfl); (case hr => first | (go_simp; done) | (go_simp; rfl) | (have hq0_ := (blk_cell BK180.out 0).trans (show _ = some _ from rfl); have hf0_ := blk_frozen BK180.out 0; have hq1_ := (blk_cell BK180.out 1).trans (show _ = some _ from rfl); have hf1_ := blk_frozen BK180.out 1; have hq2_ := (blk_cell BK180.out 2).trans (show _ = some _ from rfl); have hf2_ := blk_frozen BK180.out 2; first | (go_simp; done) | (go_simp; rfl))); intro w14 hw; replace BK180 : Aside0 (w14.heap[gb180]? = some (.cells #[.string ((rd_T36 l0 x7_1).f0), .slice A179_1 ((rd_T36 l0 x7_1).f1).length c179_1, .bool ((rd_T36 l0 x7_1).f2)] 36 (0, 0))) := ⟨(by rw [hw]; exact (by refine bU ?_; refine blk_put (cs := #[.string ((rd_T36 l0 x7_1).f0), .slice A179_1 ((rd_T36 l0 x7_1).f1).length c179_1, .bool false]) ?_ 2 _ rfl; refine bU ?_; refine blk_put (cs := #[.string ((rd_T36 l0 x7_1).f0), .slice none 0 0, .bool false]) ?_ 1 _ rfl; refine bU ?_; refine blk_put (cs := #[.string (⟨#[]⟩ : ByteArray), .slice none 0 0, .bool false]) ?_ 0 _ rfl; refine bU ?_; exact BK180.out))⟩; replace HB : Aside0 (Below w.heap.size w w14) := ⟨(by rw [hw]; exact (lV1 GE180))⟩; clear hw; have hcz15_0 := cz BK180 0 (.string ((rd_T36 l0 x7_1).f0)); have hcz15_1 := cz BK180 1 (.slice A179_1 ((rd_T36 l0 x7_1).f1).length c179_1); have hcz15_2 := cz BK180 2 (.bool ((rd_T36 l0 x7_1).f2)); have hfz15_0 := fz BK180 0; have hfz15_1 := fz BK180 1; have hfz15_2 := fz BK180 2) | (go_at_call 23; (with_reducible refine (impl_GoodName.calls k1 ((rd_T36 l0 x7_1).f0) true _ A5.out).mono ?_); rintro e w' ⟨rfl, ⟨nd, rfl⟩⟩; (try first | exact ⟨rfl, _, World.drewN_drewN _ _ _⟩ | exact ⟨rfl, _, Eq.trans (World.drewN_drewN _ _ _) (congrArg (World.drewN _) (Nat.add_assoc _ _ _))⟩); have p182 : 0 ≤ ((ji8) : Int) := of_decide_eq_true hE; have q182 : (ji8) < (l0.length : Int) := of_decide_eq_true hE; obtain ⟨ad182, A182_1, c182_1, e182, hx182_0, hx182_1, hx182_2, hl182_1, hi182_1⟩ := at_T36 HR0.out (ji8) p182 q182; obtain rfl : ad179 = ad182 := (by injection e182); replace hx182_0 := (HB.out.cell (World.block_lt_of_cell? w _ hx182_0)).trans hx182_0; replace hx182_1 := (HB.out.cell (World.block_lt_of_cell? w _ hx182_1)).trans hx182_1; replace hx182_2 := (HB.out.cell (World.block_lt_of_cell? w _ hx182_2)).trans hx182_2; have HR182_1 := Aside0.mk hi182_1; have HC182_1 := Aside0.mk hl182_1; clear hi182_1 hl182_1; replace p182 := eq_true p182; replace q182 := eq_true q182))
           repeat (go_quiet (first | ((with_reducible refine gate_dst (N := 4) rfl ?_); refine box_event rfl (N := 4) rfl (cs := #[.string (⟨#[]⟩ : ByteArray), .slice none 0 0, .bool false]) (t := 36) sE ?_; intro gb180 hg w12 hbox hb; have BK180 := Aside0.mk hbox; have GW180 := gS w hg (lU); have GE180 := gS w hg (lU); replace HB := bH (lU) hb; clear hb hbox hg; have hcz13_0 := cz BK180 0 (.string (⟨#[]⟩ : ByteArray)); have hcz13_1 := cz BK180 1 (.slice none 0 0); have hcz13_2 := cz BK180 2 (.bool false); have hfz13_0 := fz BK180 0; have hfz13_1 := fz BK180 1; have hfz13_2 := fz BK180 2) | ((with_reducible refine gate_store (t := 36) (p := 4) rfl ?_); (try (rw [drewN_self w12]; generalize hq_ : World.drewN w12 _ = w12; replace BK180 := Aside0.mk (blk_at hq_ BK180.out); replace HB := Aside0.mk (below_at hq_ HB.out); clear hq_)); refine store_event (t := 36) (p := 4) (v := ?vo_w14) (w1 := (((w12.setCell ⟨gb180, 0, none⟩ (.string ((rd_T36 l0 x7_1).f0))).setCell ⟨gb180, 1, none⟩ (.slice A179_1 ((rd_T36 l0 x7_1).f1).length c179_1)).setCell ⟨gb180, 2, none⟩ (.bool ((rd_T36 l0 x7_1).f2)))) ?hg ?ho ?hn ?hr ?_; (case ho => rfl); (case hg => rfl); (case hn => rfl); (case hr => first | (go_simp; done) | (go_simp; rfl) | (have hq0_ := (blk_cell BK180.out 0).trans (show _ = some _ from rfl); have hf0_ := blk_frozen BK180.out 0; have hq1_ := (blk_cell BK180.out 1).trans (show _ = some _ from rfl); have hf1_ := blk_frozen BK180.out 1; have hq2_ := (blk_cell BK180.out 2).trans (show _ = some _ from rfl); have hf2_ := blk_frozen BK180.out 2; first | (go_simp; done) | (go_simp; rfl))); intro w14 hw; replace BK180 : Aside0 (w14.heap[gb180]? = some (.cells #[.string ((rd_T36 l0 x7_1).f0), .slice A179_1 ((rd_T36 l0 x7_1).f1).length c179_1, .bool ((rd_T36 l0 x7_1).f2)] 36 (0, 0))) := ⟨(by rw [hw]; exact (by refine bU ?_; refine blk_put (cs := #[.string ((rd_T36 l0 x7_1).f0), .slice A179_1 ((rd_T36 l0 x7_1).f1).length c179_1, .bool false]) ?_ 2 _ rfl; refine bU ?_; refine blk_put (cs := #[.string ((rd_T36 l0 x7_1).f0), .slice none 0 0, .bool false]) ?_ 1 _ rfl; refine bU ?_; refine blk_put (cs := #[.string (⟨#[]⟩ : ByteArray), .slice none 0 0, .bool false]) ?_ 0 _ rfl; refine bU ?_; exact BK180.out))⟩; replace HB : Aside0 (Below w.heap.size w w14) := ⟨(by rw [hw]; exact (lV1 GE180))⟩; clear hw; have hcz15_0 := cz BK180 0 (.string ((rd_T36 l0 x7_1).f0)); have hcz15_1 := cz BK180 1 (.slice A179_1 ((rd_T36 l0 x7_1).f1).length c179_1); have hcz15_2 := cz BK180 2 (.bool ((rd_T36 l0 x7_1).f2)); have hfz15_0 := fz BK180 0; have hfz15_1 := fz BK180 1; have hfz15_2 := fz BK180 2) | (go_at_call 23; (with_reducible refine (impl_GoodName.calls k1 ((rd_T36 l0 x7_1).f0) true _ A5.out).mono ?_); rintro e w' ⟨rfl, ⟨nd, rfl⟩⟩; (try first | exact ⟨rfl, _, World.drewN_drewN _ _ _⟩ | exact ⟨rfl, _, Eq.trans (World.drewN_drewN _ _ _) (congrArg (World.drewN _) (Nat.add_assoc _ _ _))⟩); have p182 : 0 ≤ ((ji8) : Int) := of_decide_eq_true hE; have q182 : (ji8) < (l0.length : Int) := of_decide_eq_true hE; obtain ⟨ad182, A182_1, c182_1, e182, hx182_0, hx182_1, hx182_2, hl182_1, hi182_1⟩ := at_T36 HR0.out (ji8) p182 q182; obtain rfl : ad179 = ad182 := (by injection e182); replace hx182_0 := (HB.out.cell (World.block_lt_of_cell? w _ hx182_0)).trans hx182_0; replace hx182_1 := (HB.out.cell (World.block_lt_of_cell? w _ hx182_1)).trans hx182_1; replace hx182_2 := (HB.out.cell (World.block_lt_of_cell? w _ hx182_2)).trans hx182_2; have HR182_1 := Aside0.mk hi182_1; have HC182_1 := Aside0.mk hl182_1; clear hi182_1 hl182_1; replace p182 := eq_true p182; replace q182 := eq_true q182)); try go_wp2_with (first | ((with_reducible refine gate_dst (N := 4) rfl ?_); refine box_event rfl (N := 4) rfl (cs := #[.string (⟨#[]⟩ : ByteArray), .slice none 0 0, .bool false]) (t := 36) sE ?_; intro gb180 hg w12 hbox hb; have BK180 := Aside0.mk hbox; have GW180 := gS w hg (lU); have GE180 := gS w hg (lU); replace HB := bH (lU) hb; clear hb hbox hg; have hcz13_0 := cz BK180 0 (.string (⟨#[]⟩ : ByteArray)); have hcz13_1 := cz BK180 1 (.slice none 0 0); have hcz13_2 := cz BK180 2 (.bool false); have hfz13_0 := fz BK180 0; have hfz13_1 := fz BK180 1; have hfz13_2 := fz BK180 2) | ((with_reducible refine gate_store (t := 36) (p := 4) rfl ?_); (try (rw [drewN_self w12]; generalize hq_ : World.drewN w12 _ = w12; replace BK180 := Aside0.mk (blk_at hq_ BK180.out); replace HB := Aside0.mk (below_at hq_ HB.out); clear hq_)); refine store_event (t := 36) (p := 4) (v := ?vo_w14) (w1 := (((w12.setCell ⟨gb180, 0, none⟩ (.string ((rd_T36 l0 x7_1).f0))).setCell ⟨gb180, 1, none⟩ (.slice A179_1 ((rd_T36 l0 x7_1).f1).length c179_1)).setCell ⟨gb180, 2, none⟩ (.bool ((rd_T36 l0 x7_1).f2)))) ?hg ?ho ?hn ?hr ?_; (case ho => rfl); (case hg => rfl); (case hn => rfl); (case hr => first | (go_simp; done) | (go_simp; rfl) | (have hq0_ := (blk_cell BK180.out 0).trans (show _ = some _ from rfl); have hf0_ := blk_frozen BK180.out 0; have hq1_ := (blk_cell BK180.out 1).trans (show _ = some _ from rfl); have hf1_ := blk_frozen BK180.out 1; have hq2_ := (blk_cell BK180.out 2).trans (show _ = some _ from rfl); have hf2_ := blk_frozen BK180.out 2; first | (go_simp; done) | (go_simp; rfl))); intro w14 hw; replace BK180 : Aside0 (w14.heap[gb180]? = some (.cells #[.string ((rd_T36 l0 x7_1).f0), .slice A179_1 ((rd_T36 l0 x7_1).f1).length c179_1, .bool ((rd_T36 l0 x7_1).f2)] 36 (0, 0))) := ⟨(by rw [hw]; exact (by refine bU ?_; refine blk_put (cs := #[.string ((rd_T36 l0 x7_1).f0), .slice A179_1 ((rd_T36 l0 x7_1).f1).length c179_1, .bool false]) ?_ 2 _ rfl; refine bU ?_; refine blk_put (cs := #[.string ((rd_T36 l0 x7_1).f0), .slice none 0 0, .bool false]) ?_ 1 _ rfl; refine bU ?_; refine blk_put (cs := #[.string (⟨#[]⟩ : ByteArray), .slice none 0 0, .bool false]) ?_ 0 _ rfl; refine bU ?_; exact BK180.out))⟩; replace HB : Aside0 (Below w.heap.size w w14) := ⟨(by rw [hw]; exact (lV1 GE180))⟩; clear hw; have hcz15_0 := cz BK180 0 (.string ((rd_T36 l0 x7_1).f0)); have hcz15_1 := cz BK180 1 (.slice A179_1 ((rd_T36 l0 x7_1).f1).length c179_1); have hcz15_2 := cz BK180 2 (.bool ((rd_T36 l0 x7_1).f2)); have hfz15_0 := fz BK180 0; have hfz15_1 := fz BK180 1; have hfz15_2 := fz BK180 2) | (go_at_call 23; (with_reducible refine (impl_GoodName.calls k1 ((rd_T36 l0 x7_1).f0) true _ A5.out).mono ?_); rintro e w' ⟨rfl, ⟨nd, rfl⟩⟩; (try first | exact ⟨rfl, _, World.drewN_drewN _ _ _⟩ | exact ⟨rfl, _, Eq.trans (World.drewN_drewN _ _ _) (congrArg (World.drewN _) (Nat.add_assoc _ _ _))⟩); have p182 : 0 ≤ ((ji8) : Int) := of_decide_eq_true hE; have q182 : (ji8) < (l0.length : Int) := of_decide_eq_true hE; obtain ⟨ad182, A182_1, c182_1, e182, hx182_0, hx182_1, hx182_2, hl182_1, hi182_1⟩ := at_T36 HR0.out (ji8) p182 q182; obtain rfl : ad179 = ad182 := (by injection e182); replace hx182_0 := (HB.out.cell (World.block_lt_of_cell? w _ hx182_0)).trans hx182_0; replace hx182_1 := (HB.out.cell (World.block_lt_of_cell? w _ hx182_1)).trans hx182_1; replace hx182_2 := (HB.out.cell (World.block_lt_of_cell? w _ hx182_2)).trans hx182_2; have HR182_1 := Aside0.mk hi182_1; have HC182_1 := Aside0.mk hl182_1; clear hi182_1 hl182_1; replace p182 := eq_true p182; replace q182 := eq_true q182)))
           go_roundg k1
           case measure => have := HK1.out; omega
           case rel => exact ⟨(wrap64 (x7_1 + 1)), tE, H', ⟨by have := HK1.out; omega⟩, ⟨by repeat (first | (with_reducible first | exact HB.out | apply below_alloc | apply pw_below_drewN | apply below_drew1 | refine below_set ?_ GE180.out) | exact HB.out)⟩⟩
          ·rw [if_neg c11] at H
           have c11b0 : (Op.bytesLess (((rd_T36 l0 (ji8)).f0).toList) (((rd_T36 l0 x7_1).f0).toList)) = false := by simpa using c11
           clear c11
           obtain rfl := Option.some.inj H
           have p179 : 0 ≤ (x7_1 : Int) := of_decide_eq_true hE
           have q179 : x7_1 < (l0.length : Int) := of_decide_eq_true hE
           obtain ⟨ad179, A179_1, c179_1, e179, hx179_0, hx179_1, hx179_2, hl179_1, hi179_1⟩ := at_T36 HR0.out x7_1 p179 q179
           cases e179
           replace hx179_0 := (HB.out.cell (World.block_lt_of_cell? w _ hx179_0)).trans hx179_0
           replace hx179_1 := (HB.out.cell (World.block_lt_of_cell? w _ hx179_1)).trans hx179_1
           replace hx179_2 := (HB.out.cell (World.block_lt_of_cell? w _ hx179_2)).trans hx179_2
           have HR179_1 := Aside0.mk hi179_1
           have HC179_1 := Aside0.mk hl179_1
           clear hi179_1 hl179_1
           replace p179 := eq_true p179
           replace q179 := eq_true q179
           go_wp2_with (first | ((with_reducible refine gate_dst (N := 4) rfl ?_); refine box_event rfl (N := 4) rfl (cs := #[.string (⟨#[]⟩ : ByteArray), .slice none 0 0, .bool false]) (t := 36) sE ?_; intro gb180 hg w16 hbox hb; have BK180 := Aside0.mk hbox; have GW180 := gS w hg (lU); have GE180 := gS w hg (lU); replace HB := bH (lU) hb; clear hb hbox hg; have hcz17_0 := cz BK180 0 (.string (⟨#[]⟩ : ByteArray)); have hcz17_1 := cz BK180 1 (.slice none 0 0); have hcz17_2 := cz BK180 2 (.bool false); have hfz17_0 := fz BK180 0; have hfz17_1 := fz BK180 1; have hfz17_2 := fz BK180 2) | ((with_reducible refine gate_store (t := 36) (p := 4) rfl ?_); (try (rw [drewN_self w16]; generalize hq_ : World.drewN w16 _ = w16; replace BK180 := Aside0.mk (blk_at hq_ BK180.out); replace HB := Aside0.mk (below_at hq_ HB.out); clear hq_)); refine store_event (t := 36) (p := 4) (v := ?vo_w18) (w1 := (((w16.setCell ⟨gb180, 0, none⟩ (.string ((rd_T36 l0 x7_1).f0))).setCell ⟨gb180, 1, none⟩ (.slice A179_1 ((rd_T36 l0 x7_1).f1).length c179_1)).setCell ⟨gb180, 2, none⟩ (.bool ((rd_T36 l0 x7_1).f2)))) ?hg ?ho ?hn ?hr ?_; (case ho => rfl); (case hg => rfl); (case hn => rfl); (case hr => first | (go_simp; done) | (go_simp; rfl) | (have hq0_ := (blk_cell BK180.out 0).trans (show _ = some _ from rfl); have hf0_ := blk_frozen BK180.out 0; have hq1_ := (blk_cell BK180.out 1).trans (show _ = some _ from rfl); have hf1_ := blk_frozen BK180.out 1; have hq2_ := (blk_cell BK180.out 2).trans (show _ = some _ from rfl); have hf2_ := blk_frozen BK180.out 2; first | (go_simp; done) | (go_simp; rfl))); intro w18 hw; replace BK180 : Aside0 (w18.heap[gb180]? = some (.cells #[.string ((rd_T36 l0 x7_1).f0), .slice A179_1 ((rd_T36 l0 x7_1).f1).length c179_1, .bool ((rd_T36 l0 x7_1).f2)] 36 (0, 0))) := ⟨(by rw [hw]; exact (by refine bU ?_; refine blk_put (cs := #[.string ((rd_T36 l0 x7_1).f0), .slice A179_1 ((rd_T36 l0 x7_1).f1).length c179_1, .bool false]) ?_ 2 _ rfl; refine bU ?_; refine blk_put (cs := #[.string ((rd_T36 l0 x7_1).f0), .slice none 0 0, .bool false]) ?_ 1 _ rfl; refine bU ?_; refine blk_put (cs := #[.string (⟨#[]⟩ : ByteArray), .slice none 0 0, .bool false]) ?_ 0 _ rfl; refine bU ?_; exact BK180.out))⟩; replace HB : Aside0 (Below w.heap.size w w18) := ⟨(by rw [hw]; exact (lV1 GE180))⟩; clear hw; have hcz19_0 := cz BK180 0 (.string ((rd_T36 l0 x7_1).f0)); have hcz19_1 := cz BK180 1 (.slice A179_1 ((rd_T36 l0 x7_1).f1).length c179_1); have hcz19_2 := cz BK180 2 (.bool ((rd_T36 l0 x7_1).f2)); have hfz19_0 := fz BK180 0; have hfz19_1 := fz BK180 1; have hfz19_2 := fz BK180 2) | (go_at_call 23; (with_reducible refine (impl_GoodName.calls k1 ((rd_T36 l0 x7_1).f0) true _ A5.out).mono ?_); rintro e w' ⟨rfl, ⟨nd, rfl⟩⟩; (try first | exact ⟨rfl, _, World.drewN_drewN _ _ _⟩ | exact ⟨rfl, _, Eq.trans (World.drewN_drewN _ _ _) (congrArg (World.drewN _) (Nat.add_assoc _ _ _))⟩); have p182 : 0 ≤ ((ji8) : Int) := of_decide_eq_true hE; have q182 : (ji8) < (l0.length : Int) := of_decide_eq_true hE; obtain ⟨ad182, A182_1, c182_1, e182, hx182_0, hx182_1, hx182_2, hl182_1, hi182_1⟩ := at_T36 HR0.out (ji8) p182 q182; obtain rfl : ad179 = ad182 := (by injection e182); replace hx182_0 := (HB.out.cell (World.block_lt_of_cell? w _ hx182_0)).trans hx182_0; replace hx182_1 := (HB.out.cell (World.block_lt_of_cell? w _ hx182_1)).trans hx182_1; replace hx182_2 := (HB.out.cell (World.block_lt_of_cell? w _ hx182_2)).trans hx182_2; have HR182_1 := Aside0.mk hi182_1; have HC182_1 := Aside0.mk hl182_1; clear hi182_1 hl182_1; replace p182 := eq_true p182; replace q182 := eq_true q182))
           repeat (go_quiet (first | ((with_reducible refine gate_dst (N := 4) rfl ?_); refine box_event rfl (N := 4) rfl (cs := #[.string (⟨#[]⟩ : ByteArray), .slice none 0 0, .bool false]) (t := 36) sE ?_; intro gb180 hg w16 hbox hb; have BK180 := Aside0.mk hbox; have GW180 := gS w hg (lU); have GE180 := gS w hg (lU); replace HB := bH (lU) hb; clear hb hbox hg; have hcz17_0 := cz BK180 0 (.string (⟨#[]⟩ : ByteArray)); have hcz17_1 := cz BK180 1 (.slice none 0 0); have hcz17_2 := cz BK180 2 (.bool false); have hfz17_0 := fz BK180 0; have hfz17_1 := fz BK180 1; have hfz17_2 := fz BK180 2) | ((with_reducible refine gate_store (t := 36) (p := 4) rfl ?_); (try (rw [drewN_self w16]; generalize hq_ : World.drewN w16 _ = w16; replace BK180 := Aside0.mk (blk_at hq_ BK180.out); replace HB := Aside0.mk (below_at hq_ HB.out); clear hq_)); refine store_event (t := 36) (p := 4) (v := ?vo_w18) (w1 := (((w16.setCell ⟨gb180, 0, none⟩ (.string ((rd_T36 l0 x7_1).f0))).setCell ⟨gb180, 1, none⟩ (.slice A179_1 ((rd_T36 l0 x7_1).f1).length c179_1)).setCell ⟨gb180, 2, none⟩ (.bool ((rd_T36 l0 x7_1).f2)))) ?hg ?ho ?hn ?hr ?_; (case ho => rfl); (case hg => rfl); (case hn => rfl); (case hr => first | (go_simp; done) | (go_simp; rfl) | (have hq0_ := (blk_cell BK180.out 0).trans (show _ = some _ from rfl); have hf0_ := blk_frozen BK180.out 0; have hq1_ := (blk_cell BK180.out 1).trans (show _ = some _ from rfl); have hf1_ := blk_frozen BK180.out 1; have hq2_ := (blk_cell BK180.out 2).trans (show _ = some _ from rfl); have hf2_ := blk_frozen BK180.out 2; first | (go_simp; done) | (go_simp; rfl))); intro w18 hw; replace BK180 : Aside0 (w18.heap[gb180]? = some (.cells #[.string ((rd_T36 l0 x7_1).f0), .slice A179_1 ((rd_T36 l0 x7_1).f1).length c179_1, .bool ((rd_T36 l0 x7_1).f2)] 36 (0, 0))) := ⟨(by rw [hw]; exact (by refine bU ?_; refine blk_put (cs := #[.string ((rd_T36 l0 x7_1).f0), .slice A179_1 ((rd_T36 l0 x7_1).f1).length c179_1, .bool false]) ?_ 2 _ rfl; refine bU ?_; refine blk_put (cs := #[.string ((rd_T36 l0 x7_1).f0), .slice none 0 0, .bool false]) ?_ 1 _ rfl; refine bU ?_; refine blk_put (cs := #[.string (⟨#[]⟩ : ByteArray), .slice none 0 0, .bool false]) ?_ 0 _ rfl; refine bU ?_; exact BK180.out))⟩; replace HB : Aside0 (Below w.heap.size w w18) := ⟨(by rw [hw]; exact (lV1 GE180))⟩; clear hw; have hcz19_0 := cz BK180 0 (.string ((rd_T36 l0 x7_1).f0)); have hcz19_1 := cz BK180 1 (.slice A179_1 ((rd_T36 l0 x7_1).f1).length c179_1); have hcz19_2 := cz BK180 2 (.bool ((rd_T36 l0 x7_1).f2)); have hfz19_0 := fz BK180 0; have hfz19_1 := fz BK180 1; have hfz19_2 := fz BK180 2) | (go_at_call 23; (with_reducible refine (impl_GoodName.calls k1 ((rd_T36 l0 x7_1).f0) true _ A5.out).mono ?_); rintro e w' ⟨rfl, ⟨nd, rfl⟩⟩; (try first | exact ⟨rfl, _, World.drewN_drewN _ _ _⟩ | exact ⟨rfl, _, Eq.trans (World.drewN_drewN _ _ _) (congrArg (World.drewN _) (Nat.add_assoc _ _ _))⟩); have p182 : 0 ≤ ((ji8) : Int) := of_decide_eq_true hE; have q182 : (ji8) < (l0.length : Int) := of_decide_eq_true hE; obtain ⟨ad182, A182_1, c182_1, e182, hx182_0, hx182_1, hx182_2, hl182_1, hi182_1⟩ := at_T36 HR0.out (ji8) p182 q182; obtain rfl : ad179 = ad182 := (by injection e182); replace hx182_0 := (HB.out.cell (World.block_lt_of_cell? w _ hx182_0)).trans hx182_0; replace hx182_1 := (HB.out.cell (World.block_lt_of_cell? w _ hx182_1)).trans hx182_1; replace hx182_2 := (HB.out.cell (World.block_lt_of_cell? w _ hx182_2)).trans hx182_2; have HR182_1 := Aside0.mk hi182_1; have HC182_1 := Aside0.mk hl182_1; clear hi182_1 hl182_1; replace p182 := eq_true p182; replace q182 := eq_true q182)); try go_wp2_with (first | ((with_reducible refine gate_dst (N := 4) rfl ?_); refine box_event rfl (N := 4) rfl (cs := #[.string (⟨#[]⟩ : ByteArray), .slice none 0 0, .bool false]) (t := 36) sE ?_; intro gb180 hg w16 hbox hb; have BK180 := Aside0.mk hbox; have GW180 := gS w hg (lU); have GE180 := gS w hg (lU); replace HB := bH (lU) hb; clear hb hbox hg; have hcz17_0 := cz BK180 0 (.string (⟨#[]⟩ : ByteArray)); have hcz17_1 := cz BK180 1 (.slice none 0 0); have hcz17_2 := cz BK180 2 (.bool false); have hfz17_0 := fz BK180 0; have hfz17_1 := fz BK180 1; have hfz17_2 := fz BK180 2) | ((with_reducible refine gate_store (t := 36) (p := 4) rfl ?_); (try (rw [drewN_self w16]; generalize hq_ : World.drewN w16 _ = w16; replace BK180 := Aside0.mk (blk_at hq_ BK180.out); replace HB := Aside0.mk (below_at hq_ HB.out); clear hq_)); refine store_event (t := 36) (p := 4) (v := ?vo_w18) (w1 := (((w16.setCell ⟨gb180, 0, none⟩ (.string ((rd_T36 l0 x7_1).f0))).setCell ⟨gb180, 1, none⟩ (.slice A179_1 ((rd_T36 l0 x7_1).f1).length c179_1)).setCell ⟨gb180, 2, none⟩ (.bool ((rd_T36 l0 x7_1).f2)))) ?hg ?ho ?hn ?hr ?_; (case ho => rfl); (case hg => rfl); (case hn => rfl); (case hr => first | (go_simp; done) | (go_simp; rfl) | (have hq0_ := (blk_cell BK180.out 0).trans (show _ = some _ from rfl); have hf0_ := blk_frozen BK180.out 0; have hq1_ := (blk_cell BK180.out 1).trans (show _ = some _ from rfl); have hf1_ := blk_frozen BK180.out 1; have hq2_ := (blk_cell BK180.out 2).trans (show _ = some _ from rfl); have hf2_ := blk_frozen BK180.out 2; first | (go_simp; done) | (go_simp; rfl))); intro w18 hw; replace BK180 : Aside0 (w18.heap[gb180]? = some (.cells #[.string ((rd_T36 l0 x7_1).f0), .slice A179_1 ((rd_T36 l0 x7_1).f1).length c179_1, .bool ((rd_T36 l0 x7_1).f2)] 36 (0, 0))) := ⟨(by rw [hw]; exact (by refine bU ?_; refine blk_put (cs := #[.string ((rd_T36 l0 x7_1).f0), .slice A179_1 ((rd_T36 l0 x7_1).f1).length c179_1, .bool false]) ?_ 2 _ rfl; refine bU ?_; refine blk_put (cs := #[.string ((rd_T36 l0 x7_1).f0), .slice none 0 0, .bool false]) ?_ 1 _ rfl; refine bU ?_; refine blk_put (cs := #[.string (⟨#[]⟩ : ByteArray), .slice none 0 0, .bool false]) ?_ 0 _ rfl; refine bU ?_; exact BK180.out))⟩; replace HB : Aside0 (Below w.heap.size w w18) := ⟨(by rw [hw]; exact (lV1 GE180))⟩; clear hw; have hcz19_0 := cz BK180 0 (.string ((rd_T36 l0 x7_1).f0)); have hcz19_1 := cz BK180 1 (.slice A179_1 ((rd_T36 l0 x7_1).f1).length c179_1); have hcz19_2 := cz BK180 2 (.bool ((rd_T36 l0 x7_1).f2)); have hfz19_0 := fz BK180 0; have hfz19_1 := fz BK180 1; have hfz19_2 := fz BK180 2) | (go_at_call 23; (with_reducible refine (impl_GoodName.calls k1 ((rd_T36 l0 x7_1).f0) true _ A5.out).mono ?_); rintro e w' ⟨rfl, ⟨nd, rfl⟩⟩; (try first | exact ⟨rfl, _, World.drewN_drewN _ _ _⟩ | exact ⟨rfl, _, Eq.trans (World.drewN_drewN _ _ _) (congrArg (World.drewN _) (Nat.add_assoc _ _ _))⟩); have p182 : 0 ≤ ((ji8) : Int) := of_decide_eq_true hE; have q182 : (ji8) < (l0.length : Int) := of_decide_eq_true hE; obtain ⟨ad182, A182_1, c182_1, e182, hx182_0, hx182_1, hx182_2, hl182_1, hi182_1⟩ := at_T36 HR0.out (ji8) p182 q182; obtain rfl : ad179 = ad182 := (by injection e182); replace hx182_0 := (HB.out.cell (World.block_lt_of_cell? w _ hx182_0)).trans hx182_0; replace hx182_1 := (HB.out.cell (World.block_lt_of_cell? w _ hx182_1)).trans hx182_1; replace hx182_2 := (HB.out.cell (World.block_lt_of_cell? w _ hx182_2)).trans hx182_2; have HR182_1 := Aside0.mk hi182_1; have HC182_1 := Aside0.mk hl182_1; clear hi182_1 hl182_1; replace p182 := eq_true p182; replace q182 := eq_true q182)))
           go_ret
           exact ⟨by first | rfl | (simp [errW_none, errW_some] <;> rfl) | (simp only [← hji8]; first | rfl | (simp [errW_none, errW_some] <;> rfl)) | (simp [*, errW_none, errW_some] <;> rfl), lV1 GE180⟩
         ·rw [if_neg c10] at H
          exact absurd H (by simp)
        ·rw [if_neg c9] at H
         exact absurd H (by simp)
       ·rw [if_neg c7] at H
        have c7b0 : decide (0 < x7_1) = false := decide_eq_false c7
        clear c7
        have H' := Aside0.mk H
        clear H
        have p179 : 0 ≤ (x7_1 : Int) := of_decide_eq_true hE
        have q179 : x7_1 < (l0.length : Int) := of_decide_eq_true hE
        obtain ⟨ad179, A179_1, c179_1, e179, hx179_0, hx179_1, hx179_2, hl179_1, hi179_1⟩ := at_T36 HR0.out x7_1 p179 q179
        cases e179
        replace hx179_0 := (HB.out.cell (World.block_lt_of_cell? w _ hx179_0)).trans hx179_0
        replace hx179_1 := (HB.out.cell (World.block_lt_of_cell? w _ hx179_1)).trans hx179_1
        replace hx179_2 := (HB.out.cell (World.block_lt_of_cell? w _ hx179_2)).trans hx179_2
        have HR179_1 := Aside0.mk hi179_1
        have HC179_1 := Aside0.mk hl179_1
        clear hi179_1 hl179_1
        replace p179 := eq_true p179
        replace q179 := eq_true q179
        go_wp2_with (first | ((with_reducible refine gate_dst (N := 4) rfl ?_); refine box_event rfl (N := 4) rfl (cs := #[.string (⟨#[]⟩ : ByteArray), .slice none 0 0, .bool false]) (t := 36) sE ?_; intro gb180 hg w20 hbox hb; have BK180 := Aside0.mk hbox; have GW180 := gS w hg (lU); have GE180 := gS w hg (lU); replace HB := bH (lU) hb; clear hb hbox hg; have hcz21_0 := cz BK180 0 (.string (⟨#[]⟩ : ByteArray)); have hcz21_1 := cz BK180 1 (.slice none 0 0); have hcz21_2 := cz BK180 2 (.bool false); have hfz21_0 := fz BK180 0; have hfz21_1 := fz BK180 1; have hfz21_2 := fz BK180 2) | ((with_reducible refine gate_store (t := 36) (p := 4) rfl ?_); (try (rw [drewN_self w20]; generalize hq_ : World.drewN w20 _ = w20; replace BK180 := Aside0.mk (blk_at hq_ BK180.out); replace HB := Aside0.mk (below_at hq_ HB.out); clear hq_)); refine store_event (t := 36) (p := 4) (v := ?vo_w22) (w1 := (((w20.setCell ⟨gb180, 0, none⟩ (.string ((rd_T36 l0 x7_1).f0))).setCell ⟨gb180, 1, none⟩ (.slice A179_1 ((rd_T36 l0 x7_1).f1).length c179_1)).setCell ⟨gb180, 2, none⟩ (.bool ((rd_T36 l0 x7_1).f2)))) ?hg ?ho ?hn ?hr ?_; (case ho => rfl); (case hg => rfl); (case hn => rfl); (case hr => first | (go_simp; done) | (go_simp; rfl) | (have hq0_ := (blk_cell BK180.out 0).trans (show _ = some _ from rfl); have hf0_ := blk_frozen BK180.out 0; have hq1_ := (blk_cell BK180.out 1).trans (show _ = some _ from rfl); have hf1_ := blk_frozen BK180.out 1; have hq2_ := (blk_cell BK180.out 2).trans (show _ = some _ from rfl); have hf2_ := blk_frozen BK180.out 2; first | (go_simp; done) | (go_simp; rfl))); intro w22 hw; replace BK180 : Aside0 (w22.heap[gb180]? = some (.cells #[.string ((rd_T36 l0 x7_1).f0), .slice A179_1 ((rd_T36 l0 x7_1).f1).length c179_1, .bool ((rd_T36 l0 x7_1).f2)] 36 (0, 0))) := ⟨(by rw [hw]; exact (by refine bU ?_; refine blk_put (cs := #[.string ((rd_T36 l0 x7_1).f0), .slice A179_1 ((rd_T36 l0 x7_1).f1).length c179_1, .bool false]) ?_ 2 _ rfl; refine bU ?_; refine blk_put (cs := #[.string ((rd_T36 l0 x7_1).f0), .slice none 0 0, .bool false]) ?_ 1 _ rfl; refine bU ?_; refine blk_put (cs := #[.string (⟨#[]⟩ : ByteArray), .slice none 0 0, .bool false]) ?_ 0 _ rfl; refine bU ?_; exact BK180.out))⟩; replace HB : Aside0 (Below w.heap.size w w22) := ⟨(by rw [hw]; exact (lV1 GE180))⟩; clear hw; have hcz23_0 := cz BK180 0 (.string ((rd_T36 l0 x7_1).f0)); have hcz23_1 := cz BK180 1 (.slice A179_1 ((rd_T36 l0 x7_1).f1).length c179_1); have hcz23_2 := cz BK180 2 (.bool ((rd_T36 l0 x7_1).f2)); have hfz23_0 := fz BK180 0; have hfz23_1 := fz BK180 1; have hfz23_2 := fz BK180 2) | (go_at_call 23; (with_reducible refine (impl_GoodName.calls k1 ((rd_T36 l0 x7_1).f0) true _ A5.out).mono ?_); rintro e w' ⟨rfl, ⟨nd, rfl⟩⟩; (try first | exact ⟨rfl, _, World.drewN_drewN _ _ _⟩ | exact ⟨rfl, _, Eq.trans (World.drewN_drewN _ _ _) (congrArg (World.drewN _) (Nat.add_assoc _ _ _))⟩)))
        repeat (go_quiet (first | ((with_reducible refine gate_dst (N := 4) rfl ?_); refine box_event rfl (N := 4) rfl (cs := #[.string (⟨#[]⟩ : ByteArray), .slice none 0 0, .bool false]) (t := 36) sE ?_; intro gb180 hg w20 hbox hb; have BK180 := Aside0.mk hbox; have GW180 := gS w hg (lU); have GE180 := gS w hg (lU); replace HB := bH (lU) hb; clear hb hbox hg; have hcz21_0 := cz BK180 0 (.string (⟨#[]⟩ : ByteArray)); have hcz21_1 := cz BK180 1 (.slice none 0 0); have hcz21_2 := cz BK180 2 (.bool false); have hfz21_0 := fz BK180 0; have hfz21_1 := fz BK180 1; have hfz21_2 := fz BK180 2) | ((with_reducible refine gate_store (t := 36) (p := 4) rfl ?_); (try (rw [drewN_self w20]; generalize hq_ : World.drewN w20 _ = w20; replace BK180 := Aside0.mk (blk_at hq_ BK180.out); replace HB := Aside0.mk (below_at hq_ HB.out); clear hq_)); refine store_event (t := 36) (p := 4) (v := ?vo_w22) (w1 := (((w20.setCell ⟨gb180, 0, none⟩ (.string ((rd_T36 l0 x7_1).f0))).setCell ⟨gb180, 1, none⟩ (.slice A179_1 ((rd_T36 l0 x7_1).f1).length c179_1)).setCell ⟨gb180, 2, none⟩ (.bool ((rd_T36 l0 x7_1).f2)))) ?hg ?ho ?hn ?hr ?_; (case ho => rfl); (case hg => rfl); (case hn => rfl); (case hr => first | (go_simp; done) | (go_simp; rfl) | (have hq0_ := (blk_cell BK180.out 0).trans (show _ = some _ from rfl); have hf0_ := blk_frozen BK180.out 0; have hq1_ := (blk_cell BK180.out 1).trans (show _ = some _ from rfl); have hf1_ := blk_frozen BK180.out 1; have hq2_ := (blk_cell BK180.out 2).trans (show _ = some _ from rfl); have hf2_ := blk_frozen BK180.out 2; first | (go_simp; done) | (go_simp; rfl))); intro w22 hw; replace BK180 : Aside0 (w22.heap[gb180]? = some (.cells #[.string ((rd_T36 l0 x7_1).f0), .slice A179_1 ((rd_T36 l0 x7_1).f1).length c179_1, .bool ((rd_T36 l0 x7_1).f2)] 36 (0, 0))) := ⟨(by rw [hw]; exact (by refine bU ?_; refine blk_put (cs := #[.string ((rd_T36 l0 x7_1).f0), .slice A179_1 ((rd_T36 l0 x7_1).f1).length c179_1, .bool false]) ?_ 2 _ rfl; refine bU ?_; refine blk_put (cs := #[.string ((rd_T36 l0 x7_1).f0), .slice none 0 0, .bool false]) ?_ 1 _ rfl; refine bU ?_; refine blk_put (cs := #[.string (⟨#[]⟩ : ByteArray), .slice none 0 0, .bool false]) ?_ 0 _ rfl; refine bU ?_; exact BK180.out))⟩; replace HB : Aside0 (Below w.heap.size w w22) := ⟨(by rw [hw]; exact (lV1 GE180))⟩; clear hw; have hcz23_0 := cz BK180 0 (.string ((rd_T36 l0 x7_1).f0)); have hcz23_1 := cz BK180 1 (.slice A179_1 ((rd_T36 l0 x7_1).f1).length c179_1); have hcz23_2 := cz BK180 2 (.bool ((rd_T36 l0 x7_1).f2)); have hfz23_0 := fz BK180 0; have hfz23_1 := fz BK180 1; have hfz23_2 := fz BK180 2) | (go_at_call 23; (with_reducible refine (impl_GoodName.calls k1 ((rd_T36 l0 x7_1).f0) true _ A5.out).mono ?_); rintro e w' ⟨rfl, ⟨nd, rfl⟩⟩; (try first | exact ⟨rfl, _, World.drewN_drewN _ _ _⟩ | exact ⟨rfl, _, Eq.trans (World.drewN_drewN _ _ _) (congrArg (World.drewN _) (Nat.add_assoc _ _ _))⟩))); try go_wp2_with (first | ((with_reducible refine gate_dst (N := 4) rfl ?_); refine box_event rfl (N := 4) rfl (cs := #[.string (⟨#[]⟩ : ByteArray), .slice none 0 0, .bool false]) (t := 36) sE ?_; intro gb180 hg w20 hbox hb; have BK180 := Aside0.mk hbox; have GW180 := gS w hg (lU); have GE180 := gS w hg (lU); replace HB := bH (lU) hb; clear hb hbox hg; have hcz21_0 := cz BK180 0 (.string (⟨#[]⟩ : ByteArray)); have hcz21_1 := cz BK180 1 (.slice none 0 0); have hcz21_2 := cz BK180 2 (.bool false); have hfz21_0 := fz BK180 0; have hfz21_1 := fz BK180 1; have hfz21_2 := fz BK180 2) | ((with_reducible refine gate_store (t := 36) (p := 4) rfl ?_); (try (rw [drewN_self w20]; generalize hq_ : World.drewN w20 _ = w20; replace BK180 := Aside0.mk (blk_at hq_ BK180.out); replace HB := Aside0.mk (below_at hq_ HB.out); clear hq_)); refine store_event (t := 36) (p := 4) (v := ?vo_w22) (w1 := (((w20.setCell ⟨gb180, 0, none⟩ (.string ((rd_T36 l0 x7_1).f0))).setCell ⟨gb180, 1, none⟩ (.slice A179_1 ((rd_T36 l0 x7_1).f1).length c179_1)).setCell ⟨gb180, 2, none⟩ (.bool ((rd_T36 l0 x7_1).f2)))) ?hg ?ho ?hn ?hr ?_; (case ho => rfl); (case hg => rfl); (case hn => rfl); (case hr => first | (go_simp; done) | (go_simp; rfl) | (have hq0_ := (blk_cell BK180.out 0).trans (show _ = some _ from rfl); have hf0_ := blk_frozen BK180.out 0; have hq1_ := (blk_cell BK180.out 1).trans (show _ = some _ from rfl); have hf1_ := blk_frozen BK180.out 1; have hq2_ := (blk_cell BK180.out 2).trans (show _ = some _ from rfl); have hf2_ := blk_frozen BK180.out 2; first | (go_simp; done) | (go_simp; rfl))); intro w22 hw; replace BK180 : Aside0 (w22.heap[gb180]? = some (.cells #[.string ((rd_T36 l0 x7_1).f0), .slice A179_1 ((rd_T36 l0 x7_1).f1).length c179_1, .bool ((rd_T36 l0 x7_1).f2)] 36 (0, 0))) := ⟨(by rw [hw]; exact (by refine bU ?_; refine blk_put (cs := #[.string ((rd_T36 l0 x7_1).f0), .slice A179_1 ((rd_T36 l0 x7_1).f1).length c179_1, .bool false]) ?_ 2 _ rfl; refine bU ?_; refine blk_put (cs := #[.string ((rd_T36 l0 x7_1).f0), .slice none 0 0, .bool false]) ?_ 1 _ rfl; refine bU ?_; refine blk_put (cs := #[.string (⟨#[]⟩ : ByteArray), .slice none 0 0, .bool false]) ?_ 0 _ rfl; refine bU ?_; exact BK180.out))⟩; replace HB : Aside0 (Below w.heap.size w w22) := ⟨(by rw [hw]; exact (lV1 GE180))⟩; clear hw; have hcz23_0 := cz BK180 0 (.string ((rd_T36 l0 x7_1).f0)); have hcz23_1 := cz BK180 1 (.slice A179_1 ((rd_T36 l0 x7_1).f1).length c179_1); have hcz23_2 := cz BK180 2 (.bool ((rd_T36 l0 x7_1).f2)); have hfz23_0 := fz BK180 0; have hfz23_1 := fz BK180 1; have hfz23_2 := fz BK180 2) | (go_at_call 23; (with_reducible refine (impl_GoodName.calls k1 ((rd_T36 l0 x7_1).f0) true _ A5.out).mono ?_); rintro e w' ⟨rfl, ⟨nd, rfl⟩⟩; (try first | exact ⟨rfl, _, World.drewN_drewN _ _ _⟩ | exact ⟨rfl, _, Eq.trans (World.drewN_drewN _ _ _) (congrArg (World.drewN _) (Nat.add_assoc _ _ _))⟩))))
        go_roundg k1
        case measure => have := HK1.out; omega
        case rel => exact ⟨(wrap64 (x7_1 + 1)), tE, H', ⟨by have := HK1.out; omega⟩, ⟨by repeat (first | (with_reducible first | exact HB.out | apply below_alloc | apply pw_below_drewN | apply below_drew1 | refine below_set ?_ GE180.out) | exact HB.out)⟩⟩
      ·replace c6 := Bool.eq_false_iff.mpr c6
       subst c6
       have H1 : (some false) = some r := by rw [if_neg (show ¬ (false = true) by decide)] at H; exact H
       clear H
       have H := H1
       clear H1
       obtain rfl := Option.some.inj H
       have p179 : 0 ≤ (x7_1 : Int) := of_decide_eq_true hE
       have q179 : x7_1 < (l0.length : Int) := of_decide_eq_true hE
       obtain ⟨ad179, A179_1, c179_1, e179, hx179_0, hx179_1, hx179_2, hl179_1, hi179_1⟩ := at_T36 HR0.out x7_1 p179 q179
       cases e179
       replace hx179_0 := (HB.out.cell (World.block_lt_of_cell? w _ hx179_0)).trans hx179_0
       replace hx179_1 := (HB.out.cell (World.block_lt_of_cell? w _ hx179_1)).trans hx179_1
       replace hx179_2 := (HB.out.cell (World.block_lt_of_cell? w _ hx179_2)).trans hx179_2
       have HR179_1 := Aside0.mk hi179_1
       have HC179_1 := Aside0.mk hl179_1
       clear hi179_1 hl179_1
       replace p179 := eq_true p179
       replace q179 := eq_true q179
       go_wp2_with (first | ((with_reducible refine gate_dst (N := 4) rfl ?_); refine box_event rfl (N := 4) rfl (cs := #[.string (⟨#[]⟩ : ByteArray), .slice none 0 0, .bool false]) (t := 36) sE ?_; intro gb180 hg w24 hbox hb; have BK180 := Aside0.mk hbox; have GW180 := gS w hg (lU); have GE180 := gS w hg (lU); replace HB := bH (lU) hb; clear hb hbox hg; have hcz25_0 := cz BK180 0 (.string (⟨#[]⟩ : ByteArray)); have hcz25_1 := cz BK180 1 (.slice none 0 0); have hcz25_2 := cz BK180 2 (.bool false); have hfz25_0 := fz BK180 0; have hfz25_1 := fz BK180 1; have hfz25_2 := fz BK180 2) | ((with_reducible refine gate_store (t := 36) (p := 4) rfl ?_); (try (rw [drewN_self w24]; generalize hq_ : World.drewN w24 _ = w24; replace BK180 := Aside0.mk (blk_at hq_ BK180.out); replace HB := Aside0.mk (below_at hq_ HB.out); clear hq_)); refine store_event (t := 36) (p := 4) (v := ?vo_w26) (w1 := (((w24.setCell ⟨gb180, 0, none⟩ (.string ((rd_T36 l0 x7_1).f0))).setCell ⟨gb180, 1, none⟩ (.slice A179_1 ((rd_T36 l0 x7_1).f1).length c179_1)).setCell ⟨gb180, 2, none⟩ (.bool ((rd_T36 l0 x7_1).f2)))) ?hg ?ho ?hn ?hr ?_; (case ho => rfl); (case hg => rfl); (case hn => rfl); (case hr => first | (go_simp; done) | (go_simp; rfl) | (have hq0_ := (blk_cell BK180.out 0).trans (show _ = some _ from rfl); have hf0_ := blk_frozen BK180.out 0; have hq1_ := (blk_cell BK180.out 1).trans (show _ = some _ from rfl); have hf1_ := blk_frozen BK180.out 1; have hq2_ := (blk_cell BK180.out 2).trans (show _ = some _ from rfl); have hf2_ := blk_frozen BK180.out 2; first | (go_simp; done) | (go_simp; rfl))); intro w26 hw; replace BK180 : Aside0 (w26.heap[gb180]? = some (.cells #[.string ((rd_T36 l0 x7_1).f0), .slice A179_1 ((rd_T36 l0 x7_1).f1).length c179_1, .bool ((rd_T36 l0 x7_1).f2)] 36 (0, 0))) := ⟨(by rw [hw]; exact (by refine bU ?_; refine blk_put (cs := #[.string ((rd_T36 l0 x7_1).f0), .slice A179_1 ((rd_T36 l0 x7_1).f1).length c179_1, .bool false]) ?_ 2 _ rfl; refine bU ?_; refine blk_put (cs := #[.string ((rd_T36 l0 x7_1).f0), .slice none 0 0, .bool false]) ?_ 1 _ rfl; refine bU ?_; refine blk_put (cs := #[.string (⟨#[]⟩ : ByteArray), .slice none 0 0, .bool false]) ?_ 0 _ rfl; refine bU ?_; exact BK180.out))⟩; replace HB : Aside0 (Below w.heap.size w w26) := ⟨(by rw [hw]; exact (lV1 GE180))⟩; clear hw; have hcz27_0 := cz BK180 0 (.string ((rd_T36 l0 x7_1).f0)); have hcz27_1 := cz BK180 1 (.slice A179_1 ((rd_T36 l0 x7_1).f1).length c179_1); have hcz27_2 := cz BK180 2 (.bool ((rd_T36 l0 x7_1).f2)); have hfz27_0 := fz BK180 0; have hfz27_1 := fz BK180 1; have hfz27_2 := fz BK180 2) | (go_at_call 23; (with_reducible refine (impl_GoodName.calls k1 ((rd_T36 l0 x7_1).f0) false _ A5.out).mono ?_); rintro e w' ⟨rfl, ⟨nd, rfl⟩⟩; (try first | exact ⟨rfl, _, World.drewN_drewN _ _ _⟩ | exact ⟨rfl, _, Eq.trans (World.drewN_drewN _ _ _) (congrArg (World.drewN _) (Nat.add_assoc _ _ _))⟩)))
       repeat (go_quiet (first | ((with_reducible refine gate_dst (N := 4) rfl ?_); refine box_event rfl (N := 4) rfl (cs := #[.string (⟨#[]⟩ : ByteArray), .slice none 0 0, .bool false]) (t := 36) sE ?_; intro gb180 hg w24 hbox hb; have BK180 := Aside0.mk hbox; have GW180 := gS w hg (lU); have GE180 := gS w hg (lU); replace HB := bH (lU) hb; clear hb hbox hg; have hcz25_0 := cz BK180 0 (.string (⟨#[]⟩ : ByteArray)); have hcz25_1 := cz BK180 1 (.slice none 0 0); have hcz25_2 := cz BK180 2 (.bool false); have hfz25_0 := fz BK180 0; have hfz25_1 := fz BK180 1; have hfz25_2 := fz BK180 2) | ((with_reducible refine gate_store (t := 36) (p := 4) rfl ?_); (try (rw [drewN_self w24]; generalize hq_ : World.drewN w24 _ = w24; replace BK180 := Aside0.mk (blk_at hq_ BK180.out); replace HB := Aside0.mk (below_at hq_ HB.out); clear hq_)); refine store_event (t := 36) (p := 4) (v := ?vo_w26) (w1 := (((w24.setCell ⟨gb180, 0, none⟩ (.string ((rd_T36 l0 x7_1).f0))).setCell ⟨gb180, 1, none⟩ (.slice A179_1 ((rd_T36 l0 x7_1).f1).length c179_1)).setCell ⟨gb180, 2, none⟩ (.bool ((rd_T36 l0 x7_1).f2)))) ?hg ?ho ?hn ?hr ?_; (case ho => rfl); (case hg => rfl); (case hn => rfl); (case hr => first | (go_simp; done) | (go_simp; rfl) | (have hq0_ := (blk_cell BK180.out 0).trans (show _ = some _ from rfl); have hf0_ := blk_frozen BK180.out 0; have hq1_ := (blk_cell BK180.out 1).trans (show _ = some _ from rfl); have hf1_ := blk_frozen BK180.out 1; have hq2_ := (blk_cell BK180.out 2).trans (show _ = some _ from rfl); have hf2_ := blk_frozen BK180.out 2; first | (go_simp; done) | (go_simp; rfl))); intro w26 hw; replace BK180 : Aside0 (w26.heap[gb180]? = some (.cells #[.string ((rd_T36 l0 x7_1).f0), .slice A179_1 ((rd_T36 l0 x7_1).f1).length c179_1, .bool ((rd_T36 l0 x7_1).f2)] 36 (0, 0))) := ⟨(by rw [hw]; exact (by refine bU ?_; refine blk_put (cs := #[.string ((rd_T36 l0 x7_1).f0), .slice A179_1 ((rd_T36 l0 x7_1).f1).length c179_1, .bool false]) ?_ 2 _ rfl; refine bU ?_; refine blk_put (cs := #[.string ((rd_T36 l0 x7_1).f0), .slice none 0 0, .bool false]) ?_ 1 _ rfl; refine bU ?_; refine blk_put (cs := #[.string (⟨#[]⟩ : ByteArray), .slice none 0 0, .bool false]) ?_ 0 _ rfl; refine bU ?_; exact BK180.out))⟩; replace HB : Aside0 (Below w.heap.size w w26) := ⟨(by rw [hw]; exact (lV1 GE180))⟩; clear hw; have hcz27_0 := cz BK180 0 (.string ((rd_T36 l0 x7_1).f0)); have hcz27_1 := cz BK180 1 (.slice A179_1 ((rd_T36 l0 x7_1).f1).length c179_1); have hcz27_2 := cz BK180 2 (.bool ((rd_T36 l0 x7_1).f2)); have hfz27_0 := fz BK180 0; have hfz27_1 := fz BK180 1; have hfz27_2 := fz BK180 2) | (go_at_call 23; (with_reducible refine (impl_GoodName.calls k1 ((rd_T36 l0 x7_1).f0) false _ A5.out).mono ?_); rintro e w' ⟨rfl, ⟨nd, rfl⟩⟩; (try first | exact ⟨rfl, _, World.drewN_drewN _ _ _⟩ | exact ⟨rfl, _, Eq.trans (World.drewN_drewN _ _ _) (congrArg (World.drewN _) (Nat.add_assoc _ _ _))⟩))); try go_wp2_with (first | ((with_reducible refine gate_dst (N := 4) rfl ?_); refine box_event rfl (N := 4) rfl (cs := #[.string (⟨#[]⟩ : ByteArray), .slice none 0 0, .bool false]) (t := 36) sE ?_; intro gb180 hg w24 hbox hb; have BK180 := Aside0.mk hbox; have GW180 := gS w hg (lU); have GE180 := gS w hg (lU); replace HB := bH (lU) hb; clear hb hbox hg; have hcz25_0 := cz BK180 0 (.string (⟨#[]⟩ : ByteArray)); have hcz25_1 := cz BK180 1 (.slice none 0 0); have hcz25_2 := cz BK180 2 (.bool false); have hfz25_0 := fz BK180 0; have hfz25_1 := fz BK180 1; have hfz25_2 := fz BK180 2) | ((with_reducible refine gate_store (t := 36) (p := 4) rfl ?_); (try (rw [drewN_self w24]; generalize hq_ : World.drewN w24 _ = w24; replace BK180 := Aside0.mk (blk_at hq_ BK180.out); replace HB := Aside0.mk (below_at hq_ HB.out); clear hq_)); refine store_event (t := 36) (p := 4) (v := ?vo_w26) (w1 := (((w24.setCell ⟨gb180, 0, none⟩ (.string ((rd_T36 l0 x7_1).f0))).setCell ⟨gb180, 1, none⟩ (.slice A179_1 ((rd_T36 l0 x7_1).f1).length c179_1)).setCell ⟨gb180, 2, none⟩ (.bool ((rd_T36 l0 x7_1).f2)))) ?hg ?ho ?hn ?hr ?_; (case ho => rfl); (case hg => rfl); (case hn => rfl); (case hr => first | (go_simp; done) | (go_simp; rfl) | (have hq0_ := (blk_cell BK180.out 0).trans (show _ = some _ from rfl); have hf0_ := blk_frozen BK180.out 0; have hq1_ := (blk_cell BK180.out 1).trans (show _ = some _ from rfl); have hf1_ := blk_frozen BK180.out 1; have hq2_ := (blk_cell BK180.out 2).trans (show _ = some _ from rfl); have hf2_ := blk_frozen BK180.out 2; first | (go_simp; done) | (go_simp; rfl))); intro w26 hw; replace BK180 : Aside0 (w26.heap[gb180]? = some (.cells #[.string ((rd_T36 l0 x7_1).f0), .slice A179_1 ((rd_T36 l0 x7_1).f1).length c179_1, .bool ((rd_T36 l0 x7_1).f2)] 36 (0, 0))) := ⟨(by rw [hw]; exact (by refine bU ?_; refine blk_put (cs := #[.string ((rd_T36 l0 x7_1).f0), .slice A179_1 ((rd_T36 l0 x7_1).f1).length c179_1, .bool false]) ?_ 2 _ rfl; refine bU ?_; refine blk_put (cs := #[.string ((rd_T36 l0 x7_1).f0), .slice none 0 0, .bool false]) ?_ 1 _ rfl; refine bU ?_; refine blk_put (cs := #[.string (⟨#[]⟩ : ByteArray), .slice none 0 0, .bool false]) ?_ 0 _ rfl; refine bU ?_; exact BK180.out))⟩; replace HB : Aside0 (Below w.heap.size w w26) := ⟨(by rw [hw]; exact (lV1 GE180))⟩; clear hw; have hcz27_0 := cz BK180 0 (.string ((rd_T36 l0 x7_1).f0)); have hcz27_1 := cz BK180 1 (.slice A179_1 ((rd_T36 l0 x7_1).f1).length c179_1); have hcz27_2 := cz BK180 2 (.bool ((rd_T36 l0 x7_1).f2)); have hfz27_0 := fz BK180 0; have hfz27_1 := fz BK180 1; have hfz27_2 := fz BK180 2) | (go_at_call 23; (with_reducible refine (impl_GoodName.calls k1 ((rd_T36 l0 x7_1).f0) false _ A5.out).mono ?_); rintro e w' ⟨rfl, ⟨nd, rfl⟩⟩; (try first | exact ⟨rfl, _, World.drewN_drewN _ _ _⟩ | exact ⟨rfl, _, Eq.trans (World.drewN_drewN _ _ _) (congrArg (World.drewN _) (Nat.add_assoc _ _ _))⟩))))
       go_ret
       exact ⟨eE, lV1 GE180⟩
     ·rw [if_neg c4] at H
      exact absurd H (by simp)
    ·rw [if_neg c3] at H
     exact absurd H (by simp)
   ·rw [if_neg c2] at H
    have c2b0 : decide (x7_1 < (l0.length : Int)) = false := decide_eq_false c2
    clear c2
    obtain rfl := Option.some.inj H
    go_wp2
    repeat (go_quiet (fail); try go_wp2)
    go_ret
    exact ⟨eE, lU⟩
def strings_IndexByte.f (a0 : ByteArray) (a1 : Int) : Option Int := some (Lib.indexByte a0.data.toList a1.toNat.toUInt8)
theorem strings_IndexByte.calls (a0 : ByteArray) (a1 : Int) (r : Int) (w : World) (h : strings_IndexByte.f a0 a1 = some r) :
  Calls Try.prog 33 #[.string a0, .int .u8 a1] w fun e w' => e = .returned (.int .i64 r) ∧ Drawn0 w w' := by
 obtain rfl := Option.some.inj h
 exact (Try.strings_IndexByte a0 a1 w).mono fun e w' h => ⟨h.1, by rw [h.2]; exact Drawn0.refl w⟩
def utf8_ValidRune.j0 : Nat → Int → Bool → Option (Bool)
 | 0, _, _ => none
 | k + 1, x0, x3 => if x3 = true then (some true) else (if 57343 < x0 then (if x0 ≤ 1114111 then (some true) else (some false)) else (some false))
def utf8_ValidRune.f (k : Nat) (a0 : Int) : Option (Bool) := if 0 ≤ a0 then (utf8_ValidRune.j0 k a0 (decide (a0 < 55296))) else (utf8_ValidRune.j0 k a0 false)
theorem utf8_ValidRune.mono_l : ∀ k, (∀ y0 y1, LeO (utf8_ValidRune.j0 k y0 y1) (utf8_ValidRune.j0 (k + 1) y0 y1))
 | 0 => fun _ _ r h => by simp [utf8_ValidRune.j0] at h
 | k + 1 => by
  have ih0 := utf8_ValidRune.mono_l k
  ·intro y0 y1
   unfold utf8_ValidRune.j0
   repeat' first
   | (with_reducible exact ih0 _ _)
   | (with_reducible first | exact LeO.refl _ | exact LeO.none _ | refine LeO.ite ?_ ?_ | refine LeO.bind ?_ (fun _ => ?_))
   | exact ih0 _ _ | exact LeO.none _ | refine LeO.ite ?_ ?_ | refine LeO.bind ?_ (fun _ => ?_)
theorem utf8_ValidRune.mono : ∀ a0 k, LeO (utf8_ValidRune.f k a0) (utf8_ValidRune.f (k + 1) a0) := by
 intro a0 k
 have ih0 := utf8_ValidRune.mono_l k
 unfold utf8_ValidRune.f
 repeat' first
   | (with_reducible exact ih0 _ _)
   | (with_reducible first | exact LeO.refl _ | exact LeO.none _ | refine LeO.ite ?_ ?_ | refine LeO.bind ?_ (fun _ => ?_))
   | exact ih0 _ _ | exact LeO.none _ | refine LeO.ite ?_ ?_ | refine LeO.bind ?_ (fun _ => ?_)
set_option maxHeartbeats 8000000 in
set_option maxRecDepth 100000 in
theorem utf8_ValidRune.calls (k : Nat) (a0 : Int) (r : Bool) (w : World) (h : utf8_ValidRune.f k a0 = some r) :
  Calls Try.prog 39 #[.int .i32 a0] w fun e w' => e = .returned (.bool r) ∧ Drawn0 w w' := by
 have H : (if 0 ≤ a0 then (utf8_ValidRune.j0 k a0 (decide (a0 < 55296))) else (utf8_ValidRune.j0 k a0 false)) = some r := h
 clear h
 have HC2 := Aside0.mk H
 clear H
 go_enter Try.func39, Try.ntmps39
 go_upto_region 1 with (fail)
 go_cut [3] (fun v3 wc => ∃ (kq : Nat) (x3_1 : Bool), v3 = .bool x3_1 ∧ Aside0 (utf8_ValidRune.j0 kq a0 x3_1 = some r) ∧ Aside0 (kq ≤ k) ∧ Drawn0 w wc)
 case first =>
  have H := HC2.out
  clear HC2
  by_cases c3 : 0 ≤ a0
  ·rw [if_pos c3] at H
   have c3b0 : decide (0 ≤ a0) = true := decide_eq_true c3
   clear c3
   (first | rw [c3b0] | (simp only [i64_w, i32_w]; rw [c3b0]) | (rw [c3b2]; simp only [Bool.not_false, Bool.not_true]) | skip)
   have H' := Aside0.mk H
   clear H
   go_wp2
   go_meet
   case rel => exact ⟨_, (decide (a0 < 55296)), tE, H', ⟨by first | omega | exact Nat.le_refl _⟩, by repeat (first | exact Drawn0.refl _ | apply Drawn0.step)⟩
  ·rw [if_neg c3] at H
   have c3b0 : decide (0 ≤ a0) = false := decide_eq_false c3
   clear c3
   (first | rw [c3b0] | (simp only [i64_w, i32_w]; rw [c3b0]) | (rw [c3b2]; simp only [Bool.not_false, Bool.not_true]) | skip)
   have H' := Aside0.mk H
   clear H
   go_wp2
   go_meet
   case rel => exact ⟨_, (false), tE, H', ⟨by first | omega | exact Nat.le_refl _⟩, by repeat (first | exact Drawn0.refl _ | apply Drawn0.step)⟩
 case rest =>
  clear HC2
  try clear p2
  try clear c3
  try clear c3b0
  try clear c3b2
  obtain ⟨kq, x3_1, rfl, HA, HJ1, ⟨mc1, rfl⟩⟩ := hcut
  cases kq with
  | zero => exact absurd HA.out (by simp [utf8_ValidRune.j0])
  | succ kj1 =>
   have H := HA.out
   clear HA
   simp only [utf8_ValidRune.j0] at H
   by_cases c4 : x3_1 = true
   ·subst c4
    have H1 : (some true) = some r := by rw [if_pos rfl] at H; exact H
    clear H
    have H := H1
    clear H1
    obtain rfl := Option.some.inj H
    go_wp2
    go_ret
    exact ⟨by first | rfl | (simp; done) | (simp [*]; done) | exact not_isEmpty _ | exact (not_isEmpty _).symm | exact is_empty _ | exact (is_empty _).symm, by repeat (first | exact Drawn0.refl _ | apply Drawn0.step)⟩
   ·replace c4 := Bool.eq_false_iff.mpr c4
    subst c4
    have H1 : (if 57343 < a0 then (if a0 ≤ 1114111 then (some true) else (some false)) else (some false)) = some r := by rw [if_neg (show ¬ (false = true) by decide)] at H; exact H
    clear H
    have H := H1
    clear H1
    by_cases c5 : 57343 < a0
    ·rw [if_pos c5] at H
     have c5b0 : decide (57343 < a0) = true := decide_eq_true c5
     clear c5
     by_cases c6 : a0 ≤ 1114111
     ·rw [if_pos c6] at H
      have c6b0 : decide (a0 ≤ 1114111) = true := decide_eq_true c6
      clear c6
      obtain rfl := Option.some.inj H
      go_wp2
      go_ret
      exact ⟨by first | rfl | (simp; done) | (simp [*]; done) | exact not_isEmpty _ | exact (not_isEmpty _).symm | exact is_empty _ | exact (is_empty _).symm, by repeat (first | exact Drawn0.refl _ | apply Drawn0.step)⟩
     ·rw [if_neg c6] at H
      have c6b0 : decide (a0 ≤ 1114111) = false := decide_eq_false c6
      clear c6
      obtain rfl := Option.some.inj H
      go_wp2
      go_ret
      exact ⟨by first | rfl | (simp; done) | (simp [*]; done) | exact not_isEmpty _ | exact (not_isEmpty _).symm | exact is_empty _ | exact (is_empty _).symm, by repeat (first | exact Drawn0.refl _ | apply Drawn0.step)⟩
    ·rw [if_neg c5] at H
     have c5b0 : decide (57343 < a0) = false := decide_eq_false c5
     clear c5
     obtain rfl := Option.some.inj H
     go_wp2
     go_ret
     exact ⟨by first | rfl | (simp; done) | (simp [*]; done) | exact not_isEmpty _ | exact (not_isEmpty _).symm | exact is_empty _ | exact (is_empty _).symm, by repeat (first | exact Drawn0.refl _ | apply Drawn0.step)⟩
end Go.Proofs.Ytnacjhgpanedoac.PFnExactGoodEntries
namespace Go.Proofs.Ytnacjhgpanedoac.PFnExactGoodEntries
open Go.RowKit Go.Proofs.YtnacjhgpanedoacW.PrintWords Go.Proofs.YtnacjhgpanedoacW.PrintLast Go.Proofs.YtnacjhgpanedoacW.PrintMore
attribute [local go_sem] max2_int min2_int max_two min_two max_three min_three max_four min_four   -- for this text's walks alone
set_option linter.unusedVariables false
set_option linter.unusedSimpArgs false
def bytealg_Cutover.f (a0 : Int) : Option (Int) := some (wrap64 (Int.tdiv (wrap64 (a0 + 16)) 8))
set_option maxHeartbeats 8000000 in
set_option maxRecDepth 100000 in
theorem bytealg_Cutover.calls (a0 : Int) (r : Int) (w : World) (h : bytealg_Cutover.f a0 = some r) :
  Calls Try.prog 40 #[.int .i64 a0] w fun e w' => e = .returned (.int .i64 r) ∧ Drawn0 w w' := by
 have H : (some (wrap64 (Int.tdiv (wrap64 (a0 + 16)) 8))) = some r := h
 clear h
 obtain rfl := Option.some.inj H
 go_enter Try.func40, Try.ntmps40
 go_wp2
 go_ret
 exact ⟨by first | rfl | (simp; done) | (simp [*]; done) | exact not_isEmpty _ | exact (not_isEmpty _).symm | exact is_empty _ | exact (is_empty _).symm, by repeat (first | exact Drawn0.refl _ | apply Drawn0.step)⟩
def strings_shouldUseASCIISet.f (a0 : Int) : Option (Bool) := some (decide (a0 > 8))
set_option maxHeartbeats 8000000 in
set_option maxRecDepth 100000 in
theorem strings_shouldUseASCIISet.calls (a0 : Int) (r : Bool) (w : World) (h : strings_shouldUseASCIISet.f a0 = some r) :
  Calls Try.prog 35 #[.int .i64 a0] w fun e w' => e = .returned (.bool r) ∧ Drawn0 w w' := by
 have H : (some (decide (a0 > 8))) = some r := h
 clear h
 obtain rfl := Option.some.inj H
 go_enter Try.func35, Try.ntmps35
 go_wp2
 go_ret
 exact ⟨by first | rfl | (simp; done) | (simp [*]; done) | exact not_isEmpty _ | exact (not_isEmpty _).symm | exact is_empty _ | exact (is_empty _).symm, by repeat (first | exact Drawn0.refl _ | apply Drawn0.step)⟩
def strings_IndexAny.f (a0 : ByteArray) (a1 : ByteArray) : Option Int := if a1 = braces then (if a0.size < 4294967281 then some (Lib.indexAny a0.data.toList braces.data.toList) else none) else none
theorem strings_IndexAny.calls (a0 : ByteArray) (a1 : ByteArray) (r : Int) (w : World) (h : strings_IndexAny.f a0 a1 = some r) :
  Calls Try.prog 32 #[.string a0, .string a1] w fun e w' => e = .returned (.int .i64 r) ∧ Below w.heap.size w w' := by
 unfold strings_IndexAny.f at h
 by_cases h1 : a1 = braces
 ·by_cases h2 : a0.size < 4294967281
  ·rw [if_pos h1, if_pos h2] at h
   obtain rfl := Option.some.inj h
   subst h1
   exact Try.IndexAny_braces a0 w h2
  ·rw [if_pos h1, if_neg h2] at h; cases h
 ·rw [if_neg h1] at h; cases h
def impl_field.f (k : Nat) (a0 : ByteArray) : Option (ByteArray × ByteArray × ByteArray) := (strings_IndexAny.f a0 (⟨#[123, 125]⟩ : ByteArray)).bind fun t184 => (if t184 < 0 then (some (a0, (⟨#[]⟩ : ByteArray), (⟨#[]⟩ : ByteArray))) else (if 0 ≤ t184 then (if t184 < (a0.size : Int) then (if (bt a0 t184) = 123 then (if t184 ≤ (a0.size : Int) then ((strings_IndexByte.f (a0.extract (t184 : Int).toNat a0.size) 125).bind fun t185 => (if t185 > 0 then (if 0 ≤ (wrap64 (t184 + 1)) then (if (wrap64 (t184 + 1)) ≤ (wrap64 (t184 + t185)) then (if (wrap64 (t184 + t185)) ≤ (a0.size : Int) then ((impl_GoodName.f k (a0.extract ((wrap64 (t184 + 1)) : Int).toNat ((wrap64 (t184 + t185)) : Int).toNat)).bind fun t186 => (if t186 = true then (if 0 ≤ (wrap64 ((wrap64 (t184 + t185)) + 1)) then (if (wrap64 ((wrap64 (t184 + t185)) + 1)) ≤ (a0.size : Int) then (some (a0.extract 0 (t184 : Int).toNat, a0.extract ((wrap64 (t184 + 1)) : Int).toNat ((wrap64 (t184 + t185)) : Int).toNat, a0.extract ((wrap64 ((wrap64 (t184 + t185)) + 1)) : Int).toNat a0.size)) else (none)) else (none)) else (some (a0.extract 0 (t184 : Int).toNat, (⟨#[]⟩ : ByteArray), a0.extract (t184 : Int).toNat a0.size)))) else (none)) else (none)) else (none)) else (some (a0.extract 0 (t184 : Int).toNat, (⟨#[]⟩ : ByteArray), a0.extract (t184 : Int).toNat a0.size)))) else (none)) else (if t184 ≤ (a0.size : Int) then (some (a0.extract 0 (t184 : Int).toNat, (⟨#[]⟩ : ByteArray), a0.extract (t184 : Int).toNat a0.size)) else (none))) else (none)) else (none)))
theorem impl_field.mono : ∀ a0 k, LeO (impl_field.f k a0) (impl_field.f (k + 1) a0) := by
 intro a0 k
 unfold impl_field.f
 repeat' first
   | (with_reducible exact impl_GoodName.mono _ _)
   | (with_reducible first | exact LeO.refl _ | exact LeO.none _ | refine LeO.ite ?_ ?_ | refine LeO.bind ?_ (fun _ => ?_))
   | exact impl_GoodName.mono _ _ | exact LeO.none _ | refine LeO.ite ?_ ?_ | refine LeO.bind ?_ (fun _ => ?_)
set_option maxHeartbeats 8000000 in
set_option maxRecDepth 100000 in
theorem impl_field.calls (k : Nat) (a0 : ByteArray) (r1 : ByteArray) (r2 : ByteArray) (r3 : ByteArray) (w : World) (h : impl_field.f k a0 = some (r1, r2, r3)) :
  Calls Try.prog 25 #[.string a0] w fun e w' => e = .returned (.tuple #[.string r1, .string r2, .string r3]) ∧ Below w.heap.size w w' := by
 have HB := Aside0.mk (Below.refl w.heap.size w)
 have H : ((strings_IndexAny.f a0 (⟨#[123, 125]⟩ : ByteArray)).bind fun t184 => (if t184 < 0 then (some (a0, (⟨#[]⟩ : ByteArray), (⟨#[]⟩ : ByteArray))) else (if 0 ≤ t184 then (if t184 < (a0.size : Int) then (if (bt a0 t184) = 123 then (if t184 ≤ (a0.size : Int) then ((strings_IndexByte.f (a0.extract (t184 : Int).toNat a0.size) 125).bind fun t185 => (if t185 > 0 then (if 0 ≤ (wrap64 (t184 + 1)) then (if (wrap64 (t184 + 1)) ≤ (wrap64 (t184 + t185)) then (if (wrap64 (t184 + t185)) ≤ (a0.size : Int) then ((impl_GoodName.f k (a0.extract ((wrap64 (t184 + 1)) : Int).toNat ((wrap64 (t184 + t185)) : Int).toNat)).bind fun t186 => (if t186 = true then (if 0 ≤ (wrap64 ((wrap64 (t184 + t185)) + 1)) then (if (wrap64 ((wrap64 (t184 + t185)) + 1)) ≤ (a0.size : Int) then (some (a0.extract 0 (t184 : Int).toNat, a0.extract ((wrap64 (t184 + 1)) : Int).toNat ((wrap64 (t184 + t185)) : Int).toNat, a0.extract ((wrap64 ((wrap64 (t184 + t185)) + 1)) : Int).toNat a0.size)) else (none)) else (none)) else (some (a0.extract 0 (t184 : Int).toNat, (⟨#[]⟩ : ByteArray), a0.extract (t184 : Int).toNat a0.size)))) else (none)) else (none)) else (none)) else (some (a0.extract 0 (t184 : Int).toNat, (⟨#[]⟩ : ByteArray), a0.extract (t184 : Int).toNat a0.size)))) else (none)) else (if t184 ≤ (a0.size : Int) then (some (a0.extract 0 (t184 : Int).toNat, (⟨#[]⟩ : ByteArray), a0.extract (t184 : Int).toNat a0.size)) else (none))) else (none)) else (none)))) = some (r1, r2, r3) := h
 clear h
 replace H := Option.bind_eq_some_iff.mp H
 obtain ⟨t184, A20, H⟩ := H
 replace H : (if t184 < 0 then (some (a0, (⟨#[]⟩ : ByteArray), (⟨#[]⟩ : ByteArray))) else (if 0 ≤ t184 then (if t184 < (a0.size : Int) then (if (bt a0 t184) = 123 then (if t184 ≤ (a0.size : Int) then ((strings_IndexByte.f (a0.extract (t184 : Int).toNat a0.size) 125).bind fun t185 => (if t185 > 0 then (if 0 ≤ (wrap64 (t184 + 1)) then (if (wrap64 (t184 + 1)) ≤ (wrap64 (t184 + t185)) then (if (wrap64 (t184 + t185)) ≤ (a0.size : Int) then ((impl_GoodName.f k (a0.extract ((wrap64 (t184 + 1)) : Int).toNat ((wrap64 (t184 + t185)) : Int).toNat)).bind fun t186 => (if t186 = true then (if 0 ≤ (wrap64 ((wrap64 (t184 + t185)) + 1)) then (if (wrap64 ((wrap64 (t184 + t185)) + 1)) ≤ (a0.size : Int) then (some (a0.extract 0 (t184 : Int).toNat, a0.extract ((wrap64 (t184 + 1)) : Int).toNat ((wrap64 (t184 + t185)) : Int).toNat, a0.extract ((wrap64 ((wrap64 (t184 + t185)) + 1)) : Int).toNat a0.size)) else (none)) else (none)) else (some (a0.extract 0 (t184 : Int).toNat, (⟨#[]⟩ : ByteArray), a0.extract (t184 : Int).toNat a0.size)))) else (none)) else (none)) else (none)) else (some (a0.extract 0 (t184 : Int).toNat, (⟨#[]⟩ : ByteArray), a0.extract (t184 : Int).toNat a0.size)))) else (none)) else (if t184 ≤ (a0.size : Int) then (some (a0.extract 0 (t184 : Int).toNat, (⟨#[]⟩ : ByteArray), a0.extract (t184 : Int).toNat a0.size)) else (none))) else (none)) else (none))) = some (r1, r2, r3) := H
 have A2 := Aside0.mk A20
 clear A20
 by_cases c3 : t184 < 0
 ·rw [if_pos c3] at H
  have c3b0 : decide (t184 < 0) = true := decide_eq_true c3
  clear c3
  simp only [Option.some.injEq, Prod.mk.injEq] at H
  obtain ⟨rfl, rfl, rfl⟩ := H
  go_enter Try.func25, Try.ntmps25
  go_wp2_with (first | (go_at_call 32; (with_reducible refine (strings_IndexAny.calls a0 (⟨#[123, 125]⟩ : ByteArray) t184 _ A2.out).mono ?_); rintro e w4 ⟨rfl, hb⟩; replace HB := bH (lU) hb; (try clear hb)))
  repeat (go_quiet (first | (go_at_call 32; (with_reducible refine (strings_IndexAny.calls a0 (⟨#[123, 125]⟩ : ByteArray) t184 _ A2.out).mono ?_); rintro e w4 ⟨rfl, hb⟩; replace HB := bH (lU) hb; (try clear hb))); try go_wp2_with (first | (go_at_call 32; (with_reducible refine (strings_IndexAny.calls a0 (⟨#[123, 125]⟩ : ByteArray) t184 _ A2.out).mono ?_); rintro e w4 ⟨rfl, hb⟩; replace HB := bH (lU) hb; (try clear hb))))
  go_ret3
  exact ⟨eE, lU⟩
 ·rw [if_neg c3] at H
  have c3b0 : decide (t184 < 0) = false := decide_eq_false c3
  clear c3
  by_cases c5 : 0 ≤ t184
  ·rw [if_pos c5] at H
   have c5b0 : decide (0 ≤ t184) = true := decide_eq_true c5
   clear c5
   by_cases c6 : t184 < (a0.size : Int)
   ·rw [if_pos c6] at H
    have c6b0 : decide (t184 < (a0.size : Int)) = true := decide_eq_true c6
    clear c6
    by_cases c8 : (bt a0 t184) = 123
    ·rw [if_pos c8] at H
     have c8b0 : ((bt a0 t184) == 123) = true := beq_iff_eq.mpr c8
     have c8b1 : ((bt a0 t184) != 123) = false := bne_eq_false_iff_eq.mpr c8
     clear c8
     have c9b0 := eq_true (of_decide_eq_true hE : 0 ≤ t184)
     by_cases c10 : t184 ≤ (a0.size : Int)
     ·rw [if_pos c10] at H
      have c10b0 := eq_true c10
      have c10b1 : decide (t184 ≤ (a0.size : Int)) = true := decide_eq_true c10
      clear c10
      replace H := Option.bind_eq_some_iff.mp H
      obtain ⟨t185, A110, H⟩ := H
      replace H : (if t185 > 0 then (if 0 ≤ (wrap64 (t184 + 1)) then (if (wrap64 (t184 + 1)) ≤ (wrap64 (t184 + t185)) then (if (wrap64 (t184 + t185)) ≤ (a0.size : Int) then ((impl_GoodName.f k (a0.extract ((wrap64 (t184 + 1)) : Int).toNat ((wrap64 (t184 + t185)) : Int).toNat)).bind fun t186 => (if t186 = true then (if 0 ≤ (wrap64 ((wrap64 (t184 + t185)) + 1)) then (if (wrap64 ((wrap64 (t184 + t185)) + 1)) ≤ (a0.size : Int) then (some (a0.extract 0 (t184 : Int).toNat, a0.extract ((wrap64 (t184 + 1)) : Int).toNat ((wrap64 (t184 + t185)) : Int).toNat, a0.extract ((wrap64 ((wrap64 (t184 + t185)) + 1)) : Int).toNat a0.size)) else (none)) else (none)) else (some (a0.extract 0 (t184 : Int).toNat, (⟨#[]⟩ : ByteArray), a0.extract (t184 : Int).toNat a0.size)))) else (none)) else (none)) else (none)) else (some (a0.extract 0 (t184 : Int).toNat, (⟨#[]⟩ : ByteArray), a0.extract (t184 : Int).toNat a0.size))) = some (r1, r2, r3) := H
      have A11 := Aside0.mk A110
      clear A110
      by_cases c12 : t185 > 0
      ·rw [if_pos c12] at H
       have c12b0 : decide (0 < t185) = true := decide_eq_true c12
       clear c12
       obtain ⟨ji13, hji13⟩ : ∃ j_ : Int, (wrap64 (t184 + 1)) = j_ := ⟨_, rfl⟩
       replace H : (if 0 ≤ (ji13) then (if (ji13) ≤ (wrap64 (t184 + t185)) then (if (wrap64 (t184 + t185)) ≤ (a0.size : Int) then ((impl_GoodName.f k (a0.extract ((ji13) : Int).toNat ((wrap64 (t184 + t185)) : Int).toNat)).bind fun t186 => (if t186 = true then (if 0 ≤ (wrap64 ((wrap64 (t184 + t185)) + 1)) then (if (wrap64 ((wrap64 (t184 + t185)) + 1)) ≤ (a0.size : Int) then (some (a0.extract 0 (t184 : Int).toNat, a0.extract ((ji13) : Int).toNat ((wrap64 (t184 + t185)) : Int).toNat, a0.extract ((wrap64 ((wrap64 (t184 + t185)) + 1)) : Int).toNat a0.size)) else (none)) else (none)) else (some (a0.extract 0 (t184 : Int).toNat, (⟨#[]⟩ : ByteArray), a0.extract (t184 : Int).toNat a0.size)))) else (none)) else (none)) else (none)) = some (r1, r2, r3) := by first | (rw [hji13] at H; exact H) | (simp only [hji13] at H ⊢; exact H)
       (try rw [hji13] at A2)
       (try rw [hji13] at A11)
       have hji13w : (IntKind.i64.wrap (t184 + 1)) = ji13 := (i64_w _).trans hji13
       by_cases c14 : 0 ≤ (ji13)
       ·rw [if_pos c14] at H
        have c14b0 := eq_true c14
        have c14b1 : decide (0 ≤ (ji13)) = true := decide_eq_true c14
        clear c14
        by_cases c15 : (ji13) ≤ (wrap64 (t184 + t185))
        ·rw [if_pos c15] at H
         have c15b0 := eq_true c15
         have c15b1 : decide ((ji13) ≤ (wrap64 (t184 + t185))) = true := decide_eq_true c15
         by_cases c16 : (wrap64 (t184 + t185)) ≤ (a0.size : Int)
         ·rw [if_pos c16] at H
          have c16b0 := eq_true c16
          have c16b1 : decide ((wrap64 (t184 + t185)) ≤ (a0.size : Int)) = true := decide_eq_true c16
          replace H := Option.bind_eq_some_iff.mp H
          obtain ⟨t186, A170, H⟩ := H
          replace H : (if t186 = true then (if 0 ≤ (wrap64 ((wrap64 (t184 + t185)) + 1)) then (if (wrap64 ((wrap64 (t184 + t185)) + 1)) ≤ (a0.size : Int) then (some (a0.extract 0 (t184 : Int).toNat, a0.extract ((ji13) : Int).toNat ((wrap64 (t184 + t185)) : Int).toNat, a0.extract ((wrap64 ((wrap64 (t184 + t185)) + 1)) : Int).toNat a0.size)) else (none)) else (none)) else (some (a0.extract 0 (t184 : Int).toNat, (⟨#[]⟩ : ByteArray), a0.extract (t184 : Int).toNat a0.size))) = some (r1, r2, r3) := H
          have A17 := Aside0.mk A170
          clear A170
          by_cases c18 : t186 = true
          ·subst c18
           have H1 : (if 0 ≤ (wrap64 ((wrap64 (t184 + t185)) + 1)) then (if (wrap64 ((wrap64 (t184 + t185)) + 1)) ≤ (a0.size : Int) then (some (a0.extract 0 (t184 : Int).toNat, a0.extract ((ji13) : Int).toNat ((wrap64 (t184 + t185)) : Int).toNat, a0.extract ((wrap64 ((wrap64 (t184 + t185)) + 1)) : Int).toNat a0.size)) else (none)) else (none)) = some (r1, r2, r3) := by rw [if_pos rfl] at H; exact H
           clear H
           have H := H1
           clear H1
           have c19b0 := eq_true (of_decide_eq_true hE : 0 ≤ t184)
           have c20b0 := eq_true (of_decide_eq_true hE : t184 ≤ (a0.size : Int))
           have c21b0 := eq_true (of_decide_eq_true hE : 0 ≤ (ji13))
           have c22b0 := eq_true (of_decide_eq_true hE : (ji13) ≤ (wrap64 (t184 + t185)))
           have c23b0 := eq_true (of_decide_eq_true hE : (wrap64 (t184 + t185)) ≤ (a0.size : Int))
           obtain ⟨ji24, hji24⟩ : ∃ j_ : Int, (wrap64 ((wrap64 (t184 + t185)) + 1)) = j_ := ⟨_, rfl⟩
           replace H : (if 0 ≤ (ji24) then (if (ji24) ≤ (a0.size : Int) then (some (a0.extract 0 (t184 : Int).toNat, a0.extract ((ji13) : Int).toNat ((wrap64 (t184 + t185)) : Int).toNat, a0.extract ((ji24) : Int).toNat a0.size)) else (none)) else (none)) = some (r1, r2, r3) := by first | (rw [hji24] at H; exact H) | (simp only [hji24] at H ⊢; exact H)
           (try rw [hji24] at A2)
           (try rw [hji24] at A11)
           (try rw [hji24] at A17)
           have hji24w : (IntKind.i64.wrap ((wrap64 (t184 + t185)) + 1)) = ji24 := (i64_w _).trans hji24
           by_cases c25 : 0 ≤ (ji24)
           ·rw [if_pos c25] at H
            have c25b0 := eq_true c25
            have c25b1 : decide (0 ≤ (ji24)) = true := decide_eq_true c25
            clear c25
            by_cases c26 : (ji24) ≤ (a0.size : Int)
            ·rw [if_pos c26] at H
             have c26b0 := eq_true c26
             have c26b1 : decide ((ji24) ≤ (a0.size : Int)) = true := decide_eq_true c26
             clear c26
             simp only [Option.some.injEq, Prod.mk.injEq] at H
             obtain ⟨rfl, rfl, rfl⟩ := H
             go_enter Try.func25, Try.ntmps25
             go_wp2_with (first | (go_at_call 32; (with_reducible refine (strings_IndexAny.calls a0 (⟨#[123, 125]⟩ : ByteArray) t184 _ A2.out).mono ?_); rintro e w27 ⟨rfl, hb⟩; replace HB := bH (lU) hb; (try clear hb); have p7 : 0 ≤ (t184 : Int) := of_decide_eq_true hE; have q7 : t184 < (a0.size : Int) := of_decide_eq_true hE; have hx7 := bt_at a0 t184; replace p7 := eq_true p7; replace q7 := eq_true q7) | (go_at_call 33; (with_reducible refine (strings_IndexByte.calls (a0.extract (t184 : Int).toNat a0.size) 125 t185 _ A11.out).mono ?_); rintro e w' ⟨rfl, ⟨nd, rfl⟩⟩; (try first | exact ⟨rfl, _, World.drewN_drewN _ _ _⟩ | exact ⟨rfl, _, Eq.trans (World.drewN_drewN _ _ _) (congrArg (World.drewN _) (Nat.add_assoc _ _ _))⟩)) | (go_at_call 23; (with_reducible refine (impl_GoodName.calls k (a0.extract ((ji13) : Int).toNat ((wrap64 (t184 + t185)) : Int).toNat) true _ A17.out).mono ?_); rintro e w' ⟨rfl, ⟨nd, rfl⟩⟩; (try first | exact ⟨rfl, _, World.drewN_drewN _ _ _⟩ | exact ⟨rfl, _, Eq.trans (World.drewN_drewN _ _ _) (congrArg (World.drewN _) (Nat.add_assoc _ _ _))⟩)))
             repeat (go_quiet (first | (go_at_call 32; (with_reducible refine (strings_IndexAny.calls a0 (⟨#[123, 125]⟩ : ByteArray) t184 _ A2.out).mono ?_); rintro e w27 ⟨rfl, hb⟩; replace HB := bH (lU) hb; (try clear hb); have p7 : 0 ≤ (t184 : Int) := of_decide_eq_true hE; have q7 : t184 < (a0.size : Int) := of_decide_eq_true hE; have hx7 := bt_at a0 t184; replace p7 := eq_true p7; replace q7 := eq_true q7) | (go_at_call 33; (with_reducible refine (strings_IndexByte.calls (a0.extract (t184 : Int).toNat a0.size) 125 t185 _ A11.out).mono ?_); rintro e w' ⟨rfl, ⟨nd, rfl⟩⟩; (try first | exact ⟨rfl, _, World.drewN_drewN _ _ _⟩ | exact ⟨rfl, _, Eq.trans (World.drewN_drewN _ _ _) (congrArg (World.drewN _) (Nat.add_assoc _ _ _))⟩)) | (go_at_call 23; (with_reducible refine (impl_GoodName.calls k (a0.extract ((ji13) : Int).toNat ((wrap64 (t184 + t185)) : Int).toNat) true _ A17.out).mono ?_); rintro e w' ⟨rfl, ⟨nd, rfl⟩⟩; (try first | exact ⟨rfl, _, World.drewN_drewN _ _ _⟩ | exact ⟨rfl, _, Eq.trans (World.drewN_drewN _ _ _) (congrArg (World.drewN _) (Nat.add_assoc _ _ _))⟩))); try go_wp2_with (first | (go_at_call 32; (with_reducible refine (strings_IndexAny.calls a0 (⟨#[123, 125]⟩ : ByteArray) t184 _ A2.out).mono ?_); rintro e w27 ⟨rfl, hb⟩; replace HB := bH (lU) hb; (try clear hb); have p7 : 0 ≤ (t184 : Int) := of_decide_eq_true hE; have q7 : t184 < (a0.size : Int) := of_decide_eq_true hE; have hx7 := bt_at a0 t184; replace p7 := eq_true p7; replace q7 := eq_true q7) | (go_at_call 33; (with_reducible refine (strings_IndexByte.calls (a0.extract (t184 : Int).toNat a0.size) 125 t185 _ A11.out).mono ?_); rintro e w' ⟨rfl, ⟨nd, rfl⟩⟩; (try first | exact ⟨rfl, _, World.drewN_drewN _ _ _⟩ | exact ⟨rfl, _, Eq.trans (World.drewN_drewN _ _ _) (congrArg (World.drewN _) (Nat.add_assoc _ _ _))⟩)) | (go_at_call 23; (with_reducible refine (impl_GoodName.calls k (a0.extract ((ji13) : Int).toNat ((wrap64 (t184 + t185)) : Int).toNat) true _ A17.out).mono ?_); rintro e w' ⟨rfl, ⟨nd, rfl⟩⟩; (try first | exact ⟨rfl, _, World.drewN_drewN _ _ _⟩ | exact ⟨rfl, _, Eq.trans (World.drewN_drewN _ _ _) (congrArg (World.drewN _) (Nat.add_assoc _ _ _))⟩))))
             go_ret3
             exact ⟨by first | rfl | (simp [errW_none, errW_some] <;> rfl) | (simp only [← hji13, ← hji24]; first | rfl | (simp [errW_none, errW_some] <;> rfl)) | (simp [*, errW_none, errW_some] <;> rfl), lU⟩
            ·rw [if_neg c26] at H
             exact absurd H (by simp)
           ·rw [if_neg c25] at H
            exact absurd H (by simp)
          ·replace c18 := Bool.eq_false_iff.mpr c18
           subst c18
           have H1 : (some (a0.extract 0 (t184 : Int).toNat, (⟨#[]⟩ : ByteArray), a0.extract (t184 : Int).toNat a0.size)) = some (r1, r2, r3) := by rw [if_neg (show ¬ (false = true) by decide)] at H; exact H
           clear H
           have H := H1
           clear H1
           have c28b0 := eq_true (of_decide_eq_true hE : 0 ≤ t184)
           have c29b0 := eq_true (of_decide_eq_true hE : t184 ≤ (a0.size : Int))
           have c30b0 := eq_true (of_decide_eq_true hE : 0 ≤ t184)
           have c31b0 := eq_true (of_decide_eq_true hE : t184 ≤ (a0.size : Int))
           simp only [Option.some.injEq, Prod.mk.injEq] at H
           obtain ⟨rfl, rfl, rfl⟩ := H
           go_enter Try.func25, Try.ntmps25
           go_wp2_with (first | (go_at_call 32; (with_reducible refine (strings_IndexAny.calls a0 (⟨#[123, 125]⟩ : ByteArray) t184 _ A2.out).mono ?_); rintro e w32 ⟨rfl, hb⟩; replace HB := bH (lU) hb; (try clear hb); have p7 : 0 ≤ (t184 : Int) := of_decide_eq_true hE; have q7 : t184 < (a0.size : Int) := of_decide_eq_true hE; have hx7 := bt_at a0 t184; replace p7 := eq_true p7; replace q7 := eq_true q7) | (go_at_call 33; (with_reducible refine (strings_IndexByte.calls (a0.extract (t184 : Int).toNat a0.size) 125 t185 _ A11.out).mono ?_); rintro e w' ⟨rfl, ⟨nd, rfl⟩⟩; (try first | exact ⟨rfl, _, World.drewN_drewN _ _ _⟩ | exact ⟨rfl, _, Eq.trans (World.drewN_drewN _ _ _) (congrArg (World.drewN _) (Nat.add_assoc _ _ _))⟩)) | (go_at_call 23; (with_reducible refine (impl_GoodName.calls k (a0.extract ((ji13) : Int).toNat ((wrap64 (t184 + t185)) : Int).toNat) false _ A17.out).mono ?_); rintro e w' ⟨rfl, ⟨nd, rfl⟩⟩; (try first | exact ⟨rfl, _, World.drewN_drewN _ _ _⟩ | exact ⟨rfl, _, Eq.trans (World.drewN_drewN _ _ _) (congrArg (World.drewN _) (Nat.add_assoc _ _ _))⟩)))
           repeat (go_quiet (first | (go_at_call 32; (with_reducible refine (strings_IndexAny.calls a0 (⟨#[123, 125]⟩ : ByteArray) t184 _ A2.out).mono ?_); rintro e w32 ⟨rfl, hb⟩; replace HB := bH (lU) hb; (try clear hb); have p7 : 0 ≤ (t184 : Int) := of_decide_eq_true hE; have q7 : t184 < (a0.size : Int) := of_decide_eq_true hE; have hx7 := bt_at a0 t184; replace p7 := eq_true p7; replace q7 := eq_true q7) | (go_at_call 33; (with_reducible refine (strings_IndexByte.calls (a0.extract (t184 : Int).toNat a0.size) 125 t185 _ A11.out).mono ?_); rintro e w' ⟨rfl, ⟨nd, rfl⟩⟩; (try first | exact ⟨rfl, _, World.drewN_drewN _ _ _⟩ | exact ⟨rfl, _, Eq.trans (World.drewN_drewN _ _ _) (congrArg (World.drewN _) (Nat.add_assoc _ _ _))⟩)) | (go_at_call 23; (with_reducible refine (impl_GoodName.calls k (a0.extract ((ji13) : Int).toNat ((wrap64 (t184 + t185)) : Int).toNat) false _ A17.out).mono ?_); rintro e w' ⟨rfl, ⟨nd, rfl⟩⟩; (try first | exact ⟨rfl, _, World.drewN_drewN _ _ _⟩ | exact ⟨rfl, _, Eq.trans (World.drewN_drewN _ _ _) (congrArg (World.drewN _) (Nat.add_assoc _ _ _))⟩))); try go_wp2_with (first | (go_at_call 32; (with_reducible refine (strings_IndexAny.calls a0 (⟨#[123, 125]⟩ : ByteArray) t184 _ A2.out).mono ?_); rintro e w32 ⟨rfl, hb⟩; replace HB := bH (lU) hb; (try clear hb); have p7 : 0 ≤ (t184 : Int) := of_decide_eq_true hE; have q7 : t184 < (a0.size : Int) := of_decide_eq_true hE; have hx7 := bt_at a0 t184; replace p7 := eq_true p7; replace q7 := eq_true q7) | (go_at_call 33; (with_reducible refine (strings_IndexByte.calls (a0.extract (t184 : Int).toNat a0.size) 125 t185 _ A11.out).mono ?_); rintro e w' ⟨rfl, ⟨nd, rfl⟩⟩; (try first | exact ⟨rfl, _, World.drewN_drewN _ _ _⟩ | exact ⟨rfl, _, Eq.trans (World.drewN_drewN _ _ _) (congrArg (World.drewN _) (Nat.add_assoc _ _ _))⟩)) | (go_at_call 23; (with_reducible refine (impl_GoodName.calls k (a0.extract ((ji13) : Int).toNat ((wrap64 (t184 + t185)) : Int).toNat) false _ A17.out).mono ?_); rintro e w' ⟨rfl, ⟨nd, rfl⟩⟩; (try first | exact ⟨rfl, _, World.drewN_drewN _ _ _⟩ | exact ⟨rfl, _, Eq.trans (World.drewN_drewN _ _ _) (congrArg (World.drewN _) (Nat.add_assoc _ _ _))⟩))))
           go_ret3
           exact ⟨by first | rfl | (simp [errW_none, errW_some] <;> rfl) | (simp only [← hji13]; first | rfl | (simp [errW_none, errW_some] <;> rfl)) | (simp [*, errW_none, errW_some] <;> rfl), lU⟩
         ·rw [if_neg c16] at H
          exact absurd H (by simp)
        ·rw [if_neg c15] at H
         exact absurd H (by simp)
       ·rw [if_neg c14] at H
        exact absurd H (by simp)
      ·rw [if_neg c12] at H
       have c12b0 : decide (0 < t185) = false := decide_eq_false c12
       clear c12
       have c33b0 := eq_true (of_decide_eq_true hE : 0 ≤ t184)
       have c34b0 := eq_true (of_decide_eq_true hE : t184 ≤ (a0.size : Int))
       have c35b0 := eq_true (of_decide_eq_true hE : 0 ≤ t184)
       have c36b0 := eq_true (of_decide_eq_true hE : t184 ≤ (a0.size : Int))
       simp only [Option.some.injEq, Prod.mk.injEq] at H
       obtain ⟨rfl, rfl, rfl⟩ := H
       go_enter Try.func25, Try.ntmps25
       go_wp2_with (first | (go_at_call 32; (with_reducible refine (strings_IndexAny.calls a0 (⟨#[123, 125]⟩ : ByteArray) t184 _ A2.out).mono ?_); rintro e w37 ⟨rfl, hb⟩; replace HB := bH (lU) hb; (try clear hb); have p7 : 0 ≤ (t184 : Int) := of_decide_eq_true hE; have q7 : t184 < (a0.size : Int) := of_decide_eq_true hE; have hx7 := bt_at a0 t184; replace p7 := eq_true p7; replace q7 := eq_true q7) | (go_at_call 33; (with_reducible refine (strings_IndexByte.calls (a0.extract (t184 : Int).toNat a0.size) 125 t185 _ A11.out).mono ?_); rintro e w' ⟨rfl, ⟨nd, rfl⟩⟩; (try first | exact ⟨rfl, _, World.drewN_drewN _ _ _⟩ | exact ⟨rfl, _, Eq.trans (World.drewN_drewN _ _ _) (congrArg (World.drewN _) (Nat.add_assoc _ _ _))⟩)))
       repeat (go_quiet (first | (go_at_call 32; (with_reducible refine (strings_IndexAny.calls a0 (⟨#[123, 125]⟩ : ByteArray) t184 _ A2.out).mono ?_); rintro e w37 ⟨rfl, hb⟩; replace HB := bH (lU) hb; (try clear hb); have p7 : 0 ≤ (t184 : Int) := of_decide_eq_true hE; have q7 : t184 < (a0.size : Int) := of_decide_eq_true hE; have hx7 := bt_at a0 t184; replace p7 := eq_true p7; replace q7 := eq_true q7) | (go_at_call 33; (with_reducible refine (strings_IndexByte.calls (a0.extract (t184 : Int).toNat a0.size) 125 t185 _ A11.out).mono ?_); rintro e w' ⟨rfl, ⟨nd, rfl⟩⟩; (try first | exact ⟨rfl, _, World.drewN_drewN _ _ _⟩ | exact ⟨rfl, _, Eq.trans (World.drewN_drewN _ _ _) (congrArg (World.drewN _) (Nat.add_assoc _ _ _))⟩))); try go_wp2_with (first | (go_at_call 32; (with_reducible refine (strings_IndexAny.calls a0 (⟨#[123, 125]⟩ : ByteArray) t184 _ A2.out).mono ?_); rintro e w37 ⟨rfl, hb⟩; replace HB := bH (lU) hb; (try clear hb); have p7 : 0 ≤ (t184 : Int) := of_decide_eq_true hE; have q7 : t184 < (a0.size : Int) := of_decide_eq_true hE; have hx7 := bt_at a0 t184; replace p7 := eq_true p7; replace q7 := eq_true q7) | (go_at_call 33; (with_reducible refine (strings_IndexByte.calls (a0.extract (t184 : Int).toNat a0.size) 125 t185 _ A11.out).mono ?_); rintro e w' ⟨rfl, ⟨nd, rfl⟩⟩; (try first | exact ⟨rfl, _, World.drewN_drewN _ _ _⟩ | exact ⟨rfl, _, Eq.trans (World.drewN_drewN _ _ _) (congrArg (World.drewN _) (Nat.add_assoc _ _ _))⟩))))
       go_ret3
       exact ⟨eE, lU⟩
     ·rw [if_neg c10] at H
      exact absurd H (by simp)
    ·rw [if_neg c8] at H
     have c8b0 : ((bt a0 t184) == 123) = false := beq_eq_false_iff_ne.mpr c8
     have c8b1 : ((bt a0 t184) != 123) = true := bne_iff_ne.mpr c8
     have c38b0 := eq_true (of_decide_eq_true hE : 0 ≤ t184)
     by_cases c39 : t184 ≤ (a0.size : Int)
     ·rw [if_pos c39] at H
      have c39b0 := eq_true c39
      have c39b1 : decide (t184 ≤ (a0.size : Int)) = true := decide_eq_true c39
      clear c39
      have c40b0 := eq_true (of_decide_eq_true hE : 0 ≤ t184)
      have c41b0 := eq_true (of_decide_eq_true hE : t184 ≤ (a0.size : Int))
      simp only [Option.some.injEq, Prod.mk.injEq] at H
      obtain ⟨rfl, rfl, rfl⟩ := H
      go_enter Try.func25, Try.ntmps25
      go_wp2_with (first | (go_at_call 32; (with_reducible refine (strings_IndexAny.calls a0 (⟨#[123, 125]⟩ : ByteArray) t184 _ A2.out).mono ?_); rintro e w42 ⟨rfl, hb⟩; replace HB := bH (lU) hb; (try clear hb); have p7 : 0 ≤ (t184 : Int) := of_decide_eq_true hE; have q7 : t184 < (a0.size : Int) := of_decide_eq_true hE; have hx7 := bt_at a0 t184; replace p7 := eq_true p7; replace q7 := eq_true q7))
      repeat (go_quiet (first | (go_at_call 32; (with_reducible refine (strings_IndexAny.calls a0 (⟨#[123, 125]⟩ : ByteArray) t184 _ A2.out).mono ?_); rintro e w42 ⟨rfl, hb⟩; replace HB := bH (lU) hb; (try clear hb); have p7 : 0 ≤ (t184 : Int) := of_decide_eq_true hE; have q7 : t184 < (a0.size : Int) := of_decide_eq_true hE; have hx7 := bt_at a0 t184; replace p7 := eq_true p7; replace q7 := eq_true q7)); try go_wp2_with (first | (go_at_call 32; (with_reducible refine (strings_IndexAny.calls a0 (⟨#[123, 125]⟩ : ByteArray) t184 _ A2.out).mono ?_); rintro e w42 ⟨rfl, hb⟩; replace HB := bH (lU) hb; (try clear hb); have p7 : 0 ≤ (t184 : Int) := of_decide_eq_true hE; have q7 : t184 < (a0.size : Int) := of_decide_eq_true hE; have hx7 := bt_at a0 t184; replace p7 := eq_true p7; replace q7 := eq_true q7)))
      go_ret3
      exact ⟨eE, lU⟩
     ·rw [if_neg c39] at H
      exact absurd H (by simp)
   ·rw [if_neg c6] at H
    exact absurd H (by simp)
  ·rw [if_neg c5] at H
   exact absurd H (by simp)
def impl_isPattern.l0 : Nat → ByteArray → Option (Bool)
 | 0, _ => none
 | k + 1, x0 => if x0.toList = ([] : List UInt8) then (some true) else ((impl_field.f k x0).bind fun bt187 => (if bt187.2.1.toList = ([] : List UInt8) then (if bt187.2.2.toList = ([] : List UInt8) then (impl_isPattern.l0 k bt187.2.2) else (some false)) else (impl_isPattern.l0 k bt187.2.2)))
def impl_isPattern.f (k : Nat) (a0 : ByteArray) : Option (Bool) := if (a0.size : Int) > 200 then (some false) else (impl_isPattern.l0 k a0)
theorem impl_isPattern.mono_l : ∀ k, (∀ y0, LeO (impl_isPattern.l0 k y0) (impl_isPattern.l0 (k + 1) y0))
 | 0 => fun _ r h => by simp [impl_isPattern.l0] at h
 | k + 1 => by
  have ih0 := impl_isPattern.mono_l k
  ·intro y0
   unfold impl_isPattern.l0
   repeat' first
   | (with_reducible exact ih0 _)
   | (with_reducible exact impl_field.mono _ _)
   | (with_reducible first | exact LeO.refl _ | exact LeO.none _ | refine LeO.ite ?_ ?_ | refine LeO.bind ?_ (fun _ => ?_))
   | exact ih0 _
   | exact impl_field.mono _ _ | exact LeO.none _ | refine LeO.ite ?_ ?_ | refine LeO.bind ?_ (fun _ => ?_)
theorem impl_isPattern.mono : ∀ a0 k, LeO (impl_isPattern.f k a0) (impl_isPattern.f (k + 1) a0) := by
 intro a0 k
 have ih0 := impl_isPattern.mono_l k
 unfold impl_isPattern.f
 repeat' first
   | (with_reducible exact ih0 _)
   | (with_reducible exact impl_field.mono _ _)
   | (with_reducible first | exact LeO.refl _ | exact LeO.none _ | refine LeO.ite ?_ ?_ | refine LeO.bind ?_ (fun _ => ?_))
   | exact ih0 _
   | exact impl_field.mono _ _ | exact LeO.none _ | refine LeO.ite ?_ ?_ | refine LeO.bind ?_ (fun _ => ?_)
set_option maxHeartbeats 8000000 in
set_option maxRecDepth 100000 in
theorem impl_isPattern.calls (k : Nat) (a0 : ByteArray) (r : Bool) (w : World) (h : impl_isPattern.f k a0 = some r) :
  Calls Try.prog 18 #[.string a0] w fun e w' => e = .returned (.bool r) ∧ Below w.heap.size w w' := by
 have HB := Aside0.mk (Below.refl w.heap.size w)
 have H : (if (a0.size : Int) > 200 then (some false) else (impl_isPattern.l0 k a0)) = some r := h
 clear h
 by_cases c2 : (a0.size : Int) > 200
 ·rw [if_pos c2] at H
  have c2b0 : decide (200 < (a0.size : Int)) = true := decide_eq_true c2
  have c2b1 : decide (200 < a0.size) = true := decide_eq_true (by omega)
  clear c2
  obtain rfl := Option.some.inj H
  go_enter Try.func18, Try.ntmps18
  go_wp2
  go_ret
  exact ⟨eE, lU⟩
 ·rw [if_neg c2] at H
  have c2b0 : decide (200 < (a0.size : Int)) = false := decide_eq_false c2
  have c2b1 : decide (200 < a0.size) = false := decide_eq_false (by omega)
  clear c2
  have H' := Aside0.mk H
  clear H
  go_enter Try.func18, Try.ntmps18
  go_wp2
  go_loopg [0] k (fun kq v0 w' => ∃ (x0_1 : ByteArray), v0 = .string x0_1 ∧ Aside0 (impl_isPattern.l0 kq x0_1 = some r) ∧ Aside0 (kq ≤ k) ∧ Aside0 (Below w.heap.size w w'))
  case atStart => exact ⟨(a0), tE, H', ⟨Nat.le_refl _⟩, ⟨by repeat (first | (with_reducible first | exact HB.out | apply below_alloc | apply pw_below_drewN | apply below_drew1) | exact HB.out)⟩⟩
  case round =>
   clear H'
   try clear c1
   try clear c2
   try clear c2b0
   try clear c2b1
   try clear p2
   obtain ⟨x0_1, rfl, HA, HK1, HB⟩ := hrel
   cases gk with
   | zero => exact absurd HA.out (by simp [impl_isPattern.l0])
   | succ k1 =>
    have H := HA.out
    clear HA
    simp only [impl_isPattern.l0] at H
    by_cases c3 : x0_1.toList = ([] : List UInt8)
    ·rw [if_pos c3] at H
     have c3b0 : (x0_1.toList == ([] : List UInt8)) = true := beq_iff_eq.mpr c3
     have c3b1 : (x0_1.toList != ([] : List UInt8)) = false := bne_eq_false_iff_eq.mpr c3
     clear c3
     obtain rfl := Option.some.inj H
     go_wp2
     go_ret
     exact ⟨eE, lU⟩
    ·rw [if_neg c3] at H
     have c3b0 : (x0_1.toList == ([] : List UInt8)) = false := beq_eq_false_iff_ne.mpr c3
     have c3b1 : (x0_1.toList != ([] : List UInt8)) = true := bne_iff_ne.mpr c3
     replace H := Option.bind_eq_some_iff.mp H
     obtain ⟨⟨t187, t188, t189⟩, A40, H⟩ := H
     replace H : (if t188.toList = ([] : List UInt8) then (if t189.toList = ([] : List UInt8) then (impl_isPattern.l0 k1 t189) else (some false)) else (impl_isPattern.l0 k1 t189)) = some r := H
     have A4 := Aside0.mk A40
     clear A40
     by_cases c5 : t188.toList = ([] : List UInt8)
     ·rw [if_pos c5] at H
      have c5b0 : (t188.toList == ([] : List UInt8)) = true := beq_iff_eq.mpr c5
      have c5b1 : (t188.toList != ([] : List UInt8)) = false := bne_eq_false_iff_eq.mpr c5
      clear c5
      by_cases c6 : t189.toList = ([] : List UInt8)
      ·rw [if_pos c6] at H
       have c6b0 : (t189.toList == ([] : List UInt8)) = true := beq_iff_eq.mpr c6
       have c6b1 : (t189.toList != ([] : List UInt8)) = false := bne_eq_false_iff_eq.mpr c6
       clear c6
       have H' := Aside0.mk H
       clear H
       go_wp2_with (first | ((with_reducible refine gate_callee (f := 25) rfl ?_); refine goesL_ (some 13) rfl rfl Try.func25 (by kernel_rfl) rfl #[.string x0_1] rfl aE ?_; (with_reducible refine (impl_field.calls k1 x0_1 t187 t188 t189 _ A4.out).mono ?_); rintro e w7 ⟨rfl, hb⟩; refine ⟨_, rfl, ?_⟩; replace HB := bH (lU) hb; (try clear hb)))
       go_roundg k1
       case measure => have := HK1.out; omega
       case rel => exact ⟨(t189), tE, H', ⟨by have := HK1.out; omega⟩, ⟨by repeat (first | (with_reducible first | exact HB.out | apply below_alloc | apply pw_below_drewN | apply below_drew1) | exact HB.out)⟩⟩
      ·rw [if_neg c6] at H
       have c6b0 : (t189.toList == ([] : List UInt8)) = false := beq_eq_false_iff_ne.mpr c6
       have c6b1 : (t189.toList != ([] : List UInt8)) = true := bne_iff_ne.mpr c6
       obtain rfl := Option.some.inj H
       go_wp2_with (first | ((with_reducible refine gate_callee (f := 25) rfl ?_); refine goesL_ (some 13) rfl rfl Try.func25 (by kernel_rfl) rfl #[.string x0_1] rfl aE ?_; (with_reducible refine (impl_field.calls k1 x0_1 t187 t188 t189 _ A4.out).mono ?_); rintro e w8 ⟨rfl, hb⟩; refine ⟨_, rfl, ?_⟩; replace HB := bH (lU) hb; (try clear hb)))
       go_ret
       exact ⟨eE, lU⟩
     ·rw [if_neg c5] at H
      have c5b0 : (t188.toList == ([] : List UInt8)) = false := beq_eq_false_iff_ne.mpr c5
      have c5b1 : (t188.toList != ([] : List UInt8)) = true := bne_iff_ne.mpr c5
      have H' := Aside0.mk H
      clear H
      go_wp2_with (first | ((with_reducible refine gate_callee (f := 25) rfl ?_); refine goesL_ (some 13) rfl rfl Try.func25 (by kernel_rfl) rfl #[.string x0_1] rfl aE ?_; (with_reducible refine (impl_field.calls k1 x0_1 t187 t188 t189 _ A4.out).mono ?_); rintro e w9 ⟨rfl, hb⟩; refine ⟨_, rfl, ?_⟩; replace HB := bH (lU) hb; (try clear hb)))
      go_roundg k1
      case measure => have := HK1.out; omega
      case rel => exact ⟨(t189), tE, H', ⟨by have := HK1.out; omega⟩, ⟨by repeat (first | (with_reducible first | exact HB.out | apply below_alloc | apply pw_below_drewN | apply below_drew1) | exact HB.out)⟩⟩
def impl_GoodEntries_1.f (k : Nat) (a0 : ByteArray) : Option (Bool) := (impl_isPattern.f k a0).bind fun t190 => (some (!t190))
theorem impl_GoodEntries_1.mono : ∀ a0 k, LeO (impl_GoodEntries_1.f k a0) (impl_GoodEntries_1.f (k + 1) a0) := by
 intro a0 k
 unfold impl_GoodEntries_1.f
 repeat' first
   | (with_reducible exact impl_isPattern.mono _ _)
   | (with_reducible first | exact LeO.refl _ | exact LeO.none _ | refine LeO.ite ?_ ?_ | refine LeO.bind ?_ (fun _ => ?_))
   | exact impl_isPattern.mono _ _ | exact LeO.none _ | refine LeO.ite ?_ ?_ | refine LeO.bind ?_ (fun _ => ?_)
set_option maxHeartbeats 8000000 in
set_option maxRecDepth 100000 in
theorem impl_GoodEntries_1.calls (k : Nat) (a0 : ByteArray) (r : Bool) (w : World) (h : impl_GoodEntries_1.f k a0 = some r) :
  Calls Try.prog 17 #[.string a0] w fun e w' => e = .returned (.bool r) ∧ Below w.heap.size w w' := by
 have HB := Aside0.mk (Below.refl w.heap.size w)
 have H : ((impl_isPattern.f k a0).bind fun t190 => (some (!t190))) = some r := h
 clear h
 replace H := Option.bind_eq_some_iff.mp H
 obtain ⟨t190, A20, H⟩ := H
 replace H : (some (!t190)) = some r := H
 have A2 := Aside0.mk A20
 clear A20
 obtain rfl := Option.some.inj H
 go_enter Try.func17, Try.ntmps17
 go_wp2_with (first | ((with_reducible refine gate_callee (f := 18) rfl ?_); refine goesL_ (some 4) rfl rfl Try.func18 (by kernel_rfl) rfl #[.string a0] rfl aE ?_; (with_reducible refine (impl_isPattern.calls k a0 t190 _ A2.out).mono ?_); rintro e w3 ⟨rfl, hb⟩; refine ⟨_, rfl, ?_⟩; replace HB := bH (lU) hb; (try clear hb)))
 go_ret
 exact ⟨eE, lU⟩
def slices_IndexFunc_w17.l0 : Nat → List ByteArray → Int → Int → Option (Int)
 | 0, _, _, _ => none
 | k + 1, x0, x7, x8 => if x8 < x7 then (if 0 ≤ x8 then (if x8 < (x0.length : Int) then ((impl_GoodEntries_1.f k (rdOf ByteArray.empty x0 x8)).bind fun t192 => (if t192 = true then (some x8) else (slices_IndexFunc_w17.l0 k x0 x7 (wrap64 (x8 + 1))))) else (none)) else (none)) else (some (-1))
def slices_IndexFunc_w17.f (k : Nat) (l0 : List ByteArray)  : Option (Int) := slices_IndexFunc_w17.l0 k l0 (l0.length : Int) 0
theorem slices_IndexFunc_w17.mono_l : ∀ k, (∀ y0 y1 y2, LeO (slices_IndexFunc_w17.l0 k y0 y1 y2) (slices_IndexFunc_w17.l0 (k + 1) y0 y1 y2))
 | 0 => fun _ _ _ r h => by simp [slices_IndexFunc_w17.l0] at h
 | k + 1 => by
  have ih0 := slices_IndexFunc_w17.mono_l k
  ·intro y0 y1 y2
   unfold slices_IndexFunc_w17.l0
   repeat' first
   | (with_reducible exact ih0 _ _ _)
   | (with_reducible exact impl_GoodEntries_1.mono _ _)
   | (with_reducible first | exact LeO.refl _ | exact LeO.none _ | refine LeO.ite ?_ ?_ | refine LeO.bind ?_ (fun _ => ?_))
   | exact ih0 _ _ _
   | exact impl_GoodEntries_1.mono _ _ | exact LeO.none _ | refine LeO.ite ?_ ?_ | refine LeO.bind ?_ (fun _ => ?_)
theorem slices_IndexFunc_w17.mono : ∀ a0 k, LeO (slices_IndexFunc_w17.f k a0) (slices_IndexFunc_w17.f (k + 1) a0) := by
 intro a0 k
 have ih0 := slices_IndexFunc_w17.mono_l k
 unfold slices_IndexFunc_w17.f
 repeat' first
   | (with_reducible exact ih0 _ _ _)
   | (with_reducible exact impl_GoodEntries_1.mono _ _)
   | (with_reducible first | exact LeO.refl _ | exact LeO.none _ | refine LeO.ite ?_ ?_ | refine LeO.bind ?_ (fun _ => ?_))
   | exact ih0 _ _ _
   | exact impl_GoodEntries_1.mono _ _ | exact LeO.none _ | refine LeO.ite ?_ ?_ | refine LeO.bind ?_ (fun _ => ?_)
set_option maxHeartbeats 8000000 in
set_option maxRecDepth 100000 in
theorem slices_IndexFunc_w17.calls (k : Nat) (A0 : Option Addr) (c0 : Nat) (l0 : List ByteArray)  (r : Int) (w : World) (hr0 : Kd.C Kd.string w A0 l0.length l0) (hc0 : l0.length ≤ c0) (h : slices_IndexFunc_w17.f k l0 = some r) :
  Calls Try.prog 24 #[.slice A0 l0.length c0, .func (.func 17) #[] #[]] w fun e w' => e = .returned (.int .i64 r) ∧ Below w.heap.size w w' := by
 have HR0 := Aside0.mk hr0
 have HC0 := Aside0.mk hc0
 clear hr0 hc0
 have HB := Aside0.mk (Below.refl w.heap.size w)
 have H : (slices_IndexFunc_w17.l0 k l0 (l0.length : Int) 0) = some r := h
 clear h
 have H' := Aside0.mk H
 clear H
 go_enter Try.func24, Try.ntmps24
 go_wp2
 go_loopg [8] k (fun kq v8 w' => ∃ (x8_1 : Int), v8 = .int .i64 x8_1 ∧ Aside0 (slices_IndexFunc_w17.l0 kq l0 (l0.length : Int) x8_1 = some r) ∧ Aside0 (kq ≤ k) ∧ Aside0 (Below w.heap.size w w'))
 case atStart => exact ⟨(0), tE, H', ⟨Nat.le_refl _⟩, ⟨by repeat (first | (with_reducible first | exact HB.out | apply below_alloc | apply pw_below_drewN | apply below_drew1) | exact HB.out)⟩⟩
 case round =>
  clear H'
  try clear p2
  obtain ⟨x8_1, rfl, HA, HK1, HB⟩ := hrel
  cases gk with
  | zero => exact absurd HA.out (by simp [slices_IndexFunc_w17.l0])
  | succ k1 =>
   have H := HA.out
   clear HA
   simp only [slices_IndexFunc_w17.l0] at H
   by_cases c3 : x8_1 < (l0.length : Int)
   ·rw [if_pos c3] at H
    have c3b0 : decide (x8_1 < (l0.length : Int)) = true := decide_eq_true c3
    clear c3
    by_cases c4 : 0 ≤ x8_1
    ·rw [if_pos c4] at H
     have c4b0 : decide (0 ≤ x8_1) = true := decide_eq_true c4
     clear c4
     by_cases c5 : x8_1 < (l0.length : Int)
     ·rw [if_pos c5] at H
      have c5b0 : decide (x8_1 < (l0.length : Int)) = true := decide_eq_true c5
      clear c5
      replace H := Option.bind_eq_some_iff.mp H
      obtain ⟨t192, A60, H⟩ := H
      replace H : (if t192 = true then (some x8_1) else (slices_IndexFunc_w17.l0 k1 l0 (l0.length : Int) (wrap64 (x8_1 + 1)))) = some r := H
      have A6 := Aside0.mk A60
      clear A60
      by_cases c7 : t192 = true
      ·subst c7
       have H1 : (some x8_1) = some r := by rw [if_pos rfl] at H; exact H
       clear H
       have H := H1
       clear H1
       obtain rfl := Option.some.inj H
       have p191 : 0 ≤ (x8_1 : Int) := of_decide_eq_true hE
       have q191 : x8_1 < (l0.length : Int) := of_decide_eq_true hE
       obtain ⟨ad191, e191, hx191_0⟩ := Kd.at_string HR0.out x8_1 p191 q191
       cases e191
       replace hx191_0 := (HB.out.cell (World.block_lt_of_cell? w _ hx191_0)).trans hx191_0
       replace p191 := eq_true p191
       replace q191 := eq_true q191
       go_wp2_with (first | ((with_reducible refine gateD_ rfl ?_); refine goesD_ (some 16) rfl rfl Try.func17 (by kernel_rfl) rfl rfl rfl #[.string (rdOf ByteArray.empty l0 x8_1)] aE ?_; (with_reducible refine (impl_GoodEntries_1.calls k1 (rdOf ByteArray.empty l0 x8_1) true _ A6.out).mono ?_); rintro e w8 ⟨rfl, hb⟩; refine ⟨_, rfl, ?_⟩; replace HB := bH (lU) hb; (try clear hb)))
       go_ret
       exact ⟨eE, lU⟩
      ·replace c7 := Bool.eq_false_iff.mpr c7
       subst c7
       have H1 : (slices_IndexFunc_w17.l0 k1 l0 (l0.length : Int) (wrap64 (x8_1 + 1))) = some r := by rw [if_neg (show ¬ (false = true) by decide)] at H; exact H
       clear H
       have H := H1
       clear H1
       have H' := Aside0.mk H
       clear H
       have p191 : 0 ≤ (x8_1 : Int) := of_decide_eq_true hE
       have q191 : x8_1 < (l0.length : Int) := of_decide_eq_true hE
       obtain ⟨ad191, e191, hx191_0⟩ := Kd.at_string HR0.out x8_1 p191 q191
       cases e191
       replace hx191_0 := (HB.out.cell (World.block_lt_of_cell? w _ hx191_0)).trans hx191_0
       replace p191 := eq_true p191
       replace q191 := eq_true q191
       go_wp2_with (first | ((with_reducible refine gateD_ rfl ?_); refine goesD_ (some 16) rfl rfl Try.func17 (by kernel_rfl) rfl rfl rfl #[.string (rdOf ByteArray.empty l0 x8_1)] aE ?_; (with_reducible refine (impl_GoodEntries_1.calls k1 (rdOf ByteArray.empty l0 x8_1) false _ A6.out).mono ?_); rintro e w9 ⟨rfl, hb⟩; refine ⟨_, rfl, ?_⟩; replace HB := bH (lU) hb; (try clear hb)))
       go_roundg k1
       case measure => have := HK1.out; omega
       case rel => exact ⟨(wrap64 (x8_1 + 1)), tE, H', ⟨by have := HK1.out; omega⟩, ⟨by repeat (first | (with_reducible first | exact HB.out | apply below_alloc | apply pw_below_drewN | apply below_drew1) | exact HB.out)⟩⟩
     ·rw [if_neg c5] at H
      exact absurd H (by simp)
    ·rw [if_neg c4] at H
     exact absurd H (by simp)
   ·rw [if_neg c3] at H
    have c3b0 : decide (x8_1 < (l0.length : Int)) = false := decide_eq_false c3
    clear c3
    obtain rfl := Option.some.inj H
    go_wp2
    go_ret
    exact ⟨eE, lU⟩
def slices_ContainsFunc_w17.f (k : Nat) (l0 : List ByteArray)  : Option (Bool) := (slices_IndexFunc_w17.f k l0).bind fun t193 => (some (decide (t193 ≥ 0)))
theorem slices_ContainsFunc_w17.mono : ∀ a0 k, LeO (slices_ContainsFunc_w17.f k a0) (slices_ContainsFunc_w17.f (k + 1) a0) := by
 intro a0 k
 unfold slices_ContainsFunc_w17.f
 repeat' first
   | (with_reducible exact slices_IndexFunc_w17.mono _ _)
   | (with_reducible first | exact LeO.refl _ | exact LeO.none _ | refine LeO.ite ?_ ?_ | refine LeO.bind ?_ (fun _ => ?_))
   | exact slices_IndexFunc_w17.mono _ _ | exact LeO.none _ | refine LeO.ite ?_ ?_ | refine LeO.bind ?_ (fun _ => ?_)
set_option maxHeartbeats 8000000 in
set_option maxRecDepth 100000 in
theorem slices_ContainsFunc_w17.calls (k : Nat) (A0 : Option Addr) (c0 : Nat) (l0 : List ByteArray)  (r : Bool) (w : World) (hr0 : Kd.C Kd.string w A0 l0.length l0) (hc0 : l0.length ≤ c0) (h : slices_ContainsFunc_w17.f k l0 = some r) :
  Calls Try.prog 16 #[.slice A0 l0.length c0, .func (.func 17) #[] #[]] w fun e w' => e = .returned (.bool r) ∧ Below w.heap.size w w' := by
 have HR0 := Aside0.mk hr0
 have HC0 := Aside0.mk hc0
 clear hr0 hc0
 have HB := Aside0.mk (Below.refl w.heap.size w)
 have H : ((slices_IndexFunc_w17.f k l0).bind fun t193 => (some (decide (t193 ≥ 0)))) = some r := h
 clear h
 replace H := Option.bind_eq_some_iff.mp H
 obtain ⟨t193, A30, H⟩ := H
 replace H : (some (decide (t193 ≥ 0))) = some r := H
 have A3 := Aside0.mk A30
 clear A30
 obtain rfl := Option.some.inj H
 go_enter Try.func16, Try.ntmps16
 go_wp2_with (first | ((with_reducible refine gate_callee (f := 24) rfl ?_); refine goesL_ (some 7) rfl rfl Try.func24 (by kernel_rfl) rfl #[.slice A0 l0.length c0, .func (.func 17) #[] #[]] rfl aE ?_; (with_reducible refine (slices_IndexFunc_w17.calls k _ _ l0  t193 _ ?side1 ?side2 A3.out).mono ?_); (case side1 => repeat (first | exact HR0.out | (with_reducible refine Kd.C_alloc ?_ _) | (with_reducible refine Kd.C_drewN ?_ _) | (with_reducible refine Kd.C_drew ?_))); (case side2 => exact HC0.out); rintro e w4 ⟨rfl, hb⟩; refine ⟨_, rfl, ?_⟩; replace HB := bH (lU) hb; (try clear hb)))
 go_ret
 exact ⟨eE, lU⟩
end Go.Proofs.Ytnacjhgpanedoac.PFnExactGoodEntries
namespace Go.Proofs.Ytnacjhgpanedoac.PFnExactGoodEntries
open Go.RowKit Go.Proofs.YtnacjhgpanedoacW.PrintWords Go.Proofs.YtnacjhgpanedoacW.PrintLast Go.Proofs.YtnacjhgpanedoacW.PrintMore
attribute [local go_sem] max2_int min2_int max_two min_two max_three min_three max_four min_four   -- for this text's walks alone
set_option linter.unusedVariables false
set_option linter.unusedSimpArgs false
mutual
def impl_GoodEntries.j0 : Nat → List (S36) → List Int → Bool → Option (Bool)
 | 0, _, _, _ => none
 | k + 1, x1, x5, x16 => if x16 = true then (some false) else (impl_GoodEntries.l0 k x5 x1 (x1.length : Int) 0)
def impl_GoodEntries.l0 : Nat → List Int → List (S36) → Int → Int → Option (Bool)
 | 0, _, _, _, _ => none
 | k + 1, x5, x17, x18, x19 => if x19 < x18 then (if 0 ≤ x19 then (if x19 < (x17.length : Int) then (if (rd_T36 x17 x19).f2 = true then (if (((rd_T36 x17 x19).f1).length : Int) = (x5.length : Int) then (if ((rd_T36 x17 x19).f2 = true) then (impl_GoodEntries.j2 k x5 x17 x18 x19 false ((rd_T36 x17 x19).f0) ((rd_T36 x17 x19).f1) ((rd_T36 x17 x19).f2)) else (impl_GoodEntries.j2 k x5 x17 x18 x19 ((((rd_T36 x17 x19).f1).length : Int) != 1) ((rd_T36 x17 x19).f0) ((rd_T36 x17 x19).f1) ((rd_T36 x17 x19).f2))) else (impl_GoodEntries.j2 k x5 x17 x18 x19 true ((rd_T36 x17 x19).f0) ((rd_T36 x17 x19).f1) ((rd_T36 x17 x19).f2))) else (if ((rd_T36 x17 x19).f2 = true) then (impl_GoodEntries.j2 k x5 x17 x18 x19 false ((rd_T36 x17 x19).f0) ((rd_T36 x17 x19).f1) ((rd_T36 x17 x19).f2)) else (impl_GoodEntries.j2 k x5 x17 x18 x19 ((((rd_T36 x17 x19).f1).length : Int) != 1) ((rd_T36 x17 x19).f0) ((rd_T36 x17 x19).f1) ((rd_T36 x17 x19).f2)))) else (none)) else (none)) else (some true)
def impl_GoodEntries.j2 : Nat → List Int → List (S36) → Int → Int → Bool → ByteArray → List ByteArray → Bool → Option (Bool)
 | 0, _, _, _, _, _, _, _, _ => none
 | k + 1, x5, x17, x18, x19, x43, x200000, x200001, x200002 => if x43 = true then (some false) else ((slices_ContainsFunc_w17.f k x200001).bind fun t200 => (if t200 = true then (some false) else (impl_GoodEntries.l0 k x5 x17 x18 (wrap64 (x19 + 1)))))
end
def impl_GoodEntries.f (k : Nat) (a0 : ByteArray) (l1 : List (S36)) : Option (Bool) := (impl_FormsOf.f k a0).bind fun t194 => (if (t194.length : Int) = 0 then (impl_GoodEntries.j0 k l1 t194 true) else ((impl_areKeyed.f k l1).bind fun t197 => (impl_GoodEntries.j0 k l1 t194 (!t197))))
theorem impl_GoodEntries.mono_l : ∀ k, (∀ y0 y1 y2, LeO (impl_GoodEntries.j0 k y0 y1 y2) (impl_GoodEntries.j0 (k + 1) y0 y1 y2)) ∧ (∀ y0 y1 y2 y3, LeO (impl_GoodEntries.l0 k y0 y1 y2 y3) (impl_GoodEntries.l0 (k + 1) y0 y1 y2 y3)) ∧ (∀ y0 y1 y2 y3 y4 y5 y6 y7, LeO (impl_GoodEntries.j2 k y0 y1 y2 y3 y4 y5 y6 y7) (impl_GoodEntries.j2 (k + 1) y0 y1 y2 y3 y4 y5 y6 y7))
 | 0 => ⟨fun _ _ _ r h => by simp [impl_GoodEntries.j0] at h, fun _ _ _ _ r h => by simp [impl_GoodEntries.l0] at h, fun _ _ _ _ _ _ _ _ r h => by simp [impl_GoodEntries.j2] at h⟩
 | k + 1 => by
  obtain ⟨ih0, ih1, ih2⟩ := impl_GoodEntries.mono_l k
  refine ⟨?_, ?_, ?_⟩
  ·intro y0 y1 y2
   unfold impl_GoodEntries.j0
   repeat' first
   | (with_reducible exact ih0 _ _ _)
   | (with_reducible exact ih1 _ _ _ _)
   | (with_reducible exact ih2 _ _ _ _ _ _ _ _)
   | (with_reducible exact impl_FormsOf.mono _ _)
   | (with_reducible exact impl_areKeyed.mono _ _)
   | (with_reducible exact slices_ContainsFunc_w17.mono _ _)
   | (with_reducible first | exact LeO.refl _ | exact LeO.none _ | refine LeO.ite ?_ ?_ | refine LeO.bind ?_ (fun _ => ?_))
   | exact ih0 _ _ _
   | exact ih1 _ _ _ _
   | exact ih2 _ _ _ _ _ _ _ _
   | exact impl_FormsOf.mono _ _
   | exact impl_areKeyed.mono _ _
   | exact slices_ContainsFunc_w17.mono _ _ | exact LeO.none _ | refine LeO.ite ?_ ?_ | refine LeO.bind ?_ (fun _ => ?_)
  ·intro y0 y1 y2 y3
   unfold impl_GoodEntries.l0
   repeat' first
   | (with_reducible exact ih0 _ _ _)
   | (with_reducible exact ih1 _ _ _ _)
   | (with_reducible exact ih2 _ _ _ _ _ _ _ _)
   | (with_reducible exact impl_FormsOf.mono _ _)
   | (with_reducible exact impl_areKeyed.mono _ _)
   | (with_reducible exact slices_ContainsFunc_w17.mono _ _)
   | (with_reducible first | exact LeO.refl _ | exact LeO.none _ | refine LeO.ite ?_ ?_ | refine LeO.bind ?_ (fun _ => ?_))
   | exact ih0 _ _ _
   | exact ih1 _ _ _ _
   | exact ih2 _ _ _ _ _ _ _ _
   | exact impl_FormsOf.mono _ _
   | exact impl_areKeyed.mono _ _
   | exact slices_ContainsFunc_w17.mono _ _ | exact LeO.none _ | refine LeO.ite ?_ ?_ | refine LeO.bind ?_ (fun _ => ?_)
  ·intro y0 y1 y2 y3 y4 y5 y6 y7
   unfold impl_GoodEntries.j2
   repeat' first
   | (with_reducible exact ih0 _ _ _)
   | (with_reducible exact ih1 _ _ _ _)
   | (with_reducible exact ih2 _ _ _ _ _ _ _ _)
   | (with_reducible exact impl_FormsOf.mono _ _)
   | (with_reducible exact impl_areKeyed.mono _ _)
   | (with_reducible exact slices_ContainsFunc_w17.mono _ _)
   | (with_reducible first | exact LeO.refl _ | exact LeO.none _ | refine LeO.ite ?_ ?_ | refine LeO.bind ?_ (fun _ => ?_))
   | exact ih0 _ _ _
   | exact ih1 _ _ _ _
   | exact ih2 _ _ _ _ _ _ _ _
   | exact impl_FormsOf.mono _ _
   | exact impl_areKeyed.mono _ _
   | exact slices_ContainsFunc_w17.mono _ _ | exact LeO.none _ | refine LeO.ite ?_ ?_ | refine LeO.bind ?_ (fun _ => ?_)
theorem impl_GoodEntries.mono : ∀ a0 a1 k, LeO (impl_GoodEntries.f k a0 a1) (impl_GoodEntries.f (k + 1) a0 a1) := by
 intro a0 a1 k
 obtain ⟨ih0, ih1, ih2⟩ := impl_GoodEntries.mono_l k
 unfold impl_GoodEntries.f
 repeat' first
   | (with_reducible exact ih0 _ _ _)
   | (with_reducible exact ih1 _ _ _ _)
   | (with_reducible exact ih2 _ _ _ _ _ _ _ _)
   | (with_reducible exact impl_FormsOf.mono _ _)
   | (with_reducible exact impl_areKeyed.mono _ _)
   | (with_reducible exact slices_ContainsFunc_w17.mono _ _)
   | (with_reducible first | exact LeO.refl _ | exact LeO.none _ | refine LeO.ite ?_ ?_ | refine LeO.bind ?_ (fun _ => ?_))
   | exact ih0 _ _ _
   | exact ih1 _ _ _ _
   | exact ih2 _ _ _ _ _ _ _ _
   | exact impl_FormsOf.mono _ _
   | exact impl_areKeyed.mono _ _
   | exact slices_ContainsFunc_w17.mono _ _ | exact LeO.none _ | refine LeO.ite ?_ ?_ | refine LeO.bind ?_ (fun _ => ?_)
set_option maxHeartbeats 8000000 in
set_option maxRecDepth 100000 in
theorem impl_GoodEntries.calls (k : Nat) (a0 : ByteArray) (A1 : Option Addr) (c1 : Nat) (l1 : List (S36)) (r : Bool) (w : World) (hr1 : Kd.C k36 w A1 l1.length l1) (hc1 : l1.length ≤ c1) (h : impl_GoodEntries.f k a0 l1 = some r) :
  Calls Try.prog 7 #[.string a0, .slice A1 l1.length c1] w fun e w' => e = .returned (.bool r) ∧ Below w.heap.size w w' := by
 have hu36 := Try.underlying36
 have HR1 := Aside0.mk hr1
 have HC1 := Aside0.mk hc1
 clear hr1 hc1
 have HB := Aside0.mk (Below.refl w.heap.size w)
 have H : ((impl_FormsOf.f k a0).bind fun t194 => (if (t194.length : Int) = 0 then (impl_GoodEntries.j0 k l1 t194 true) else ((impl_areKeyed.f k l1).bind fun t197 => (impl_GoodEntries.j0 k l1 t194 (!t197))))) = some r := h
 clear h
 replace H := Option.bind_eq_some_iff.mp H
 obtain ⟨t194, A30, H⟩ := H
 replace H : (if (t194.length : Int) = 0 then (impl_GoodEntries.j0 k l1 t194 true) else ((impl_areKeyed.f k l1).bind fun t197 => (impl_GoodEntries.j0 k l1 t194 (!t197)))) = some r := H
 have A3 := Aside0.mk A30
 clear A30
 have HC4 := Aside0.mk H
 clear H
 go_enter Try.func7, Try.ntmps7
 go_upto_region 2 with (first | ((with_reducible refine gate_callee (f := 14) rfl ?_); refine goesL_ (some 9) rfl rfl Try.func14 (by kernel_rfl) rfl #[.string a0] rfl aE ?_; (with_reducible refine (impl_FormsOf.calls k a0 t194 _ A3.out).mono ?_); rintro e w5 ⟨v195, rfl, ho0, hb, hn_⟩; have HN_ := Aside0.mk hn_; clear hn_; refine ⟨_, rfl, ?_⟩; have HO196 := Aside0.mk (Kd.R_lower ho0 (below_size (lU))); replace HB := bH (lU) hb; (try clear hb); (try clear ho0)))
 (try simp only [Act.put, List.setIfInBounds_toArray, List.set_cons_zero, List.set_cons_succ])
 go_cut [16] (fun v16 wc => ∃ (kq : Nat) (x16_3 : Bool), v16 = .bool x16_3 ∧ Aside0 (impl_GoodEntries.j0 kq l1 t194 x16_3 = some r) ∧ Aside0 (kq ≤ k) ∧ Aside0 (Kd.R (Kd.int .i64) 3 wc w.heap.size (fun _ => True) v195 t194) ∧ Aside0 (Below w.heap.size w wc))
 case first =>
  have H := HC4.out
  clear HC4
  by_cases c6 : (t194.length : Int) = 0
  ·rw [if_pos c6] at H
   have c6b0 : ((t194.length : Int) == 0) = true := beq_iff_eq.mpr c6
   have c6b1 : ((t194.length : Int) != 0) = false := bne_eq_false_iff_eq.mpr c6
   clear c6
   (first | rw [c6b0] | (simp only [i64_w, i32_w]; rw [c6b0]) | (rw [c6b2]; simp only [Bool.not_false, Bool.not_true]) | skip)
   have H' := Aside0.mk H
   clear H
   have en_ : v195 = .slice none 0 0 := HN_.out (List.eq_nil_of_length_eq_zero (by have h_ := c6b0; simp at h_; simp [h_]))
   subst en_
   have HT : Try.prog.underlying 33 = some (.slice 3) := by kernel_rfl
   have hq_ : ∀ W, (binOp .eql 33 (.slice none 0 0) (.slice none 0 0)).run Try.prog W = .ok (.bool true) W := fun W => Lib.run_eql_slice_nil W _ _ none 0 0 0 0 HT
   go_wp2
   go_meet
   case rel => exact ⟨_, (true), tE, H', ⟨by first | omega | exact Nat.le_refl _⟩, ⟨by (with_reducible repeat (first | apply Kd.R_alloc | apply Kd.R_drewN | apply Kd.R_drew)); exact HO196.out⟩, ⟨by repeat (first | (with_reducible first | exact HB.out | apply below_alloc | apply pw_below_drewN | apply below_drew1) | exact HB.out)⟩⟩
  ·rw [if_neg c6] at H
   have c6b0 : ((t194.length : Int) == 0) = false := beq_eq_false_iff_ne.mpr c6
   have c6b1 : ((t194.length : Int) != 0) = true := bne_iff_ne.mpr c6
   have c6b2 : ¬ (t194 = []) := fun h_ => c6 (by rw [h_]; rfl)
   (first | rw [c6b0] | (simp only [i64_w, i32_w]; rw [c6b0]) | (rw [c6b2]; simp only [Bool.not_false, Bool.not_true]) | skip)
   replace H := Option.bind_eq_some_iff.mp H
   obtain ⟨t197, A80, H⟩ := H
   replace H : (impl_GoodEntries.j0 k l1 t194 (!t197)) = some r := H
   have A8 := Aside0.mk A80
   clear A80
   have H' := Aside0.mk H
   clear H
   obtain ⟨g_, c_, eo_, _, _, _⟩ := Kd.R_form HO196.out (List.length_pos_iff.mpr c6b2)
   subst eo_
   have HT : Try.prog.underlying 33 = some (.slice 3) := by kernel_rfl
   have hq_ : ∀ W (a : Addr) (n c : Nat), (binOp .eql 33 (.slice (some a) n c) (.slice none 0 0)).run Try.prog W = .ok (.bool false) W := fun W a n c => Lib.run_eql_slice_nil W _ _ (some a) n c 0 0 HT
   go_wp2_with (first | (go_at_call 15; (with_reducible refine (impl_areKeyed.calls k _ _ l1 t197 _ ?side1 ?side2 A8.out).mono ?_); (case side1 => exact cU (Kd.C_below HR1.out HB.out)); (case side2 => exact HC1.out); rintro e w10 ⟨rfl, hb⟩; replace HO196 := Aside0.mk (Kd.R_below (rU HO196.out) hb); replace HB := bH (lU) hb; (try clear hb)))
   go_meet
   case rel => exact ⟨_, (!t197), tE, H', ⟨by first | omega | exact Nat.le_refl _⟩, ⟨by (with_reducible repeat (first | apply Kd.R_alloc | apply Kd.R_drewN | apply Kd.R_drew)); exact HO196.out⟩, ⟨by repeat (first | (with_reducible first | exact HB.out | apply below_alloc | apply pw_below_drewN | apply below_drew1) | exact HB.out)⟩⟩
 case rest =>
  clear HC4
  try clear c1
  try clear p2
  try clear c6
  try clear c6b0
  try clear c6b1
  try clear c6b2
  try clear c7
  obtain ⟨kq, x16_3, rfl, HA, HJ3, HO_5, HB⟩ := hcut
  cases kq with
  | zero => exact absurd HA.out (by simp [impl_GoodEntries.j0])
  | succ kj3 =>
   have H := HA.out
   clear HA
   simp only [impl_GoodEntries.j0] at H
   by_cases c11 : x16_3 = true
   ·subst c11
    have H1 : (some false) = some r := by rw [if_pos rfl] at H; exact H
    clear H
    have H := H1
    clear H1
    obtain rfl := Option.some.inj H
    go_wp2
    go_ret
    exact ⟨eE, lU⟩
   ·replace c11 := Bool.eq_false_iff.mpr c11
    subst c11
    have H1 : (impl_GoodEntries.l0 kj3 t194 l1 (l1.length : Int) 0) = some r := by rw [if_neg (show ¬ (false = true) by decide)] at H; exact H
    clear H
    have H := H1
    clear H1
    have H' := Aside0.mk H
    clear H
    go_wp2
    go_loopg [19] kj3 (fun kq v19 w' => ∃ (x19_2 : Int), v19 = .int .i64 x19_2 ∧ Aside0 (impl_GoodEntries.l0 kq t194 l1 (l1.length : Int) x19_2 = some r) ∧ Aside0 (kq ≤ kj3) ∧ Aside0 (Kd.R (Kd.int .i64) 3 w' w.heap.size (fun _ => True) v195 t194) ∧ Aside0 (Below w.heap.size w w'))
    case atStart => exact ⟨(0), tE, H', ⟨Nat.le_refl _⟩, ⟨by (with_reducible repeat (first | apply Kd.R_alloc | apply Kd.R_drewN | apply Kd.R_drew)); exact HO_5.out⟩, ⟨by repeat (first | (with_reducible first | exact HB.out | apply below_alloc | apply pw_below_drewN | apply below_drew1) | exact HB.out)⟩⟩
    case round =>
     clear H'
     try clear c1
     try clear p2
     try clear c6
     try clear c6b0
     try clear c6b1
     try clear c6b2
     try clear c7
     try clear c11
     try clear p2
     obtain ⟨x19_2, rfl, HA, HK2, HO_5, HB⟩ := hrel
     cases gk with
     | zero => exact absurd HA.out (by simp [impl_GoodEntries.l0])
     | succ k2 =>
      have H := HA.out
      clear HA
      simp only [impl_GoodEntries.l0] at H
      by_cases c12 : x19_2 < (l1.length : Int)
      ·rw [if_pos c12] at H
       have c12b0 : decide (x19_2 < (l1.length : Int)) = true := decide_eq_true c12
       clear c12
       by_cases c13 : 0 ≤ x19_2
       ·rw [if_pos c13] at H
        have c13b0 : decide (0 ≤ x19_2) = true := decide_eq_true c13
        clear c13
        by_cases c14 : x19_2 < (l1.length : Int)
        ·rw [if_pos c14] at H
         have c14b0 : decide (x19_2 < (l1.length : Int)) = true := decide_eq_true c14
         clear c14
         have HC15 := Aside0.mk H
         clear H
         have p198 : 0 ≤ (x19_2 : Int) := of_decide_eq_true hE
         have q198 : x19_2 < (l1.length : Int) := of_decide_eq_true hE
         obtain ⟨ad198, A198_1, c198_1, e198, hx198_0, hx198_1, hx198_2, hl198_1, hi198_1⟩ := at_T36 HR1.out x19_2 p198 q198
         cases e198
         replace hx198_0 := (HB.out.cell (World.block_lt_of_cell? w _ hx198_0)).trans hx198_0
         replace hx198_1 := (HB.out.cell (World.block_lt_of_cell? w _ hx198_1)).trans hx198_1
         replace hx198_2 := (HB.out.cell (World.block_lt_of_cell? w _ hx198_2)).trans hx198_2
         have HR198_1 := Aside0.mk hi198_1
         have HC198_1 := Aside0.mk hl198_1
         clear hi198_1 hl198_1
         replace p198 := eq_true p198
         replace q198 := eq_true q198
         go_upto_region 7 with (first | ((with_reducible refine gate_dst (N := 7) rfl ?_); (try (refine gate_guard (by rfl) ?_; dsimp only)); refine box_event rfl (N := 7) rfl (cs := #[.string (⟨#[]⟩ : ByteArray), .slice none 0 0, .bool false]) (t := 36) sE ?_; intro gb199 hg w16 hbox hb; replace HO_5 := Aside0.mk (Kd.R_below (rU HO_5.out) hb); have BK199 := Aside0.mk hbox; have GW199 := gS w hg (lU); have GE199 := gS w hg (lU); replace HB := bH (lU) hb; clear hb hbox hg; have hcz17_0 := cz BK199 0 (.string (⟨#[]⟩ : ByteArray)); have hcz17_1 := cz BK199 1 (.slice none 0 0); have hcz17_2 := cz BK199 2 (.bool false); have hfz17_0 := fz BK199 0; have hfz17_1 := fz BK199 1; have hfz17_2 := fz BK199 2) | ((with_reducible refine gate_store (t := 36) (p := 7) rfl ?_); refine store_event (t := 36) (p := 7) (v := ?vo_w18) (w1 := (((w16.setCell ⟨gb199, 0, none⟩ (.string ((rd_T36 l1 x19_2).f0))).setCell ⟨gb199, 1, none⟩ (.slice A198_1 ((rd_T36 l1 x19_2).f1).length c198_1)).setCell ⟨gb199, 2, none⟩ (.bool ((rd_T36 l1 x19_2).f2)))) ?hg ?ho ?hn ?hr ?_; (case ho => rfl); (case hg => rfl); (case hn => rfl); (case hr => first | (go_simp; done) | (go_simp; rfl) | (have hq0_ := (blk_cell BK199.out 0).trans (show _ = some _ from rfl); have hf0_ := blk_frozen BK199.out 0; have hq1_ := (blk_cell BK199.out 1).trans (show _ = some _ from rfl); have hf1_ := blk_frozen BK199.out 1; have hq2_ := (blk_cell BK199.out 2).trans (show _ = some _ from rfl); have hf2_ := blk_frozen BK199.out 2; first | (go_simp; done) | (go_simp; rfl))); intro w18 hw; replace HO_5 : Aside0 (Kd.R (Kd.int .i64) 3 w18 w.heap.size (fun _ => True) v195 t194) := ⟨(by rw [hw]; exact (by (with_reducible repeat (first | apply Kd.R_alloc | apply Kd.R_drewN | apply Kd.R_drew)); exact Kd.R_mono (Kd.R_far (p := ⟨gb199, 2, none⟩) (Kd.R_far (p := ⟨gb199, 1, none⟩) (Kd.R_far (p := ⟨gb199, 0, none⟩) (Kd.R_types HO_5.out BK199.out (by decide)) (fun _ hk => hk.2) (.string ((rd_T36 l1 x19_2).f0))) (fun _ hk => hk.2) (.slice A198_1 ((rd_T36 l1 x19_2).f1).length c198_1)) (fun _ hk => hk.2) (.bool ((rd_T36 l1 x19_2).f2))) (fun _ hk => trivial)))⟩; replace BK199 : Aside0 (w18.heap[gb199]? = some (.cells #[.string ((rd_T36 l1 x19_2).f0), .slice A198_1 ((rd_T36 l1 x19_2).f1).length c198_1, .bool ((rd_T36 l1 x19_2).f2)] 36 (0, 0))) := ⟨(by rw [hw]; exact (by refine bU ?_; refine blk_put (cs := #[.string ((rd_T36 l1 x19_2).f0), .slice A198_1 ((rd_T36 l1 x19_2).f1).length c198_1, .bool false]) ?_ 2 _ rfl; refine bU ?_; refine blk_put (cs := #[.string ((rd_T36 l1 x19_2).f0), .slice none 0 0, .bool false]) ?_ 1 _ rfl; refine bU ?_; refine blk_put (cs := #[.string (⟨#[]⟩ : ByteArray), .slice none 0 0, .bool false]) ?_ 0 _ rfl; refine bU ?_; exact BK199.out))⟩; replace HB : Aside0 (Below w.heap.size w w18) := ⟨(by rw [hw]; exact (lV1 GE199))⟩; clear hw))
         (try simp only [Act.put, List.setIfInBounds_toArray, List.set_cons_zero, List.set_cons_succ])
         go_cut [43] (fun v43 wc => ∃ (kq : Nat) (x43_14 : Bool), v43 = .bool x43_14 ∧ Aside0 (impl_GoodEntries.j2 kq t194 l1 (l1.length : Int) x19_2 x43_14 ((rd_T36 l1 x19_2).f0) ((rd_T36 l1 x19_2).f1) ((rd_T36 l1 x19_2).f2) = some r) ∧ Aside0 (kq ≤ k2) ∧ Aside0 (Kd.R (Kd.int .i64) 3 wc w.heap.size (fun _ => True) v195 t194) ∧ Aside0 (wc.heap[gb199]? = some (.cells #[.string ((rd_T36 l1 x19_2).f0), (.slice A198_1 ((rd_T36 l1 x19_2).f1).length c198_1), .bool ((rd_T36 l1 x19_2).f2)] 36 (0, 0))) ∧ Aside0 (Below w.heap.size w wc))
         case first =>
          have H := HC15.out
          clear HC15
          obtain ⟨bq19, hbq19⟩ : ∃ b_ : Bool, b_ = ((rd_T36 l1 x19_2).f2) := ⟨_, rfl⟩
          replace H : (if bq19 = true then (if (((rd_T36 l1 x19_2).f1).length : Int) = (t194.length : Int) then (if (bq19 = true) then (impl_GoodEntries.j2 k2 t194 l1 (l1.length : Int) x19_2 false ((rd_T36 l1 x19_2).f0) ((rd_T36 l1 x19_2).f1) bq19) else (impl_GoodEntries.j2 k2 t194 l1 (l1.length : Int) x19_2 ((((rd_T36 l1 x19_2).f1).length : Int) != 1) ((rd_T36 l1 x19_2).f0) ((rd_T36 l1 x19_2).f1) bq19)) else (impl_GoodEntries.j2 k2 t194 l1 (l1.length : Int) x19_2 true ((rd_T36 l1 x19_2).f0) ((rd_T36 l1 x19_2).f1) bq19)) else (if (bq19 = true) then (impl_GoodEntries.j2 k2 t194 l1 (l1.length : Int) x19_2 false ((rd_T36 l1 x19_2).f0) ((rd_T36 l1 x19_2).f1) bq19) else (impl_GoodEntries.j2 k2 t194 l1 (l1.length : Int) x19_2 ((((rd_T36 l1 x19_2).f1).length : Int) != 1) ((rd_T36 l1 x19_2).f0) ((rd_T36 l1 x19_2).f1) bq19))) = some r := by rw [← hbq19] at H; exact H
          have Nbq19 := Aside0.mk hbq19
          clear hbq19
          (try rw [← Nbq19.out])
          by_cases c20 : bq19 = true
          ·subst c20
           have H1 : (if (((rd_T36 l1 x19_2).f1).length : Int) = (t194.length : Int) then (if (true = true) then (impl_GoodEntries.j2 k2 t194 l1 (l1.length : Int) x19_2 false ((rd_T36 l1 x19_2).f0) ((rd_T36 l1 x19_2).f1) true) else (impl_GoodEntries.j2 k2 t194 l1 (l1.length : Int) x19_2 ((((rd_T36 l1 x19_2).f1).length : Int) != 1) ((rd_T36 l1 x19_2).f0) ((rd_T36 l1 x19_2).f1) true)) else (impl_GoodEntries.j2 k2 t194 l1 (l1.length : Int) x19_2 true ((rd_T36 l1 x19_2).f0) ((rd_T36 l1 x19_2).f1) true)) = some r := by rw [if_pos rfl] at H; exact H
           clear H
           have H := H1
           clear H1
           by_cases c21 : (((rd_T36 l1 x19_2).f1).length : Int) = (t194.length : Int)
           ·rw [if_pos c21] at H
            have c21b0 : ((((rd_T36 l1 x19_2).f1).length : Int) == (t194.length : Int)) = true := beq_iff_eq.mpr c21
            have c21b1 : ((((rd_T36 l1 x19_2).f1).length : Int) != (t194.length : Int)) = false := bne_eq_false_iff_eq.mpr c21
            have c21b2 : (((rd_T36 l1 x19_2).f1).length == t194.length) = true := by first | simpa using c21 | (simp at c21 ⊢; omega)
            clear c21
            by_cases c22 : (true = true)
            ·clear c22
             have H1 : (impl_GoodEntries.j2 k2 t194 l1 (l1.length : Int) x19_2 false ((rd_T36 l1 x19_2).f0) ((rd_T36 l1 x19_2).f1) true) = some r := by rw [if_pos rfl] at H; exact H
             clear H
             have H := H1
             clear H1
             have H' := Aside0.mk H
             clear H
             have hcz23_0 := cz BK199 0 (.string ((rd_T36 l1 x19_2).f0))
             have hcz23_1 := cz BK199 1 (.slice A198_1 ((rd_T36 l1 x19_2).f1).length c198_1)
             have hcz23_2 := cz BK199 2 (.bool ((rd_T36 l1 x19_2).f2))
             rw [← Nbq19.out] at hcz23_2
             have hfz23_0 := fz BK199 0
             have hfz23_1 := fz BK199 1
             have hfz23_2 := fz BK199 2
             obtain ⟨Ao24, co24, eo24⟩ := Kd.R_slice HO_5.out
             subst eo24
             go_wp2
             go_meet
             case rel => exact ⟨_, (false), tE, (by rw [← Nbq19.out]; exact H'), ⟨by have := HJ3.out; have := HK2.out; first | omega | exact Nat.le_refl _⟩, ⟨by (with_reducible repeat (first | apply Kd.R_alloc | apply Kd.R_drewN | apply Kd.R_drew)); exact HO_5.out⟩, ⟨by refine bU ?_; exact BK199.out⟩, ⟨by repeat (first | (with_reducible first | exact HB.out | apply below_alloc | apply pw_below_drewN | apply below_drew1 | refine below_set ?_ GE199.out) | exact HB.out)⟩⟩
            ·exact absurd rfl c22
           ·rw [if_neg c21] at H
            have c21b0 : ((((rd_T36 l1 x19_2).f1).length : Int) == (t194.length : Int)) = false := beq_eq_false_iff_ne.mpr c21
            have c21b1 : ((((rd_T36 l1 x19_2).f1).length : Int) != (t194.length : Int)) = true := bne_iff_ne.mpr c21
            have c21b2 : (((rd_T36 l1 x19_2).f1).length == t194.length) = false := by first | simpa using c21 | (simp at c21 ⊢; omega)
            have H' := Aside0.mk H
            clear H
            have hcz27_0 := cz BK199 0 (.string ((rd_T36 l1 x19_2).f0))
            have hcz27_1 := cz BK199 1 (.slice A198_1 ((rd_T36 l1 x19_2).f1).length c198_1)
            have hcz27_2 := cz BK199 2 (.bool ((rd_T36 l1 x19_2).f2))
            rw [← Nbq19.out] at hcz27_2
            have hfz27_0 := fz BK199 0
            have hfz27_1 := fz BK199 1
            have hfz27_2 := fz BK199 2
            obtain ⟨Ao28, co28, eo28⟩ := Kd.R_slice HO_5.out
            subst eo28
            go_wp2
            go_meet
            case rel => exact ⟨_, (true), tE, (by rw [← Nbq19.out]; exact H'), ⟨by have := HJ3.out; have := HK2.out; first | omega | exact Nat.le_refl _⟩, ⟨by (with_reducible repeat (first | apply Kd.R_alloc | apply Kd.R_drewN | apply Kd.R_drew)); exact HO_5.out⟩, ⟨by refine bU ?_; exact BK199.out⟩, ⟨by repeat (first | (with_reducible first | exact HB.out | apply below_alloc | apply pw_below_drewN | apply below_drew1 | refine below_set ?_ GE199.out) | exact HB.out)⟩⟩
          ·replace c20 := Bool.eq_false_iff.mpr c20
           subst c20
           have H1 : (if (false = true) then (impl_GoodEntries.j2 k2 t194 l1 (l1.length : Int) x19_2 false ((rd_T36 l1 x19_2).f0) ((rd_T36 l1 x19_2).f1) false) else (impl_GoodEntries.j2 k2 t194 l1 (l1.length : Int) x19_2 ((((rd_T36 l1 x19_2).f1).length : Int) != 1) ((rd_T36 l1 x19_2).f0) ((rd_T36 l1 x19_2).f1) false)) = some r := by rw [if_neg (show ¬ (false = true) by decide)] at H; exact H
           clear H
           have H := H1
           clear H1
           by_cases c29 : (false = true)
           ·exact absurd c29 (by decide)
           ·clear c29
            have H1 : (impl_GoodEntries.j2 k2 t194 l1 (l1.length : Int) x19_2 ((((rd_T36 l1 x19_2).f1).length : Int) != 1) ((rd_T36 l1 x19_2).f0) ((rd_T36 l1 x19_2).f1) false) = some r := by rw [if_neg (show ¬ (false = true) by decide)] at H; exact H
            clear H
            have H := H1
            clear H1
            have H' := Aside0.mk H
            clear H
            have hcz31_0 := cz BK199 0 (.string ((rd_T36 l1 x19_2).f0))
            have hcz31_1 := cz BK199 1 (.slice A198_1 ((rd_T36 l1 x19_2).f1).length c198_1)
            have hcz31_2 := cz BK199 2 (.bool ((rd_T36 l1 x19_2).f2))
            rw [← Nbq19.out] at hcz31_2
            have hfz31_0 := fz BK199 0
            have hfz31_1 := fz BK199 1
            have hfz31_2 := fz BK199 2
            go_wp2
            go_meet
            case rel => exact ⟨_, (((((rd_T36 l1 x19_2).f1).length : Int) != 1)), tE, (by rw [← Nbq19.out]; exact H'), ⟨by have := HJ3.out; have := HK2.out; first | omega | exact Nat.le_refl _⟩, ⟨by (with_reducible repeat (first | apply Kd.R_alloc | apply Kd.R_drewN | apply Kd.R_drew)); exact HO_5.out⟩, ⟨by refine bU ?_; exact BK199.out⟩, ⟨by repeat (first | (with_reducible first | exact HB.out | apply below_alloc | apply pw_below_drewN | apply below_drew1 | refine below_set ?_ GE199.out) | exact HB.out)⟩⟩
         case rest =>
          clear HC15
          try clear c1
          try clear p1
          try clear q1
          try clear hx1
          try clear c2
          try clear p2
          try clear q2
          try clear hf2
          try clear c6
          try clear c6b0
          try clear c6b1
          try clear c6b2
          try clear c7
          try clear c11
          try clear c12
          try clear c12b0
          try clear c13
          try clear c13b0
          try clear c14
          try clear c14b0
          try clear c19
          try clear p19
          try clear q19
          try clear hx19
          try clear c20
          try clear c21
          try clear c21b0
          try clear c21b1
          try clear c21b2
          try clear c22
          try clear c29
          try clear hcz17_0
          try clear hcz17_1
          try clear hcz17_2
          try clear hcz23_0
          try clear hcz23_1
          try clear hcz23_2
          try clear hcz25_0
          try clear hcz25_1
          try clear hcz25_2
          try clear hcz27_0
          try clear hcz27_1
          try clear hcz27_2
          try clear hcz30_0
          try clear hcz30_1
          try clear hcz30_2
          try clear hcz31_0
          try clear hcz31_1
          try clear hcz31_2
          try clear hfz17_0
          try clear hfz17_1
          try clear hfz17_2
          try clear hfz23_0
          try clear hfz23_1
          try clear hfz23_2
          try clear hfz25_0
          try clear hfz25_1
          try clear hfz25_2
          try clear hfz27_0
          try clear hfz27_1
          try clear hfz27_2
          try clear hfz30_0
          try clear hfz30_1
          try clear hfz30_2
          try clear hfz31_0
          try clear hfz31_1
          try clear hfz31_2
          try clear hx198_0
          try clear hx198_1
          try clear hx198_2
          try clear p198
          try clear p2
          try clear q198
          obtain ⟨kq, x43_14, rfl, HA, HJ14, HO_5, BK199, HB⟩ := hcut
          cases kq with
          | zero => exact absurd HA.out (by simp [impl_GoodEntries.j2])
          | succ kj14 =>
           have H := HA.out
           clear HA
           simp only [impl_GoodEntries.j2] at H
           by_cases c32 : x43_14 = true
           ·subst c32
            have H1 : (some false) = some r := by rw [if_pos rfl] at H; exact H
            clear H
            have H := H1
            clear H1
            obtain rfl := Option.some.inj H
            go_wp2
            go_ret
            exact ⟨eE, lV1 GE199⟩
           ·replace c32 := Bool.eq_false_iff.mpr c32
            subst c32
            have H1 : ((slices_ContainsFunc_w17.f kj14 ((rd_T36 l1 x19_2).f1)).bind fun t200 => (if t200 = true then (some false) else (impl_GoodEntries.l0 kj14 t194 l1 (l1.length : Int) (wrap64 (x19_2 + 1))))) = some r := by rw [if_neg (show ¬ (false = true) by decide)] at H; exact H
            clear H
            have H := H1
            clear H1
            replace H := Option.bind_eq_some_iff.mp H
            obtain ⟨t200, A330, H⟩ := H
            replace H : (if t200 = true then (some false) else (impl_GoodEntries.l0 kj14 t194 l1 (l1.length : Int) (wrap64 (x19_2 + 1)))) = some r := H
            have A33 := Aside0.mk A330
            clear A330
            by_cases c34 : t200 = true
            ·subst c34
             have H1 : (some false) = some r := by rw [if_pos rfl] at H; exact H
             clear H
             have H := H1
             clear H1
             obtain rfl := Option.some.inj H
             have hcz35_0 := cz BK199 0 (.string ((rd_T36 l1 x19_2).f0))
             have hcz35_1 := cz BK199 1 (.slice A198_1 ((rd_T36 l1 x19_2).f1).length c198_1)
             have hcz35_2 := cz BK199 2 (.bool ((rd_T36 l1 x19_2).f2))
             have hfz35_0 := fz BK199 0
             have hfz35_1 := fz BK199 1
             have hfz35_2 := fz BK199 2
             go_wp2_with (first | ((with_reducible refine gate_callee (f := 16) rfl ?_); refine goesL_ (some 46) rfl rfl Try.func16 (by kernel_rfl) rfl #[.slice A198_1 ((rd_T36 l1 x19_2).f1).length c198_1, .func (.func 17) #[] #[]] rfl aE ?_; (with_reducible refine (slices_ContainsFunc_w17.calls kj14 _ _ ((rd_T36 l1 x19_2).f1)  true _ ?side1 ?side2 A33.out).mono ?_); (case side1 => exact cU (Kd.C_below HR198_1.out HB.out)); (case side2 => exact HC198_1.out); rintro e w36 ⟨rfl, hb⟩; refine ⟨_, rfl, ?_⟩; replace HO_5 := Aside0.mk (Kd.R_below (rU HO_5.out) hb); replace BK199 := bB (bV BK199) hb; replace HB := bH (lV1 GE199) hb; (try clear hb)))
             go_ret
             exact ⟨eE, lV1 GE199⟩
            ·replace c34 := Bool.eq_false_iff.mpr c34
             subst c34
             have H1 : (impl_GoodEntries.l0 kj14 t194 l1 (l1.length : Int) (wrap64 (x19_2 + 1))) = some r := by rw [if_neg (show ¬ (false = true) by decide)] at H; exact H
             clear H
             have H := H1
             clear H1
             have H' := Aside0.mk H
             clear H
             have hcz37_0 := cz BK199 0 (.string ((rd_T36 l1 x19_2).f0))
             have hcz37_1 := cz BK199 1 (.slice A198_1 ((rd_T36 l1 x19_2).f1).length c198_1)
             have hcz37_2 := cz BK199 2 (.bool ((rd_T36 l1 x19_2).f2))
             have hfz37_0 := fz BK199 0
             have hfz37_1 := fz BK199 1
             have hfz37_2 := fz BK199 2
             go_wp2_with (first | ((with_reducible refine gate_callee (f := 16) rfl ?_); refine goesL_ (some 46) rfl rfl Try.func16 (by kernel_rfl) rfl #[.slice A198_1 ((rd_T36 l1 x19_2).f1).length c198_1, .func (.func 17) #[] #[]] rfl aE ?_; (with_reducible refine (slices_ContainsFunc_w17.calls kj14 _ _ ((rd_T36 l1 x19_2).f1)  false _ ?side1 ?side2 A33.out).mono ?_); (case side1 => exact cU (Kd.C_below HR198_1.out HB.out)); (case side2 => exact HC198_1.out); rintro e w38 ⟨rfl, hb⟩; refine ⟨_, rfl, ?_⟩; replace HO_5 := Aside0.mk (Kd.R_below (rU HO_5.out) hb); replace BK199 := bB (bV BK199) hb; replace HB := bH (lV1 GE199) hb; (try clear hb)))
             go_roundg kj14
             case measure => have := HJ3.out; have := HK2.out; have := HJ14.out; omega
             case rel => exact ⟨(wrap64 (x19_2 + 1)), tE, H', ⟨by have := HJ3.out; have := HK2.out; have := HJ14.out; omega⟩, ⟨by (with_reducible repeat (first | apply Kd.R_alloc | apply Kd.R_drewN | apply Kd.R_drew)); exact HO_5.out⟩, ⟨by repeat (first | (with_reducible first | exact HB.out | apply below_alloc | apply pw_below_drewN | apply below_drew1 | refine below_set ?_ GE199.out) | exact HB.out)⟩⟩
        ·rw [if_neg c14] at H
         exact absurd H (by simp)
       ·rw [if_neg c13] at H
        exact absurd H (by simp)
      ·rw [if_neg c12] at H
       have c12b0 : decide (x19_2 < (l1.length : Int)) = false := decide_eq_false c12
       clear c12
       obtain rfl := Option.some.inj H
       go_wp2
       go_ret
       exact ⟨eE, lU⟩
def laws_eqStringS.l0 : Nat → List ByteArray → List ByteArray → Int → Option (Bool)
 | 0, _, _, _ => none
 | k + 1, x0, x1, x5 => if x5 < (x0.length : Int) then (if 0 ≤ x5 then (if x5 < (x1.length : Int) then (if (rdOf ByteArray.empty x0 x5).toList = (rdOf ByteArray.empty x1 x5).toList then (laws_eqStringS.l0 k x0 x1 (wrap64 (x5 + 1))) else (some false)) else (none)) else (none)) else (some true)
def laws_eqStringS.f (k : Nat) (l0 : List ByteArray) (l1 : List ByteArray) : Option (Bool) := if (l0.length : Int) = (l1.length : Int) then (laws_eqStringS.l0 k l0 l1 0) else (some false)
theorem laws_eqStringS.mono_l : ∀ k, (∀ y0 y1 y2, LeO (laws_eqStringS.l0 k y0 y1 y2) (laws_eqStringS.l0 (k + 1) y0 y1 y2))
 | 0 => fun _ _ _ r h => by simp [laws_eqStringS.l0] at h
 | k + 1 => by
  have ih0 := laws_eqStringS.mono_l k
  ·intro y0 y1 y2
   unfold laws_eqStringS.l0
   repeat' first
   | (with_reducible exact ih0 _ _ _)
   | (with_reducible first | exact LeO.refl _ | exact LeO.none _ | refine LeO.ite ?_ ?_ | refine LeO.bind ?_ (fun _ => ?_))
   | exact ih0 _ _ _ | exact LeO.none _ | refine LeO.ite ?_ ?_ | refine LeO.bind ?_ (fun _ => ?_)
theorem laws_eqStringS.mono : ∀ a0 a1 k, LeO (laws_eqStringS.f k a0 a1) (laws_eqStringS.f (k + 1) a0 a1) := by
 intro a0 a1 k
 have ih0 := laws_eqStringS.mono_l k
 unfold laws_eqStringS.f
 repeat' first
   | (with_reducible exact ih0 _ _ _)
   | (with_reducible first | exact LeO.refl _ | exact LeO.none _ | refine LeO.ite ?_ ?_ | refine LeO.bind ?_ (fun _ => ?_))
   | exact ih0 _ _ _ | exact LeO.none _ | refine LeO.ite ?_ ?_ | refine LeO.bind ?_ (fun _ => ?_)
set_option maxHeartbeats 8000000 in
set_option maxRecDepth 100000 in
theorem laws_eqStringS.calls (k : Nat) (A0 : Option Addr) (c0 : Nat) (l0 : List ByteArray) (A1 : Option Addr) (c1 : Nat) (l1 : List ByteArray) (r : Bool) (w : World) (hr0 : Kd.C Kd.string w A0 l0.length l0) (hc0 : l0.length ≤ c0) (hr1 : Kd.C Kd.string w A1 l1.length l1) (hc1 : l1.length ≤ c1) (h : laws_eqStringS.f k l0 l1 = some r) :
  Calls Try.prog 26 #[.slice A0 l0.length c0, .slice A1 l1.length c1] w fun e w' => e = .returned (.bool r) ∧ Drawn0 w w' := by
 have HR0 := Aside0.mk hr0
 have HC0 := Aside0.mk hc0
 clear hr0 hc0
 have HR1 := Aside0.mk hr1
 have HC1 := Aside0.mk hc1
 clear hr1 hc1
 have H : (if (l0.length : Int) = (l1.length : Int) then (laws_eqStringS.l0 k l0 l1 0) else (some false)) = some r := h
 clear h
 by_cases c3 : (l0.length : Int) = (l1.length : Int)
 ·rw [if_pos c3] at H
  have c3b0 : ((l0.length : Int) == (l1.length : Int)) = true := beq_iff_eq.mpr c3
  have c3b1 : ((l0.length : Int) != (l1.length : Int)) = false := bne_eq_false_iff_eq.mpr c3
  have c3b2 : (l0.length == l1.length) = true := by first | simpa using c3 | (simp at c3 ⊢; omega)
  clear c3
  have H' := Aside0.mk H
  clear H
  go_enter Try.func26, Try.ntmps26
  go_wp2
  repeat (go_quiet (fail); try go_wp2)
  go_loopg [5] k (fun kq v5 w' => ∃ (x5_1 : Int), v5 = .int .i64 x5_1 ∧ Aside0 (laws_eqStringS.l0 kq l0 l1 x5_1 = some r) ∧ Aside0 (kq ≤ k) ∧ Drawn0 w w')
  case atStart => exact ⟨(0), tE, H', ⟨Nat.le_refl _⟩, by repeat (first | exact Drawn0.refl _ | apply Drawn0.step)⟩
  case round =>
   clear H'
   try clear c1
   try clear c2
   try clear p2
   try clear c3
   try clear c3b0
   try clear c3b1
   try clear c3b2
   obtain ⟨x5_1, rfl, HA, HK1, ⟨m1, rfl⟩⟩ := hrel
   cases gk with
   | zero => exact absurd HA.out (by simp [laws_eqStringS.l0])
   | succ k1 =>
    have H := HA.out
    clear HA
    simp only [laws_eqStringS.l0] at H
    by_cases c4 : x5_1 < (l0.length : Int)
    ·rw [if_pos c4] at H
     have c4b0 : decide (x5_1 < (l0.length : Int)) = true := decide_eq_true c4
     clear c4
     by_cases c5 : 0 ≤ x5_1
     ·rw [if_pos c5] at H
      have c5b0 : decide (0 ≤ x5_1) = true := decide_eq_true c5
      clear c5
      by_cases c6 : x5_1 < (l1.length : Int)
      ·rw [if_pos c6] at H
       have c6b0 : decide (x5_1 < (l1.length : Int)) = true := decide_eq_true c6
       clear c6
       by_cases c7 : (rdOf ByteArray.empty l0 x5_1).toList = (rdOf ByteArray.empty l1 x5_1).toList
       ·rw [if_pos c7] at H
        have c7b0 : ((rdOf ByteArray.empty l0 x5_1).toList == (rdOf ByteArray.empty l1 x5_1).toList) = true := beq_iff_eq.mpr c7
        have c7b1 : ((rdOf ByteArray.empty l0 x5_1).toList != (rdOf ByteArray.empty l1 x5_1).toList) = false := bne_eq_false_iff_eq.mpr c7
        clear c7
        have H' := Aside0.mk H
        clear H
        have p201 : 0 ≤ (x5_1 : Int) := of_decide_eq_true hE
        have q201 : x5_1 < (l0.length : Int) := of_decide_eq_true hE
        obtain ⟨ad201, e201, hx201_0⟩ := Kd.at_string HR0.out x5_1 p201 q201
        cases e201
        replace p201 := eq_true p201
        replace q201 := eq_true q201
        have p202 : 0 ≤ (x5_1 : Int) := of_decide_eq_true hE
        have q202 : x5_1 < (l1.length : Int) := of_decide_eq_true hE
        obtain ⟨ad202, e202, hx202_0⟩ := Kd.at_string HR1.out x5_1 p202 q202
        cases e202
        replace p202 := eq_true p202
        replace q202 := eq_true q202
        go_wp2
        repeat (go_quiet (fail); try go_wp2)
        go_roundg k1
        case measure => have := HK1.out; omega
        case rel => exact ⟨(wrap64 (x5_1 + 1)), tE, H', ⟨by have := HK1.out; omega⟩, by repeat (first | exact Drawn0.refl _ | apply Drawn0.step)⟩
       ·rw [if_neg c7] at H
        have c7b0 : ((rdOf ByteArray.empty l0 x5_1).toList == (rdOf ByteArray.empty l1 x5_1).toList) = false := beq_eq_false_iff_ne.mpr c7
        have c7b1 : ((rdOf ByteArray.empty l0 x5_1).toList != (rdOf ByteArray.empty l1 x5_1).toList) = true := bne_iff_ne.mpr c7
        obtain rfl := Option.some.inj H
        have p201 : 0 ≤ (x5_1 : Int) := of_decide_eq_true hE
        have q201 : x5_1 < (l0.length : Int) := of_decide_eq_true hE
        obtain ⟨ad201, e201, hx201_0⟩ := Kd.at_string HR0.out x5_1 p201 q201
        cases e201
        replace p201 := eq_true p201
        replace q201 := eq_true q201
        have p202 : 0 ≤ (x5_1 : Int) := of_decide_eq_true hE
        have q202 : x5_1 < (l1.length : Int) := of_decide_eq_true hE
        obtain ⟨ad202, e202, hx202_0⟩ := Kd.at_string HR1.out x5_1 p202 q202
        cases e202
        replace p202 := eq_true p202
        replace q202 := eq_true q202
        go_wp2
        repeat (go_quiet (fail); try go_wp2)
        go_ret
        exact ⟨by first | rfl | (simp; done) | (simp [*]; done) | exact not_isEmpty _ | exact (not_isEmpty _).symm | exact is_empty _ | exact (is_empty _).symm, by repeat (first | exact Drawn0.refl _ | apply Drawn0.step)⟩
      ·rw [if_neg c6] at H
       exact absurd H (by simp)
     ·rw [if_neg c5] at H
      exact absurd H (by simp)
    ·rw [if_neg c4] at H
     have c4b0 : decide (x5_1 < (l0.length : Int)) = false := decide_eq_false c4
     clear c4
     obtain rfl := Option.some.inj H
     go_wp2
     repeat (go_quiet (fail); try go_wp2)
     go_ret
     exact ⟨by first | rfl | (simp; done) | (simp [*]; done) | exact not_isEmpty _ | exact (not_isEmpty _).symm | exact is_empty _ | exact (is_empty _).symm, by repeat (first | exact Drawn0.refl _ | apply Drawn0.step)⟩
 ·rw [if_neg c3] at H
  have c3b0 : ((l0.length : Int) == (l1.length : Int)) = false := beq_eq_false_iff_ne.mpr c3
  have c3b1 : ((l0.length : Int) != (l1.length : Int)) = true := bne_iff_ne.mpr c3
  have c3b2 : (l0.length == l1.length) = false := by first | simpa using c3 | (simp at c3 ⊢; omega)
  obtain rfl := Option.some.inj H
  go_enter Try.func26, Try.ntmps26
  go_wp2
  repeat (go_quiet (fail); try go_wp2)
  go_ret
  exact ⟨by first | rfl | (simp; done) | (simp [*]; done) | exact not_isEmpty _ | exact (not_isEmpty _).symm | exact is_empty _ | exact (is_empty _).symm, by repeat (first | exact Drawn0.refl _ | apply Drawn0.step)⟩
def laws_eqEntry.f (k : Nat) (a0_0 : ByteArray) (l0_1 : List ByteArray) (a0_2 : Bool) (a1_0 : ByteArray) (l1_1 : List ByteArray) (a1_2 : Bool) : Option (Bool) := if a0_0.toList = a1_0.toList then ((laws_eqStringS.f k l0_1 l1_1).bind fun t205 => (if t205 = true then (if (a0_2 != a1_2) = true then (some false) else (some true)) else (some false))) else (some false)
theorem laws_eqEntry.mono : ∀ a0 a1 a2 a3 a4 a5 k, LeO (laws_eqEntry.f k a0 a1 a2 a3 a4 a5) (laws_eqEntry.f (k + 1) a0 a1 a2 a3 a4 a5) := by
 intro a0 a1 a2 a3 a4 a5 k
 unfold laws_eqEntry.f
 repeat' first
   | (with_reducible exact laws_eqStringS.mono _ _ _)
   | (with_reducible first | exact LeO.refl _ | exact LeO.none _ | refine LeO.ite ?_ ?_ | refine LeO.bind ?_ (fun _ => ?_))
   | exact laws_eqStringS.mono _ _ _ | exact LeO.none _ | refine LeO.ite ?_ ?_ | refine LeO.bind ?_ (fun _ => ?_)
set_option maxHeartbeats 8000000 in
set_option maxRecDepth 100000 in
theorem laws_eqEntry.calls (k : Nat) (a0_0 : ByteArray) (A0_1 : Option Addr) (c0_1 : Nat) (l0_1 : List ByteArray) (a0_2 : Bool) (a1_0 : ByteArray) (A1_1 : Option Addr) (c1_1 : Nat) (l1_1 : List ByteArray) (a1_2 : Bool) (r : Bool) (w : World) (hr0_1 : Kd.C Kd.string w A0_1 l0_1.length l0_1) (hc0_1 : l0_1.length ≤ c0_1) (hr1_1 : Kd.C Kd.string w A1_1 l1_1.length l1_1) (hc1_1 : l1_1.length ≤ c1_1) (h : laws_eqEntry.f k a0_0 l0_1 a0_2 a1_0 l1_1 a1_2 = some r) :
  Calls Try.prog 19 #[.agg #[.string a0_0, .slice A0_1 l0_1.length c0_1, .bool a0_2], .agg #[.string a1_0, .slice A1_1 l1_1.length c1_1, .bool a1_2]] w fun e w' => e = .returned (.bool r) ∧ Below w.heap.size w w' := by
 have hu36 := Try.underlying36
 have HR0_1 := Aside0.mk hr0_1
 have HC0_1 := Aside0.mk hc0_1
 clear hr0_1 hc0_1
 have HR1_1 := Aside0.mk hr1_1
 have HC1_1 := Aside0.mk hc1_1
 clear hr1_1 hc1_1
 have HB := Aside0.mk (Below.refl w.heap.size w)
 have H : (if a0_0.toList = a1_0.toList then ((laws_eqStringS.f k l0_1 l1_1).bind fun t205 => (if t205 = true then (if (a0_2 != a1_2) = true then (some false) else (some true)) else (some false))) else (some false)) = some r := h
 clear h
 by_cases c3 : a0_0.toList = a1_0.toList
 ·rw [if_pos c3] at H
  have c3b0 : (a0_0.toList == a1_0.toList) = true := beq_iff_eq.mpr c3
  have c3b1 : (a0_0.toList != a1_0.toList) = false := bne_eq_false_iff_eq.mpr c3
  clear c3
  replace H := Option.bind_eq_some_iff.mp H
  obtain ⟨t205, A40, H⟩ := H
  replace H : (if t205 = true then (if (a0_2 != a1_2) = true then (some false) else (some true)) else (some false)) = some r := H
  have A4 := Aside0.mk A40
  clear A40
  by_cases c5 : t205 = true
  ·subst c5
   have H1 : (if (a0_2 != a1_2) = true then (some false) else (some true)) = some r := by rw [if_pos rfl] at H; exact H
   clear H
   have H := H1
   clear H1
   by_cases c6 : (a0_2 != a1_2) = true
   ·rw [if_pos c6] at H
    have c6b0 : (a0_2 != a1_2) = true := c6
    (try (have c6b1 : decide (a0_2 = a1_2) = false := by simpa using c6))
    (try (have c6b2 : (a0_2 == a1_2) = false := by simpa using c6))
    (try (have c6b3 : ¬ (a0_2 = a1_2) := by simpa using c6))
    clear c6
    obtain rfl := Option.some.inj H
    go_enter Try.func19, Try.ntmps19
    go_wp2_with (first | ((with_reducible refine gate_dst (N := 2) rfl ?_); refine box_event rfl (N := 2) rfl (cs := #[.string a0_0, .slice A0_1 l0_1.length c0_1, .bool a0_2]) (t := 36) sE ?_; intro gb203 hg w7 hbox hb; have BK203 := Aside0.mk hbox; have GW203 := gS w hg (lU); have GE203 := gS w hg (lU); replace HB := bH (lU) hb; clear hb hbox hg) | ((with_reducible refine gate_dst (N := 3) rfl ?_); refine box_event rfl (N := 3) rfl (cs := #[.string a1_0, .slice A1_1 l1_1.length c1_1, .bool a1_2]) (t := 36) sE ?_; intro gb204 hg w8 hbox hb; have BK204 := Aside0.mk hbox; have GW204 := gS w hg (lV1 GE203); have GE204 := gS w hg (lV1 GE203); replace HB := bH (lV1 GE203) hb; have NB203_204 := nL hg (bV BK203); have NB204_203 := nG hg (bV BK203); replace BK203 := bB (bV BK203) hb; clear hb hbox hg; have hnb9 := NB203_204.out; have hnc9 := NB204_203.out; have hcz10_0 := cz BK203 0 (.string a0_0); have hcz10_1 := cz BK203 1 (.slice A0_1 l0_1.length c0_1); have hcz10_2 := cz BK203 2 (.bool a0_2); have hfz10_0 := fz BK203 0; have hfz10_1 := fz BK203 1; have hfz10_2 := fz BK203 2; have hcz11_0 := cz BK204 0 (.string a1_0); have hcz11_1 := cz BK204 1 (.slice A1_1 l1_1.length c1_1); have hcz11_2 := cz BK204 2 (.bool a1_2); have hfz11_0 := fz BK204 0; have hfz11_1 := fz BK204 1; have hfz11_2 := fz BK204 2) | ((with_reducible refine gate_callee (f := 26) rfl ?_); refine goesL_ (some 14) rfl rfl Try.func26 (by kernel_rfl) rfl #[.slice A0_1 l0_1.length c0_1, .slice A1_1 l1_1.length c1_1] rfl aE ?_; (with_reducible refine (laws_eqStringS.calls k _ _ l0_1 _ _ l1_1 true _ ?side1 ?side2 ?side3 ?side4 A4.out).mono ?_); (case side1 => exact cU (Kd.C_below HR0_1.out HB.out)); (case side2 => exact HC0_1.out); (case side3 => exact cU (Kd.C_below HR1_1.out HB.out)); (case side4 => exact HC1_1.out); rintro e w' ⟨rfl, ⟨nd, rfl⟩⟩; refine ⟨_, rfl, ?_⟩))
    go_ret
    exact ⟨eE, lV2 GE203 GE204⟩
   ·rw [if_neg c6] at H
    have c6b0 : (a0_2 != a1_2) = false := by simpa using c6
    (try (have c6b1 : decide (a0_2 = a1_2) = true := by simpa using c6))
    (try (have c6b2 : (a0_2 == a1_2) = true := by simpa using c6))
    clear c6
    obtain rfl := Option.some.inj H
    go_enter Try.func19, Try.ntmps19
    go_wp2_with (first | ((with_reducible refine gate_dst (N := 2) rfl ?_); refine box_event rfl (N := 2) rfl (cs := #[.string a0_0, .slice A0_1 l0_1.length c0_1, .bool a0_2]) (t := 36) sE ?_; intro gb203 hg w12 hbox hb; have BK203 := Aside0.mk hbox; have GW203 := gS w hg (lU); have GE203 := gS w hg (lU); replace HB := bH (lU) hb; clear hb hbox hg) | ((with_reducible refine gate_dst (N := 3) rfl ?_); refine box_event rfl (N := 3) rfl (cs := #[.string a1_0, .slice A1_1 l1_1.length c1_1, .bool a1_2]) (t := 36) sE ?_; intro gb204 hg w13 hbox hb; have BK204 := Aside0.mk hbox; have GW204 := gS w hg (lV1 GE203); have GE204 := gS w hg (lV1 GE203); replace HB := bH (lV1 GE203) hb; have NB203_204 := nL hg (bV BK203); have NB204_203 := nG hg (bV BK203); replace BK203 := bB (bV BK203) hb; clear hb hbox hg; have hnb14 := NB203_204.out; have hnc14 := NB204_203.out; have hcz15_0 := cz BK203 0 (.string a0_0); have hcz15_1 := cz BK203 1 (.slice A0_1 l0_1.length c0_1); have hcz15_2 := cz BK203 2 (.bool a0_2); have hfz15_0 := fz BK203 0; have hfz15_1 := fz BK203 1; have hfz15_2 := fz BK203 2; have hcz16_0 := cz BK204 0 (.string a1_0); have hcz16_1 := cz BK204 1 (.slice A1_1 l1_1.length c1_1); have hcz16_2 := cz BK204 2 (.bool a1_2); have hfz16_0 := fz BK204 0; have hfz16_1 := fz BK204 1; have hfz16_2 := fz BK204 2) | ((with_reducible refine gate_callee (f := 26) rfl ?_); refine goesL_ (some 14) rfl rfl Try.func26 (by kernel_rfl) rfl #[.slice A0_1 l0_1.length c0_1, .slice A1_1 l1_1.length c1_1] rfl aE ?_; (with_reducible refine (laws_eqStringS.calls k _ _ l0_1 _ _ l1_1 true _ ?side1 ?side2 ?side3 ?side4 A4.out).mono ?_); (case side1 => exact cU (Kd.C_below HR0_1.out HB.out)); (case side2 => exact HC0_1.out); (case side3 => exact cU (Kd.C_below HR1_1.out HB.out)); (case side4 => exact HC1_1.out); rintro e w' ⟨rfl, ⟨nd, rfl⟩⟩; refine ⟨_, rfl, ?_⟩))
    go_ret
    exact ⟨eE, lV2 GE203 GE204⟩
  ·replace c5 := Bool.eq_false_iff.mpr c5
   subst c5
   have H1 : (some false) = some r := by rw [if_neg (show ¬ (false = true) by decide)] at H; exact H
   clear H
   have H := H1
   clear H1
   obtain rfl := Option.some.inj H
   go_enter Try.func19, Try.ntmps19
   go_wp2_with (first | ((with_reducible refine gate_dst (N := 2) rfl ?_); refine box_event rfl (N := 2) rfl (cs := #[.string a0_0, .slice A0_1 l0_1.length c0_1, .bool a0_2]) (t := 36) sE ?_; intro gb203 hg w17 hbox hb; have BK203 := Aside0.mk hbox; have GW203 := gS w hg (lU); have GE203 := gS w hg (lU); replace HB := bH (lU) hb; clear hb hbox hg) | ((with_reducible refine gate_dst (N := 3) rfl ?_); refine box_event rfl (N := 3) rfl (cs := #[.string a1_0, .slice A1_1 l1_1.length c1_1, .bool a1_2]) (t := 36) sE ?_; intro gb204 hg w18 hbox hb; have BK204 := Aside0.mk hbox; have GW204 := gS w hg (lV1 GE203); have GE204 := gS w hg (lV1 GE203); replace HB := bH (lV1 GE203) hb; have NB203_204 := nL hg (bV BK203); have NB204_203 := nG hg (bV BK203); replace BK203 := bB (bV BK203) hb; clear hb hbox hg; have hnb19 := NB203_204.out; have hnc19 := NB204_203.out; have hcz20_0 := cz BK203 0 (.string a0_0); have hcz20_1 := cz BK203 1 (.slice A0_1 l0_1.length c0_1); have hcz20_2 := cz BK203 2 (.bool a0_2); have hfz20_0 := fz BK203 0; have hfz20_1 := fz BK203 1; have hfz20_2 := fz BK203 2; have hcz21_0 := cz BK204 0 (.string a1_0); have hcz21_1 := cz BK204 1 (.slice A1_1 l1_1.length c1_1); have hcz21_2 := cz BK204 2 (.bool a1_2); have hfz21_0 := fz BK204 0; have hfz21_1 := fz BK204 1; have hfz21_2 := fz BK204 2) | ((with_reducible refine gate_callee (f := 26) rfl ?_); refine goesL_ (some 14) rfl rfl Try.func26 (by kernel_rfl) rfl #[.slice A0_1 l0_1.length c0_1, .slice A1_1 l1_1.length c1_1] rfl aE ?_; (with_reducible refine (laws_eqStringS.calls k _ _ l0_1 _ _ l1_1 false _ ?side1 ?side2 ?side3 ?side4 A4.out).mono ?_); (case side1 => exact cU (Kd.C_below HR0_1.out HB.out)); (case side2 => exact HC0_1.out); (case side3 => exact cU (Kd.C_below HR1_1.out HB.out)); (case side4 => exact HC1_1.out); rintro e w' ⟨rfl, ⟨nd, rfl⟩⟩; refine ⟨_, rfl, ?_⟩))
   go_ret
   exact ⟨eE, lV2 GE203 GE204⟩
 ·rw [if_neg c3] at H
  have c3b0 : (a0_0.toList == a1_0.toList) = false := beq_eq_false_iff_ne.mpr c3
  have c3b1 : (a0_0.toList != a1_0.toList) = true := bne_iff_ne.mpr c3
  obtain rfl := Option.some.inj H
  go_enter Try.func19, Try.ntmps19
  go_wp2_with (first | ((with_reducible refine gate_dst (N := 2) rfl ?_); refine box_event rfl (N := 2) rfl (cs := #[.string a0_0, .slice A0_1 l0_1.length c0_1, .bool a0_2]) (t := 36) sE ?_; intro gb203 hg w22 hbox hb; have BK203 := Aside0.mk hbox; have GW203 := gS w hg (lU); have GE203 := gS w hg (lU); replace HB := bH (lU) hb; clear hb hbox hg) | ((with_reducible refine gate_dst (N := 3) rfl ?_); refine box_event rfl (N := 3) rfl (cs := #[.string a1_0, .slice A1_1 l1_1.length c1_1, .bool a1_2]) (t := 36) sE ?_; intro gb204 hg w23 hbox hb; have BK204 := Aside0.mk hbox; have GW204 := gS w hg (lV1 GE203); have GE204 := gS w hg (lV1 GE203); replace HB := bH (lV1 GE203) hb; have NB203_204 := nL hg (bV BK203); have NB204_203 := nG hg (bV BK203); replace BK203 := bB (bV BK203) hb; clear hb hbox hg; have hnb24 := NB203_204.out; have hnc24 := NB204_203.out; have hcz25_0 := cz BK203 0 (.string a0_0); have hcz25_1 := cz BK203 1 (.slice A0_1 l0_1.length c0_1); have hcz25_2 := cz BK203 2 (.bool a0_2); have hfz25_0 := fz BK203 0; have hfz25_1 := fz BK203 1; have hfz25_2 := fz BK203 2; have hcz26_0 := cz BK204 0 (.string a1_0); have hcz26_1 := cz BK204 1 (.slice A1_1 l1_1.length c1_1); have hcz26_2 := cz BK204 2 (.bool a1_2); have hfz26_0 := fz BK204 0; have hfz26_1 := fz BK204 1; have hfz26_2 := fz BK204 2))
  go_ret
  exact ⟨eE, lV2 GE203 GE204⟩
end Go.Proofs.Ytnacjhgpanedoac.PFnExactGoodEntries
namespace Go.Proofs.Ytnacjhgpanedoac.PFnExactGoodEntries
open Go.RowKit Go.Proofs.YtnacjhgpanedoacW.PrintWords Go.Proofs.YtnacjhgpanedoacW.PrintLast Go.Proofs.YtnacjhgpanedoacW.PrintMore
attribute [local go_sem] max2_int min2_int max_two min_two max_three min_three max_four min_four   -- for this text's walks alone
set_option linter.unusedVariables false
set_option linter.unusedSimpArgs false
def laws_eqEntryS.l0 : Nat → List (S36) → List (S36) → Int → Option (Bool)
 | 0, _, _, _ => none
 | k + 1, x0, x1, x5 => if x5 < (x0.length : Int) then (if 0 ≤ x5 then (if x5 < (x1.length : Int) then ((laws_eqEntry.f k ((rd_T36 x0 x5).f0) ((rd_T36 x0 x5).f1) ((rd_T36 x0 x5).f2) ((rd_T36 x1 x5).f0) ((rd_T36 x1 x5).f1) ((rd_T36 x1 x5).f2)).bind fun t208 => (if t208 = true then (laws_eqEntryS.l0 k x0 x1 (wrap64 (x5 + 1))) else (some false))) else (none)) else (none)) else (some true)
def laws_eqEntryS.f (k : Nat) (l0 : List (S36)) (l1 : List (S36)) : Option (Bool) := if (l0.length : Int) = (l1.length : Int) then (laws_eqEntryS.l0 k l0 l1 0) else (some false)
theorem laws_eqEntryS.mono_l : ∀ k, (∀ y0 y1 y2, LeO (laws_eqEntryS.l0 k y0 y1 y2) (laws_eqEntryS.l0 (k + 1) y0 y1 y2))
 | 0 => fun _ _ _ r h => by simp [laws_eqEntryS.l0] at h
 | k + 1 => by
  have ih0 := laws_eqEntryS.mono_l k
  ·intro y0 y1 y2
   unfold laws_eqEntryS.l0
   repeat' first
   | (with_reducible exact ih0 _ _ _)
   | (with_reducible exact laws_eqEntry.mono _ _ _ _ _ _ _)
   | (with_reducible first | exact LeO.refl _ | exact LeO.none _ | refine LeO.ite ?_ ?_ | refine LeO.bind ?_ (fun _ => ?_))
   | exact ih0 _ _ _
   | exact laws_eqEntry.mono _ _ _ _ _ _ _ | exact LeO.none _ | refine LeO.ite ?_ ?_ | refine LeO.bind ?_ (fun _ => ?_)
theorem laws_eqEntryS.mono : ∀ a0 a1 k, LeO (laws_eqEntryS.f k a0 a1) (laws_eqEntryS.f (k + 1) a0 a1) := by
 intro a0 a1 k
 have ih0 := laws_eqEntryS.mono_l k
 unfold laws_eqEntryS.f
 repeat' first
   | (with_reducible exact ih0 _ _ _)
   | (with_reducible exact laws_eqEntry.mono _ _ _ _ _ _ _)
   | (with_reducible first | exact LeO.refl _ | exact LeO.none _ | refine LeO.ite ?_ ?_ | refine LeO.bind ?_ (fun _ => ?_))
   | exact ih0 _ _ _
   | exact laws_eqEntry.mono _ _ _ _ _ _ _ | exact LeO.none _ | refine LeO.ite ?_ ?_ | refine LeO.bind ?_ (fun _ => ?_)
def laws_eqEntryS.T6 : Bool × List (List Nat × List Nat) := (true, [([], []), ([], []), ([0, 1], [0, 1]), ([2], [2]), ([], []), ([], []), ([4, 5], [4, 5]), ([6], [6]), ([3, 7], [3, 7]), ([8], [8])])
def laws_eqEntryS.B6 : List Nat := [0, 0, 3, 7, 0, 0, 48, 112, 255, 511]
theorem laws_eqEntryS.tab6 : rtab .any (opsOf Try.f8 6) = laws_eqEntryS.T6 := by kernel_rfl
theorem laws_eqEntryS.bits6 : waitsOk laws_eqEntryS.T6.2 laws_eqEntryS.B6 = true := by kernel_rfl
set_option maxHeartbeats 8000000 in
set_option maxRecDepth 100000 in
theorem laws_eqEntryS.calls (k : Nat) (A0 : Option Addr) (c0 : Nat) (l0 : List (S36)) (A1 : Option Addr) (c1 : Nat) (l1 : List (S36)) (r : Bool) (w : World) (hr0 : Kd.C k36 w A0 l0.length l0) (hc0 : l0.length ≤ c0) (hr1 : Kd.C k36 w A1 l1.length l1) (hc1 : l1.length ≤ c1) (h : laws_eqEntryS.f k l0 l1 = some r) :
  Calls Try.prog 8 #[.slice A0 l0.length c0, .slice A1 l1.length c1] w fun e w' => e = .returned (.bool r) ∧ Below w.heap.size w w' := by
 have hu36 := Try.underlying36
 have HR0 := Aside0.mk hr0
 have HC0 := Aside0.mk hc0
 clear hr0 hc0
 have HR1 := Aside0.mk hr1
 have HC1 := Aside0.mk hc1
 clear hr1 hc1
 have HB := Aside0.mk (Below.refl w.heap.size w)
 have H : (if (l0.length : Int) = (l1.length : Int) then (laws_eqEntryS.l0 k l0 l1 0) else (some false)) = some r := h
 clear h
 by_cases c3 : (l0.length : Int) = (l1.length : Int)
 ·rw [if_pos c3] at H
  have c3b0 : ((l0.length : Int) == (l1.length : Int)) = true := beq_iff_eq.mpr c3
  have c3b1 : ((l0.length : Int) != (l1.length : Int)) = false := bne_eq_false_iff_eq.mpr c3
  have c3b2 : (l0.length == l1.length) = true := by first | simpa using c3 | (simp at c3 ⊢; omega)
  clear c3
  have H' := Aside0.mk H
  clear H
  go_enter Try.func8, Try.ntmps8
  go_wp2
  go_loopg [5] k (fun kq v5 w' => ∃ (x5_1 : Int), v5 = .int .i64 x5_1 ∧ Aside0 (laws_eqEntryS.l0 kq l0 l1 x5_1 = some r) ∧ Aside0 (kq ≤ k) ∧ Aside0 (Below w.heap.size w w'))
  case atStart => exact ⟨(0), tE, H', ⟨Nat.le_refl _⟩, ⟨by repeat (first | (with_reducible first | exact HB.out | apply below_alloc | apply pw_below_drewN | apply below_drew1) | exact HB.out)⟩⟩
  case round =>
   clear H'
   try clear c1
   try clear p2
   try clear c3
   try clear c3b0
   try clear c3b1
   try clear c3b2
   obtain ⟨x5_1, rfl, HA, HK1, HB⟩ := hrel
   cases gk with
   | zero => exact absurd HA.out (by simp [laws_eqEntryS.l0])
   | succ k1 =>
    have H := HA.out
    clear HA
    simp only [laws_eqEntryS.l0] at H
    by_cases c4 : x5_1 < (l0.length : Int)
    ·rw [if_pos c4] at H
     have c4b0 : decide (x5_1 < (l0.length : Int)) = true := decide_eq_true c4
     clear c4
     by_cases c5 : 0 ≤ x5_1
     ·rw [if_pos c5] at H
      have c5b0 : decide (0 ≤ x5_1) = true := decide_eq_true c5
      clear c5
      by_cases c6 : x5_1 < (l1.length : Int)
      ·rw [if_pos c6] at H
       have c6b0 : decide (x5_1 < (l1.length : Int)) = true := decide_eq_true c6
       clear c6
       replace H := Option.bind_eq_some_iff.mp H
       obtain ⟨t208, A70, H⟩ := H
       replace H : (if t208 = true then (laws_eqEntryS.l0 k1 l0 l1 (wrap64 (x5_1 + 1))) else (some false)) = some r := H
       have A7 := Aside0.mk A70
       clear A70
       by_cases c8 : t208 = true
       ·subst c8
        have H1 : (laws_eqEntryS.l0 k1 l0 l1 (wrap64 (x5_1 + 1))) = some r := by rw [if_pos rfl] at H; exact H
        clear H
        have H := H1
        clear H1
        have H' := Aside0.mk H
        clear H
        try go_wp2
        replace HB := Aside0.mk (below_drew1 HB.out)
        have p206 : 0 ≤ (x5_1 : Int) := of_decide_eq_true hE
        have q206 : x5_1 < (l0.length : Int) := of_decide_eq_true hE
        obtain ⟨ad206, A206_1, c206_1, e206, hx206_0, hx206_1, hx206_2, hl206_1, hi206_1⟩ := at_T36 HR0.out x5_1 p206 q206
        have hw206_2 := hx206_2
        have hw206_1 := hx206_1
        have hw206_0 := hx206_0
        cases e206
        replace hx206_0 := (HB.out.cell (World.block_lt_of_cell? w _ hx206_0)).trans hx206_0
        replace hx206_1 := (HB.out.cell (World.block_lt_of_cell? w _ hx206_1)).trans hx206_1
        replace hx206_2 := (HB.out.cell (World.block_lt_of_cell? w _ hx206_2)).trans hx206_2
        have HR206_1 := Aside0.mk hi206_1
        have HC206_1 := Aside0.mk hl206_1
        clear hi206_1 hl206_1
        replace p206 := eq_true p206
        replace q206 := eq_true q206
        have p207 : 0 ≤ (x5_1 : Int) := of_decide_eq_true hE
        have q207 : x5_1 < (l1.length : Int) := of_decide_eq_true hE
        obtain ⟨ad207, A207_1, c207_1, e207, hx207_0, hx207_1, hx207_2, hl207_1, hi207_1⟩ := at_T36 HR1.out x5_1 p207 q207
        have hw207_2 := hx207_2
        have hw207_1 := hx207_1
        have hw207_0 := hx207_0
        cases e207
        replace hx207_0 := (HB.out.cell (World.block_lt_of_cell? w _ hx207_0)).trans hx207_0
        replace hx207_1 := (HB.out.cell (World.block_lt_of_cell? w _ hx207_1)).trans hx207_1
        replace hx207_2 := (HB.out.cell (World.block_lt_of_cell? w _ hx207_2)).trans hx207_2
        have HR207_1 := Aside0.mk hi207_1
        have HC207_1 := Aside0.mk hl207_1
        clear hi207_1 hl207_1
        replace p207 := eq_true p207
        replace q207 := eq_true q207
        refine start_ (n := 10) (S := fun w' => w'.cell? (ad206.add ((x5_1).toNat * 3)) = some (.string ((rd_T36 l0 x5_1).f0)) ∧ w'.cell? ⟨(ad206.add ((x5_1).toNat * 3)).block, (ad206.add ((x5_1).toNat * 3)).off + 1, none⟩ = some (.slice A206_1 ((rd_T36 l0 x5_1).f1).length c206_1) ∧ w'.cell? ⟨(ad206.add ((x5_1).toNat * 3)).block, (ad206.add ((x5_1).toNat * 3)).off + 2, none⟩ = some (.bool ((rd_T36 l0 x5_1).f2)) ∧ w'.cell? (ad207.add ((x5_1).toNat * 3)) = some (.string ((rd_T36 l1 x5_1).f0)) ∧ w'.cell? ⟨(ad207.add ((x5_1).toNat * 3)).block, (ad207.add ((x5_1).toNat * 3)).off + 1, none⟩ = some (.slice A207_1 ((rd_T36 l1 x5_1).f1).length c207_1) ∧ w'.cell? ⟨(ad207.add ((x5_1).toNat * 3)).block, (ad207.add ((x5_1).toNat * 3)).off + 2, none⟩ = some (.bool ((rd_T36 l1 x5_1).f2))) (ds := []) #[false, false, false, false, false, false, false, false, false, false] (by kernel_rfl) rfl rfl ⟨((HB.out.cell (World.block_lt_of_cell? w _ hw206_0)).trans hw206_0), ((HB.out.cell (World.block_lt_of_cell? w _ hw206_1)).trans hw206_1), ((HB.out.cell (World.block_lt_of_cell? w _ hw206_2)).trans hw206_2), ((HB.out.cell (World.block_lt_of_cell? w _ hw207_0)).trans hw207_0), ((HB.out.cell (World.block_lt_of_cell? w _ hw207_1)).trans hw207_1), ((HB.out.cell (World.block_lt_of_cell? w _ hw207_2)).trans hw207_2)⟩ (fun hHeld => ?_); refine with_tabW laws_eqEntryS.tab6 laws_eqEntryS.bits6 (fun HT_ HW_ => ?_)
        generalize wr.drew = w9 at HB HR206_1 HR207_1 hx206_0 hx206_1 hx206_2 hx207_0 hx207_1 hx207_2 hHeld ⊢
        refine pureA 0 17 (bz 10 1) rfl rfl (any_of HT_.out (by kernel_rfl)) ?_
        refine pureA 1 18 (bz 10 3) rfl rfl (any_of HT_.out (by kernel_rfl)) ?_
        refine pureA 2 19 (bz 10 7) rfl rfl (any_of HT_.out (by kernel_rfl)) ?_
        refine pureA 4 21 (bz 10 23) rfl rfl (any_of HT_.out (by kernel_rfl)) ?_
        refine pureA 5 22 (bz 10 55) rfl rfl (any_of HT_.out (by kernel_rfl)) ?_
        refine pureA 6 23 (bz 10 119) rfl rfl (any_of HT_.out (by kernel_rfl)) ?_
        refine takeA 3 20 (bz 10 127) rfl rfl (take_ofW HT_.out HW_.out (by kernel_rfl)) hHeld (by rintro w' ⟨s0, s1, s2, s3, s4, s5⟩; go_simp; with_reducible rfl) ?_
        refine takeA 7 24 (bz 10 255) rfl rfl (take_ofW HT_.out HW_.out (by kernel_rfl)) hHeld (by rintro w' ⟨s0, s1, s2, s3, s4, s5⟩; go_simp; with_reducible rfl) ?_
        refine one_ (i := 8) (N := some 25) (bz 10 511) rfl rfl (one_of HT_.out (by kernel_rfl)) (by decide) (fun K hK => ?_)
        refine goes_ Try.func19 (by kernel_rfl) rfl #[.agg #[.string ((rd_T36 l0 x5_1).f0), .slice A206_1 ((rd_T36 l0 x5_1).f1).length c206_1, .bool ((rd_T36 l0 x5_1).f2)], .agg #[.string ((rd_T36 l1 x5_1).f0), .slice A207_1 ((rd_T36 l1 x5_1).f1).length c207_1, .bool ((rd_T36 l1 x5_1).f2)]] (by rfl) rfl rfl aE ?_
        with_reducible refine (laws_eqEntry.calls k1 ((rd_T36 l0 x5_1).f0) _ _ ((rd_T36 l0 x5_1).f1) ((rd_T36 l0 x5_1).f2) ((rd_T36 l1 x5_1).f0) _ _ ((rd_T36 l1 x5_1).f1) ((rd_T36 l1 x5_1).f2) true _ ?side1 ?side2 ?side3 ?side4 A7.out).mono ?_
        (case side1 => exact cU (Kd.C_below HR206_1.out HB.out))
        (case side2 => exact HC206_1.out)
        (case side3 => exact cU (Kd.C_below HR207_1.out HB.out))
        (case side4 => exact HC207_1.out)
        rintro e w10 ⟨rfl, hb⟩
        refine ⟨_, rfl, ?_⟩
        replace HB := bH (lU) hb
        (try clear hb)
        (try clear hb2)
        (try clear hk)
        (try clear hi)
        refine hK.out _ _ ⟨((HB.out.cell (World.block_lt_of_cell? w _ hw206_0)).trans hw206_0), ((HB.out.cell (World.block_lt_of_cell? w _ hw206_1)).trans hw206_1), ((HB.out.cell (World.block_lt_of_cell? w _ hw206_2)).trans hw206_2), ((HB.out.cell (World.block_lt_of_cell? w _ hw207_0)).trans hw207_0), ((HB.out.cell (World.block_lt_of_cell? w _ hw207_1)).trans hw207_1), ((HB.out.cell (World.block_lt_of_cell? w _ hw207_2)).trans hw207_2)⟩ (fun hHeld => ?_)
        clear hK K
        refine norm_ (a' := ?_) ?_ ?_
        rotate_left
        ·show Act.put _ (some 25) _ = _
         simp only [Act.put, List.setIfInBounds_toArray, List.set_cons_zero, List.set_cons_succ, i64_w, i32_w]
         rfl
        refine pureA 9 26 (bz 10 1023) rfl rfl (any_of HT_.out (by kernel_rfl)) ?_
        refine done_ (done_of HT_.out (by kernel_rfl)) ?_
        try go_wp2
        go_roundg k1
        case measure => have := HK1.out; omega
        case rel => exact ⟨(wrap64 (x5_1 + 1)), tE, H', ⟨by have := HK1.out; omega⟩, ⟨by repeat (first | (with_reducible first | exact HB.out | apply below_alloc | apply pw_below_drewN | apply below_drew1) | exact HB.out)⟩⟩
       ·replace c8 := Bool.eq_false_iff.mpr c8
        subst c8
        have H1 : (some false) = some r := by rw [if_neg (show ¬ (false = true) by decide)] at H; exact H
        clear H
        have H := H1
        clear H1
        obtain rfl := Option.some.inj H
        try go_wp2
        replace HB := Aside0.mk (below_drew1 HB.out)
        have p206 : 0 ≤ (x5_1 : Int) := of_decide_eq_true hE
        have q206 : x5_1 < (l0.length : Int) := of_decide_eq_true hE
        obtain ⟨ad206, A206_1, c206_1, e206, hx206_0, hx206_1, hx206_2, hl206_1, hi206_1⟩ := at_T36 HR0.out x5_1 p206 q206
        have hw206_2 := hx206_2
        have hw206_1 := hx206_1
        have hw206_0 := hx206_0
        cases e206
        replace hx206_0 := (HB.out.cell (World.block_lt_of_cell? w _ hx206_0)).trans hx206_0
        replace hx206_1 := (HB.out.cell (World.block_lt_of_cell? w _ hx206_1)).trans hx206_1
        replace hx206_2 := (HB.out.cell (World.block_lt_of_cell? w _ hx206_2)).trans hx206_2
        have HR206_1 := Aside0.mk hi206_1
        have HC206_1 := Aside0.mk hl206_1
        clear hi206_1 hl206_1
        replace p206 := eq_true p206
        replace q206 := eq_true q206
        have p207 : 0 ≤ (x5_1 : Int) := of_decide_eq_true hE
        have q207 : x5_1 < (l1.length : Int) := of_decide_eq_true hE
        obtain ⟨ad207, A207_1, c207_1, e207, hx207_0, hx207_1, hx207_2, hl207_1, hi207_1⟩ := at_T36 HR1.out x5_1 p207 q207
        have hw207_2 := hx207_2
        have hw207_1 := hx207_1
        have hw207_0 := hx207_0
        cases e207
        replace hx207_0 := (HB.out.cell (World.block_lt_of_cell? w _ hx207_0)).trans hx207_0
        replace hx207_1 := (HB.out.cell (World.block_lt_of_cell? w _ hx207_1)).trans hx207_1
        replace hx207_2 := (HB.out.cell (World.block_lt_of_cell? w _ hx207_2)).trans hx207_2
        have HR207_1 := Aside0.mk hi207_1
        have HC207_1 := Aside0.mk hl207_1
        clear hi207_1 hl207_1
        replace p207 := eq_true p207
        replace q207 := eq_true q207
        refine start_ (n := 10) (S := fun w' => w'.cell? (ad206.add ((x5_1).toNat * 3)) = some (.string ((rd_T36 l0 x5_1).f0)) ∧ w'.cell? ⟨(ad206.add ((x5_1).toNat * 3)).block, (ad206.add ((x5_1).toNat * 3)).off + 1, none⟩ = some (.slice A206_1 ((rd_T36 l0 x5_1).f1).length c206_1) ∧ w'.cell? ⟨(ad206.add ((x5_1).toNat * 3)).block, (ad206.add ((x5_1).toNat * 3)).off + 2, none⟩ = some (.bool ((rd_T36 l0 x5_1).f2)) ∧ w'.cell? (ad207.add ((x5_1).toNat * 3)) = some (.string ((rd_T36 l1 x5_1).f0)) ∧ w'.cell? ⟨(ad207.add ((x5_1).toNat * 3)).block, (ad207.add ((x5_1).toNat * 3)).off + 1, none⟩ = some (.slice A207_1 ((rd_T36 l1 x5_1).f1).length c207_1) ∧ w'.cell? ⟨(ad207.add ((x5_1).toNat * 3)).block, (ad207.add ((x5_1).toNat * 3)).off + 2, none⟩ = some (.bool ((rd_T36 l1 x5_1).f2))) (ds := []) #[false, false, false, false, false, false, false, false, false, false] (by kernel_rfl) rfl rfl ⟨((HB.out.cell (World.block_lt_of_cell? w _ hw206_0)).trans hw206_0), ((HB.out.cell (World.block_lt_of_cell? w _ hw206_1)).trans hw206_1), ((HB.out.cell (World.block_lt_of_cell? w _ hw206_2)).trans hw206_2), ((HB.out.cell (World.block_lt_of_cell? w _ hw207_0)).trans hw207_0), ((HB.out.cell (World.block_lt_of_cell? w _ hw207_1)).trans hw207_1), ((HB.out.cell (World.block_lt_of_cell? w _ hw207_2)).trans hw207_2)⟩ (fun hHeld => ?_); refine with_tabW laws_eqEntryS.tab6 laws_eqEntryS.bits6 (fun HT_ HW_ => ?_)
        generalize wr.drew = w11 at HB HR206_1 HR207_1 hx206_0 hx206_1 hx206_2 hx207_0 hx207_1 hx207_2 hHeld ⊢
        refine pureA 0 17 (bz 10 1) rfl rfl (any_of HT_.out (by kernel_rfl)) ?_
        refine pureA 1 18 (bz 10 3) rfl rfl (any_of HT_.out (by kernel_rfl)) ?_
        refine pureA 2 19 (bz 10 7) rfl rfl (any_of HT_.out (by kernel_rfl)) ?_
        refine pureA 4 21 (bz 10 23) rfl rfl (any_of HT_.out (by kernel_rfl)) ?_
        refine pureA 5 22 (bz 10 55) rfl rfl (any_of HT_.out (by kernel_rfl)) ?_
        refine pureA 6 23 (bz 10 119) rfl rfl (any_of HT_.out (by kernel_rfl)) ?_
        refine takeA 3 20 (bz 10 127) rfl rfl (take_ofW HT_.out HW_.out (by kernel_rfl)) hHeld (by rintro w' ⟨s0, s1, s2, s3, s4, s5⟩; go_simp; with_reducible rfl) ?_
        refine takeA 7 24 (bz 10 255) rfl rfl (take_ofW HT_.out HW_.out (by kernel_rfl)) hHeld (by rintro w' ⟨s0, s1, s2, s3, s4, s5⟩; go_simp; with_reducible rfl) ?_
        refine one_ (i := 8) (N := some 25) (bz 10 511) rfl rfl (one_of HT_.out (by kernel_rfl)) (by decide) (fun K hK => ?_)
        refine goes_ Try.func19 (by kernel_rfl) rfl #[.agg #[.string ((rd_T36 l0 x5_1).f0), .slice A206_1 ((rd_T36 l0 x5_1).f1).length c206_1, .bool ((rd_T36 l0 x5_1).f2)], .agg #[.string ((rd_T36 l1 x5_1).f0), .slice A207_1 ((rd_T36 l1 x5_1).f1).length c207_1, .bool ((rd_T36 l1 x5_1).f2)]] (by rfl) rfl rfl aE ?_
        with_reducible refine (laws_eqEntry.calls k1 ((rd_T36 l0 x5_1).f0) _ _ ((rd_T36 l0 x5_1).f1) ((rd_T36 l0 x5_1).f2) ((rd_T36 l1 x5_1).f0) _ _ ((rd_T36 l1 x5_1).f1) ((rd_T36 l1 x5_1).f2) false _ ?side1 ?side2 ?side3 ?side4 A7.out).mono ?_
        (case side1 => exact cU (Kd.C_below HR206_1.out HB.out))
        (case side2 => exact HC206_1.out)
        (case side3 => exact cU (Kd.C_below HR207_1.out HB.out))
        (case side4 => exact HC207_1.out)
        rintro e w12 ⟨rfl, hb⟩
        refine ⟨_, rfl, ?_⟩
        replace HB := bH (lU) hb
        (try clear hb)
        (try clear hb2)
        (try clear hk)
        (try clear hi)
        refine hK.out _ _ ⟨((HB.out.cell (World.block_lt_of_cell? w _ hw206_0)).trans hw206_0), ((HB.out.cell (World.block_lt_of_cell? w _ hw206_1)).trans hw206_1), ((HB.out.cell (World.block_lt_of_cell? w _ hw206_2)).trans hw206_2), ((HB.out.cell (World.block_lt_of_cell? w _ hw207_0)).trans hw207_0), ((HB.out.cell (World.block_lt_of_cell? w _ hw207_1)).trans hw207_1), ((HB.out.cell (World.block_lt_of_cell? w _ hw207_2)).trans hw207_2)⟩ (fun hHeld => ?_)
        clear hK K
        refine norm_ (a' := ?_) ?_ ?_
        rotate_left
        ·show Act.put _ (some 25) _ = _
         simp only [Act.put, List.setIfInBounds_toArray, List.set_cons_zero, List.set_cons_succ, i64_w, i32_w]
         rfl
        refine pureA 9 26 (bz 10 1023) rfl rfl (any_of HT_.out (by kernel_rfl)) ?_
        refine done_ (done_of HT_.out (by kernel_rfl)) ?_
        try go_wp2
        go_ret
        exact ⟨eE, lU⟩
      ·rw [if_neg c6] at H
       exact absurd H (by simp)
     ·rw [if_neg c5] at H
      exact absurd H (by simp)
    ·rw [if_neg c4] at H
     have c4b0 : decide (x5_1 < (l0.length : Int)) = false := decide_eq_false c4
     clear c4
     obtain rfl := Option.some.inj H
     go_wp2
     go_ret
     exact ⟨eE, lU⟩
 ·rw [if_neg c3] at H
  have c3b0 : ((l0.length : Int) == (l1.length : Int)) = false := beq_eq_false_iff_ne.mpr c3
  have c3b1 : ((l0.length : Int) != (l1.length : Int)) = true := bne_iff_ne.mpr c3
  have c3b2 : (l0.length == l1.length) = false := by first | simpa using c3 | (simp at c3 ⊢; omega)
  obtain rfl := Option.some.inj H
  go_enter Try.func8, Try.ntmps8
  go_wp2
  go_ret
  exact ⟨eE, lU⟩
def laws_FnExactGoodEntries.f (k : Nat) (a0 : ByteArray) (l1 : List (S32)) : Option (Bool) := if (a0.size : Int) > 1048576 then (some true) else ((laws_szEntryS.f k l1 1048576).bind fun t209 => (if t209 < 0 then (some true) else ((laws_toEntryS.f k l1).bind fun t210 => ((spec_GoodEntries.f k a0 t210).bind fun t213 => ((laws_toEntryS.f k l1).bind fun t214 => ((impl_GoodEntries.f k a0 t214).bind fun t217 => (if (t217 != t213) = true then (some false) else ((laws_toEntryS.f k l1).bind fun t218 => ((laws_eqEntryS.f k t214 t218).bind fun t221 => (if t221 = true then (some true) else (some false)))))))))))
theorem laws_FnExactGoodEntries.mono : ∀ a0 a1 k, LeO (laws_FnExactGoodEntries.f k a0 a1) (laws_FnExactGoodEntries.f (k + 1) a0 a1) := by
 intro a0 a1 k
 unfold laws_FnExactGoodEntries.f
 repeat' first
   | (with_reducible exact impl_GoodEntries.mono _ _ _)
   | (with_reducible exact laws_eqEntryS.mono _ _ _)
   | (with_reducible exact laws_szEntryS.mono _ _ _)
   | (with_reducible exact laws_toEntryS.mono _ _)
   | (with_reducible exact spec_GoodEntries.mono _ _ _)
   | (with_reducible first | exact LeO.refl _ | exact LeO.none _ | refine LeO.ite ?_ ?_ | refine LeO.bind ?_ (fun _ => ?_))
   | exact impl_GoodEntries.mono _ _ _
   | exact laws_eqEntryS.mono _ _ _
   | exact laws_szEntryS.mono _ _ _
   | exact laws_toEntryS.mono _ _
   | exact spec_GoodEntries.mono _ _ _ | exact LeO.none _ | refine LeO.ite ?_ ?_ | refine LeO.bind ?_ (fun _ => ?_)
set_option maxHeartbeats 8000000 in
set_option maxRecDepth 100000 in
theorem laws_FnExactGoodEntries.calls (k : Nat) (a0 : ByteArray) (A1 : Option Addr) (c1 : Nat) (l1 : List (S32)) (r : Bool) (w : World) (hr1 : Kd.C k32 w A1 l1.length l1) (hc1 : l1.length ≤ c1) (h : laws_FnExactGoodEntries.f k a0 l1 = some r) :
  Calls Try.prog 3 #[.string a0, .slice A1 l1.length c1] w fun e w' => e = .returned (.bool r) ∧ Below w.heap.size w w' := by
 have HR1 := Aside0.mk hr1
 have HC1 := Aside0.mk hc1
 clear hr1 hc1
 have HB := Aside0.mk (Below.refl w.heap.size w)
 have H : (if (a0.size : Int) > 1048576 then (some true) else ((laws_szEntryS.f k l1 1048576).bind fun t209 => (if t209 < 0 then (some true) else ((laws_toEntryS.f k l1).bind fun t210 => ((spec_GoodEntries.f k a0 t210).bind fun t213 => ((laws_toEntryS.f k l1).bind fun t214 => ((impl_GoodEntries.f k a0 t214).bind fun t217 => (if (t217 != t213) = true then (some false) else ((laws_toEntryS.f k l1).bind fun t218 => ((laws_eqEntryS.f k t214 t218).bind fun t221 => (if t221 = true then (some true) else (some false)))))))))))) = some r := h
 clear h
 by_cases c3 : (a0.size : Int) > 1048576
 ·rw [if_pos c3] at H
  have c3b0 : decide (1048576 < (a0.size : Int)) = true := decide_eq_true c3
  have c3b1 : decide (1048576 < a0.size) = true := decide_eq_true (by omega)
  clear c3
  obtain rfl := Option.some.inj H
  go_enter Try.func3, Try.ntmps3
  go_wp2
  go_ret
  exact ⟨eE, lU⟩
 ·rw [if_neg c3] at H
  have c3b0 : decide (1048576 < (a0.size : Int)) = false := decide_eq_false c3
  have c3b1 : decide (1048576 < a0.size) = false := decide_eq_false (by omega)
  clear c3
  replace H := Option.bind_eq_some_iff.mp H
  obtain ⟨t209, A40, H⟩ := H
  replace H : (if t209 < 0 then (some true) else ((laws_toEntryS.f k l1).bind fun t210 => ((spec_GoodEntries.f k a0 t210).bind fun t213 => ((laws_toEntryS.f k l1).bind fun t214 => ((impl_GoodEntries.f k a0 t214).bind fun t217 => (if (t217 != t213) = true then (some false) else ((laws_toEntryS.f k l1).bind fun t218 => ((laws_eqEntryS.f k t214 t218).bind fun t221 => (if t221 = true then (some true) else (some false)))))))))) = some r := H
  have A4 := Aside0.mk A40
  clear A40
  by_cases c5 : t209 < 0
  ·rw [if_pos c5] at H
   have c5b0 : decide (t209 < 0) = true := decide_eq_true c5
   clear c5
   obtain rfl := Option.some.inj H
   go_enter Try.func3, Try.ntmps3
   go_wp2_with (first | ((with_reducible refine gate_callee (f := 4) rfl ?_); refine goesL_ (some 14) rfl rfl Try.func4 (by kernel_rfl) rfl #[.slice A1 l1.length c1, .int .i64 1048576] rfl aE ?_; (with_reducible refine (laws_szEntryS.calls k _ _ l1 1048576 t209 _ ?side1 ?side2 A4.out).mono ?_); (case side1 => repeat (first | exact HR1.out | (with_reducible refine Kd.C_alloc ?_ _) | (with_reducible refine Kd.C_drewN ?_ _) | (with_reducible refine Kd.C_drew ?_))); (case side2 => exact HC1.out); rintro e w6 ⟨rfl, hb⟩; refine ⟨_, rfl, ?_⟩; replace HB := bH (lU) hb; (try clear hb)))
   go_ret
   exact ⟨eE, lU⟩
  ·rw [if_neg c5] at H
   have c5b0 : decide (t209 < 0) = false := decide_eq_false c5
   clear c5
   replace H := Option.bind_eq_some_iff.mp H
   obtain ⟨t210, A70, H⟩ := H
   replace H : ((spec_GoodEntries.f k a0 t210).bind fun t213 => ((laws_toEntryS.f k l1).bind fun t214 => ((impl_GoodEntries.f k a0 t214).bind fun t217 => (if (t217 != t213) = true then (some false) else ((laws_toEntryS.f k l1).bind fun t218 => ((laws_eqEntryS.f k t214 t218).bind fun t221 => (if t221 = true then (some true) else (some false)))))))) = some r := H
   have A7 := Aside0.mk A70
   clear A70
   replace H := Option.bind_eq_some_iff.mp H
   obtain ⟨t213, A80, H⟩ := H
   replace H : ((laws_toEntryS.f k l1).bind fun t214 => ((impl_GoodEntries.f k a0 t214).bind fun t217 => (if (t217 != t213) = true then (some false) else ((laws_toEntryS.f k l1).bind fun t218 => ((laws_eqEntryS.f k t214 t218).bind fun t221 => (if t221 = true then (some true) else (some false))))))) = some r := H
   have A8 := Aside0.mk A80
   clear A80
   replace H := Option.bind_eq_some_iff.mp H
   obtain ⟨t214, A90, H⟩ := H
   replace H : ((impl_GoodEntries.f k a0 t214).bind fun t217 => (if (t217 != t213) = true then (some false) else ((laws_toEntryS.f k l1).bind fun t218 => ((laws_eqEntryS.f k t214 t218).bind fun t221 => (if t221 = true then (some true) else (some false)))))) = some r := H
   have A9 := Aside0.mk A90
   clear A90
   replace H := Option.bind_eq_some_iff.mp H
   obtain ⟨t217, A100, H⟩ := H
   replace H : (if (t217 != t213) = true then (some false) else ((laws_toEntryS.f k l1).bind fun t218 => ((laws_eqEntryS.f k t214 t218).bind fun t221 => (if t221 = true then (some true) else (some false))))) = some r := H
   have A10 := Aside0.mk A100
   clear A100
   by_cases c11 : (t217 != t213) = true
   ·rw [if_pos c11] at H
    have c11b0 : (t217 != t213) = true := c11
    (try (have c11b1 : decide (t217 = t213) = false := by simpa using c11))
    (try (have c11b2 : (t217 == t213) = false := by simpa using c11))
    (try (have c11b3 : ¬ (t217 = t213) := by simpa using c11))
    clear c11
    obtain rfl := Option.some.inj H
    go_enter Try.func3, Try.ntmps3
    go_wp2_with (first | ((with_reducible refine gate_callee (f := 4) rfl ?_); refine goesL_ (some 14) rfl rfl Try.func4 (by kernel_rfl) rfl #[.slice A1 l1.length c1, .int .i64 1048576] rfl aE ?_; (with_reducible refine (laws_szEntryS.calls k _ _ l1 1048576 t209 _ ?side1 ?side2 A4.out).mono ?_); (case side1 => repeat (first | exact HR1.out | (with_reducible refine Kd.C_alloc ?_ _) | (with_reducible refine Kd.C_drewN ?_ _) | (with_reducible refine Kd.C_drew ?_))); (case side2 => exact HC1.out); rintro e w12 ⟨rfl, hb⟩; refine ⟨_, rfl, ?_⟩; replace HB := bH (lU) hb; (try clear hb)) | ((with_reducible refine gate_callee (f := 6) rfl ?_); refine goesL_ (some 19) rfl rfl Try.func6 (by kernel_rfl) rfl #[.slice A1 l1.length c1] rfl aE ?_; (with_reducible refine (laws_toEntryS.calls k _ _ l1 t210 _ ?side1 ?side2 A7.out).mono ?_); (case side1 => exact cU (Kd.C_below HR1.out HB.out)); (case side2 => exact HC1.out); rintro e w13 ⟨v211, rfl, ho0, hb⟩; refine ⟨_, rfl, ?_⟩; have HO212 := Aside0.mk (Kd.S_lower ho0 (below_size (lU))); replace HB := bH (lU) hb; (try clear hb); (try clear ho0); obtain ⟨Ao14, co14, eo14⟩ := Kd.S_slice HO212.out; subst eo14) | ((with_reducible refine gate_callee (f := 5) rfl ?_); refine goesL_ (some 20) rfl rfl Try.func5 (by kernel_rfl) rfl #[.string a0, .slice Ao14 t210.length co14] rfl aE ?_; (with_reducible refine (spec_GoodEntries.calls k a0 _ _ t210 t213 _ ?side1 ?side2 A8.out).mono ?_); (case side1 => exact cU (Kd.S_reads' HO212.out).2.2); (case side2 => exact (Kd.S_reads' HO212.out).2.1); rintro e w15 ⟨rfl, hb⟩; refine ⟨_, rfl, ?_⟩; replace HO212 := Aside0.mk (Kd.S_below (by (with_reducible repeat (first | apply Kd.S_alloc | apply Kd.S_drewN | apply Kd.S_drew)); exact HO212.out) hb); replace HB := bH (lU) hb; (try clear hb)) | ((with_reducible refine gate_callee (f := 6) rfl ?_); refine goesL_ (some 22) rfl rfl Try.func6 (by kernel_rfl) rfl #[.slice A1 l1.length c1] rfl aE ?_; (with_reducible refine (laws_toEntryS.calls k _ _ l1 t214 _ ?side1 ?side2 A9.out).mono ?_); (case side1 => exact cU (Kd.C_below HR1.out HB.out)); (case side2 => exact HC1.out); rintro e w16 ⟨v215, rfl, ho0, hb⟩; refine ⟨_, rfl, ?_⟩; have HO216 := Aside0.mk (Kd.S_lower (Kd.S_new' ho0 (Kd.S_lt (by (with_reducible repeat (first | apply Kd.S_alloc | apply Kd.S_drewN | apply Kd.S_drew)); exact HO212.out))) (below_size (lU))); replace HO212 := Aside0.mk (Kd.S_elder' (by (with_reducible repeat (first | apply Kd.S_alloc | apply Kd.S_drewN | apply Kd.S_drew)); exact HO212.out) (Kd.S_base ho0) hb); replace HB := bH (lU) hb; (try clear hb); (try clear ho0); obtain ⟨Ao17, co17, eo17⟩ := Kd.S_slice HO216.out; subst eo17) | ((with_reducible refine gate_callee (f := 7) rfl ?_); refine goesL_ (some 25) rfl rfl Try.func7 (by kernel_rfl) rfl #[.string a0, .slice Ao17 t214.length co17] rfl aE ?_; (with_reducible refine (impl_GoodEntries.calls k a0 _ _ t214 t217 _ ?side1 ?side2 A10.out).mono ?_); (case side1 => exact cU (Kd.S_reads' HO216.out).2.2); (case side2 => exact (Kd.S_reads' HO216.out).2.1); rintro e w18 ⟨rfl, hb⟩; refine ⟨_, rfl, ?_⟩; replace HO212 := Aside0.mk (Kd.S_below (by (with_reducible repeat (first | apply Kd.S_alloc | apply Kd.S_drewN | apply Kd.S_drew)); exact HO212.out) hb); replace HO216 := Aside0.mk (Kd.S_below (by (with_reducible repeat (first | apply Kd.S_alloc | apply Kd.S_drewN | apply Kd.S_drew)); exact HO216.out) hb); replace HB := bH (lU) hb; (try clear hb)))
    go_ret
    exact ⟨eE, lU⟩
   ·rw [if_neg c11] at H
    have c11b0 : (t217 != t213) = false := by simpa using c11
    (try (have c11b1 : decide (t217 = t213) = true := by simpa using c11))
    (try (have c11b2 : (t217 == t213) = true := by simpa using c11))
    clear c11
    replace H := Option.bind_eq_some_iff.mp H
    obtain ⟨t218, A190, H⟩ := H
    replace H : ((laws_eqEntryS.f k t214 t218).bind fun t221 => (if t221 = true then (some true) else (some false))) = some r := H
    have A19 := Aside0.mk A190
    clear A190
    replace H := Option.bind_eq_some_iff.mp H
    obtain ⟨t221, A200, H⟩ := H
    replace H : (if t221 = true then (some true) else (some false)) = some r := H
    have A20 := Aside0.mk A200
    clear A200
    by_cases c21 : t221 = true
    ·subst c21
     have H1 : (some true) = some r := by rw [if_pos rfl] at H; exact H
     clear H
     have H := H1
     clear H1
     obtain rfl := Option.some.inj H
     go_enter Try.func3, Try.ntmps3
     go_wp2_with (first | ((with_reducible refine gate_callee (f := 4) rfl ?_); refine goesL_ (some 14) rfl rfl Try.func4 (by kernel_rfl) rfl #[.slice A1 l1.length c1, .int .i64 1048576] rfl aE ?_; (with_reducible refine (laws_szEntryS.calls k _ _ l1 1048576 t209 _ ?side1 ?side2 A4.out).mono ?_); (case side1 => repeat (first | exact HR1.out | (with_reducible refine Kd.C_alloc ?_ _) | (with_reducible refine Kd.C_drewN ?_ _) | (with_reducible refine Kd.C_drew ?_))); (case side2 => exact HC1.out); rintro e w22 ⟨rfl, hb⟩; refine ⟨_, rfl, ?_⟩; replace HB := bH (lU) hb; (try clear hb)) | ((with_reducible refine gate_callee (f := 6) rfl ?_); refine goesL_ (some 19) rfl rfl Try.func6 (by kernel_rfl) rfl #[.slice A1 l1.length c1] rfl aE ?_; (with_reducible refine (laws_toEntryS.calls k _ _ l1 t210 _ ?side1 ?side2 A7.out).mono ?_); (case side1 => exact cU (Kd.C_below HR1.out HB.out)); (case side2 => exact HC1.out); rintro e w23 ⟨v211, rfl, ho0, hb⟩; refine ⟨_, rfl, ?_⟩; have HO212 := Aside0.mk (Kd.S_lower ho0 (below_size (lU))); replace HB := bH (lU) hb; (try clear hb); (try clear ho0); obtain ⟨Ao24, co24, eo24⟩ := Kd.S_slice HO212.out; subst eo24) | ((with_reducible refine gate_callee (f := 5) rfl ?_); refine goesL_ (some 20) rfl rfl Try.func5 (by kernel_rfl) rfl #[.string a0, .slice Ao24 t210.length co24] rfl aE ?_; (with_reducible refine (spec_GoodEntries.calls k a0 _ _ t210 t213 _ ?side1 ?side2 A8.out).mono ?_); (case side1 => exact cU (Kd.S_reads' HO212.out).2.2); (case side2 => exact (Kd.S_reads' HO212.out).2.1); rintro e w25 ⟨rfl, hb⟩; refine ⟨_, rfl, ?_⟩; replace HO212 := Aside0.mk (Kd.S_below (by (with_reducible repeat (first | apply Kd.S_alloc | apply Kd.S_drewN | apply Kd.S_drew)); exact HO212.out) hb); replace HB := bH (lU) hb; (try clear hb)) | ((with_reducible refine gate_callee (f := 6) rfl ?_); refine goesL_ (some 22) rfl rfl Try.func6 (by kernel_rfl) rfl #[.slice A1 l1.length c1] rfl aE ?_; (with_reducible refine (laws_toEntryS.calls k _ _ l1 t214 _ ?side1 ?side2 A9.out).mono ?_); (case side1 => exact cU (Kd.C_below HR1.out HB.out)); (case side2 => exact HC1.out); rintro e w26 ⟨v215, rfl, ho0, hb⟩; refine ⟨_, rfl, ?_⟩; have HO216 := Aside0.mk (Kd.S_lower (Kd.S_new' ho0 (Kd.S_lt (by (with_reducible repeat (first | apply Kd.S_alloc | apply Kd.S_drewN | apply Kd.S_drew)); exact HO212.out))) (below_size (lU))); replace HO212 := Aside0.mk (Kd.S_elder' (by (with_reducible repeat (first | apply Kd.S_alloc | apply Kd.S_drewN | apply Kd.S_drew)); exact HO212.out) (Kd.S_base ho0) hb); replace HB := bH (lU) hb; (try clear hb); (try clear ho0); obtain ⟨Ao27, co27, eo27⟩ := Kd.S_slice HO216.out; subst eo27) | ((with_reducible refine gate_callee (f := 7) rfl ?_); refine goesL_ (some 25) rfl rfl Try.func7 (by kernel_rfl) rfl #[.string a0, .slice Ao27 t214.length co27] rfl aE ?_; (with_reducible refine (impl_GoodEntries.calls k a0 _ _ t214 t217 _ ?side1 ?side2 A10.out).mono ?_); (case side1 => exact cU (Kd.S_reads' HO216.out).2.2); (case side2 => exact (Kd.S_reads' HO216.out).2.1); rintro e w28 ⟨rfl, hb⟩; refine ⟨_, rfl, ?_⟩; replace HO212 := Aside0.mk (Kd.S_below (by (with_reducible repeat (first | apply Kd.S_alloc | apply Kd.S_drewN | apply Kd.S_drew)); exact HO212.out) hb); replace HO216 := Aside0.mk (Kd.S_below (by (with_reducible repeat (first | apply Kd.S_alloc | apply Kd.S_drewN | apply Kd.S_drew)); exact HO216.out) hb); replace HB := bH (lU) hb; (try clear hb)) | ((with_reducible refine gate_callee (f := 6) rfl ?_); refine goesL_ (some 31) rfl rfl Try.func6 (by kernel_rfl) rfl #[.slice A1 l1.length c1] rfl aE ?_; (with_reducible refine (laws_toEntryS.calls k _ _ l1 t218 _ ?side1 ?side2 A19.out).mono ?_); (case side1 => exact cU (Kd.C_below HR1.out HB.out)); (case side2 => exact HC1.out); rintro e w29 ⟨v219, rfl, ho0, hb⟩; refine ⟨_, rfl, ?_⟩; have HO220 := Aside0.mk (Kd.S_lower (Kd.S_new' (Kd.S_new' ho0 (Kd.S_lt (by (with_reducible repeat (first | apply Kd.S_alloc | apply Kd.S_drewN | apply Kd.S_drew)); exact HO212.out))) (Kd.S_lt (by (with_reducible repeat (first | apply Kd.S_alloc | apply Kd.S_drewN | apply Kd.S_drew)); exact HO216.out))) (below_size (lU))); replace HO212 := Aside0.mk (Kd.S_elder' (by (with_reducible repeat (first | apply Kd.S_alloc | apply Kd.S_drewN | apply Kd.S_drew)); exact HO212.out) (Kd.S_base ho0) hb); replace HO216 := Aside0.mk (Kd.S_elder' (by (with_reducible repeat (first | apply Kd.S_alloc | apply Kd.S_drewN | apply Kd.S_drew)); exact HO216.out) (Kd.S_base ho0) hb); replace HB := bH (lU) hb; (try clear hb); (try clear ho0); obtain ⟨Ao30, co30, eo30⟩ := Kd.S_slice HO220.out; subst eo30) | ((with_reducible refine gate_callee (f := 8) rfl ?_); refine goesL_ (some 32) rfl rfl Try.func8 (by kernel_rfl) rfl #[.slice Ao27 t214.length co27, .slice Ao30 t218.length co30] rfl aE ?_; (with_reducible refine (laws_eqEntryS.calls k _ _ t214 _ _ t218 true _ ?side1 ?side2 ?side3 ?side4 A20.out).mono ?_); (case side1 => exact cU (Kd.S_reads' HO216.out).2.2); (case side2 => exact (Kd.S_reads' HO216.out).2.1); (case side3 => exact cU (Kd.S_reads' HO220.out).2.2); (case side4 => exact (Kd.S_reads' HO220.out).2.1); rintro e w31 ⟨rfl, hb⟩; refine ⟨_, rfl, ?_⟩; replace HO212 := Aside0.mk (Kd.S_below (by (with_reducible repeat (first | apply Kd.S_alloc | apply Kd.S_drewN | apply Kd.S_drew)); exact HO212.out) hb); replace HO216 := Aside0.mk (Kd.S_below (by (with_reducible repeat (first | apply Kd.S_alloc | apply Kd.S_drewN | apply Kd.S_drew)); exact HO216.out) hb); replace HO220 := Aside0.mk (Kd.S_below (by (with_reducible repeat (first | apply Kd.S_alloc | apply Kd.S_drewN | apply Kd.S_drew)); exact HO220.out) hb); replace HB := bH (lU) hb; (try clear hb)))
     go_ret
     exact ⟨eE, lU⟩
    ·replace c21 := Bool.eq_false_iff.mpr c21
     subst c21
     have H1 : (some false) = some r := by rw [if_neg (show ¬ (false = true) by decide)] at H; exact H
     clear H
     have H := H1
     clear H1
     obtain rfl := Option.some.inj H
     go_enter Try.func3, Try.ntmps3
     go_wp2_with (first | ((with_reducible refine gate_callee (f := 4) rfl ?_); refine goesL_ (some 14) rfl rfl Try.func4 (by kernel_rfl) rfl #[.slice A1 l1.length c1, .int .i64 1048576] rfl aE ?_; (with_reducible refine (laws_szEntryS.calls k _ _ l1 1048576 t209 _ ?side1 ?side2 A4.out).mono ?_); (case side1 => repeat (first | exact HR1.out | (with_reducible refine Kd.C_alloc ?_ _) | (with_reducible refine Kd.C_drewN ?_ _) | (with_reducible refine Kd.C_drew ?_))); (case side2 => exact HC1.out); rintro e w32 ⟨rfl, hb⟩; refine ⟨_, rfl, ?_⟩; replace HB := bH (lU) hb; (try clear hb)) | ((with_reducible refine gate_callee (f := 6) rfl ?_); refine goesL_ (some 19) rfl rfl Try.func6 (by kernel_rfl) rfl #[.slice A1 l1.length c1] rfl aE ?_; (with_reducible refine (laws_toEntryS.calls k _ _ l1 t210 _ ?side1 ?side2 A7.out).mono ?_); (case side1 => exact cU (Kd.C_below HR1.out HB.out)); (case side2 => exact HC1.out); rintro e w33 ⟨v211, rfl, ho0, hb⟩; refine ⟨_, rfl, ?_⟩; have HO212 := Aside0.mk (Kd.S_lower ho0 (below_size (lU))); replace HB := bH (lU) hb; (try clear hb); (try clear ho0); obtain ⟨Ao34, co34, eo34⟩ := Kd.S_slice HO212.out; subst eo34) | ((with_reducible refine gate_callee (f := 5) rfl ?_); refine goesL_ (some 20) rfl rfl Try.func5 (by kernel_rfl) rfl #[.string a0, .slice Ao34 t210.length co34] rfl aE ?_; (with_reducible refine (spec_GoodEntries.calls k a0 _ _ t210 t213 _ ?side1 ?side2 A8.out).mono ?_); (case side1 => exact cU (Kd.S_reads' HO212.out).2.2); (case side2 => exact (Kd.S_reads' HO212.out).2.1); rintro e w35 ⟨rfl, hb⟩; refine ⟨_, rfl, ?_⟩; replace HO212 := Aside0.mk (Kd.S_below (by (with_reducible repeat (first | apply Kd.S_alloc | apply Kd.S_drewN | apply Kd.S_drew)); exact HO212.out) hb); replace HB := bH (lU) hb; (try clear hb)) | ((with_reducible refine gate_callee (f := 6) rfl ?_); refine goesL_ (some 22) rfl rfl Try.func6 (by kernel_rfl) rfl #[.slice A1 l1.length c1] rfl aE ?_; (with_reducible refine (laws_toEntryS.calls k _ _ l1 t214 _ ?side1 ?side2 A9.out).mono ?_); (case side1 => exact cU (Kd.C_below HR1.out HB.out)); (case side2 => exact HC1.out); rintro e w36 ⟨v215, rfl, ho0, hb⟩; refine ⟨_, rfl, ?_⟩; have HO216 := Aside0.mk (Kd.S_lower (Kd.S_new' ho0 (Kd.S_lt (by (with_reducible repeat (first | apply Kd.S_alloc | apply Kd.S_drewN | apply Kd.S_drew)); exact HO212.out))) (below_size (lU))); replace HO212 := Aside0.mk (Kd.S_elder' (by (with_reducible repeat (first | apply Kd.S_alloc | apply Kd.S_drewN | apply Kd.S_drew)); exact HO212.out) (Kd.S_base ho0) hb); replace HB := bH (lU) hb; (try clear hb); (try clear ho0); obtain ⟨Ao37, co37, eo37⟩ := Kd.S_slice HO216.out; subst eo37) | ((with_reducible refine gate_callee (f := 7) rfl ?_); refine goesL_ (some 25) rfl rfl Try.func7 (by kernel_rfl) rfl #[.string a0, .slice Ao37 t214.length co37] rfl aE ?_; (with_reducible refine (impl_GoodEntries.calls k a0 _ _ t214 t217 _ ?side1 ?side2 A10.out).mono ?_); (case side1 => exact cU (Kd.S_reads' HO216.out).2.2); (case side2 => exact (Kd.S_reads' HO216.out).2.1); rintro e w38 ⟨rfl, hb⟩; refine ⟨_, rfl, ?_⟩; replace HO212 := Aside0.mk (Kd.S_below (by (with_reducible repeat (first | apply Kd.S_alloc | apply Kd.S_drewN | apply Kd.S_drew)); exact HO212.out) hb); replace HO216 := Aside0.mk (Kd.S_below (by (with_reducible repeat (first | apply Kd.S_alloc | apply Kd.S_drewN | apply Kd.S_drew)); exact HO216.out) hb); replace HB := bH (lU) hb; (try clear hb)) | ((with_reducible refine gate_callee (f := 6) rfl ?_); refine goesL_ (some 31) rfl rfl Try.func6 (by kernel_rfl) rfl #[.slice A1 l1.length c1] rfl aE ?_; (with_reducible refine (laws_toEntryS.calls k _ _ l1 t218 _ ?side1 ?side2 A19.out).mono ?_); (case side1 => exact cU (Kd.C_below HR1.out HB.out)); (case side2 => exact HC1.out); rintro e w39 ⟨v219, rfl, ho0, hb⟩; refine ⟨_, rfl, ?_⟩; have HO220 := Aside0.mk (Kd.S_lower (Kd.S_new' (Kd.S_new' ho0 (Kd.S_lt (by (with_reducible repeat (first | apply Kd.S_alloc | apply Kd.S_drewN | apply Kd.S_drew)); exact HO212.out))) (Kd.S_lt (by (with_reducible repeat (first | apply Kd.S_alloc | apply Kd.S_drewN | apply Kd.S_drew)); exact HO216.out))) (below_size (lU))); replace HO212 := Aside0.mk (Kd.S_elder' (by (with_reducible repeat (first | apply Kd.S_alloc | apply Kd.S_drewN | apply Kd.S_drew)); exact HO212.out) (Kd.S_base ho0) hb); replace HO216 := Aside0.mk (Kd.S_elder' (by (with_reducible repeat (first | apply Kd.S_alloc | apply Kd.S_drewN | apply Kd.S_drew)); exact HO216.out) (Kd.S_base ho0) hb); replace HB := bH (lU) hb; (try clear hb); (try clear ho0); obtain ⟨Ao40, co40, eo40⟩ := Kd.S_slice HO220.out; subst eo40) | ((with_reducible refine gate_callee (f := 8) rfl ?_); refine goesL_ (some 32) rfl rfl Try.func8 (by kernel_rfl) rfl #[.slice Ao37 t214.length co37, .slice Ao40 t218.length co40] rfl aE ?_; (with_reducible refine (laws_eqEntryS.calls k _ _ t214 _ _ t218 false _ ?side1 ?side2 ?side3 ?side4 A20.out).mono ?_); (case side1 => exact cU (Kd.S_reads' HO216.out).2.2); (case side2 => exact (Kd.S_reads' HO216.out).2.1); (case side3 => exact cU (Kd.S_reads' HO220.out).2.2); (case side4 => exact (Kd.S_reads' HO220.out).2.1); rintro e w41 ⟨rfl, hb⟩; refine ⟨_, rfl, ?_⟩; replace HO212 := Aside0.mk (Kd.S_below (by (with_reducible repeat (first | apply Kd.S_alloc | apply Kd.S_drewN | apply Kd.S_drew)); exact HO212.out) hb); replace HO216 := Aside0.mk (Kd.S_below (by (with_reducible repeat (first | apply Kd.S_alloc | apply Kd.S_drewN | apply Kd.S_drew)); exact HO216.out) hb); replace HO220 := Aside0.mk (Kd.S_below (by (with_reducible repeat (first | apply Kd.S_alloc | apply Kd.S_drewN | apply Kd.S_drew)); exact HO220.out) hb); replace HB := bH (lU) hb; (try clear hb)))
     go_ret
     exact ⟨eE, lU⟩
end Go.Proofs.Ytnacjhgpanedoac.PFnExactGoodEntries
namespace Go.Proofs.YtnacjhgpanedoacO
open Go.ChangeShapes Go.WideShapes Go.Proofs.YtnacjhgpanedoacW.PrintWords Go.RowKit
def Opens {α : Type} (P : Program) (t : TypeId) (d : Kd α) (g : α → Prop) : Prop :=
  ∀ {H : Type} (enc : TypeId × Value → H) (w : World) (fuel : Nat) (cs : List Value) (y : DataW H) (ps : List MemPlace),
    DataW.trod enc P w 0 (fun _ => true) true fuel t cs = some (y, ps) → (∀ n ∈ y.weights P t, n ≤ reachBytes) → ∃ x, d.K w x cs ∧ g x
theorem Opens.imp {α : Type} {P : Program} {t : TypeId} {d : Kd α} {g g' : α → Prop} (h : Opens P t d g) (k : ∀ x, g x → g' x) : Opens P t d g' := by
  intro H enc w fuel cs y ps ht hw
  obtain ⟨x, hx, hg⟩ := h enc w fuel cs y ps ht hw
  exact ⟨x, hx, k x hg⟩
theorem opens_bool {P : Program} {t : TypeId} (ht : P.underlying t = some .bool) : Opens P t Kd.bool (fun _ => True) := by
  intro H enc w fuel cs y ps h _
  obtain ⟨b, rfl, _⟩ := DataW.trod_bool ht h
  exact ⟨b, rfl, trivial⟩
theorem opens_string {P : Program} {t : TypeId} (ht : P.underlying t = some .string) : Opens P t Kd.string (fun s => s.size ≤ 140737488351232) := by
  intro H enc w fuel cs y ps h hw
  obtain ⟨s, rfl, hx, _⟩ := DataW.trod_string ht h
  obtain ⟨rfl, _⟩ := Prod.mk.inj hx
  refine ⟨s, rfl, ?_⟩
  have := hw s.data.toList.length (by simp [DataW.weights])
  rw [Array.length_toList] at this
  exact this
theorem exists_list {α : Type} (p : Nat → α → Prop) : ∀ n : Nat, (∀ i, i < n → ∃ x, p i x) → ∃ xs : List α, xs.length = n ∧ ∀ i x, xs[i]? = some x → p i x
  | 0, _ => ⟨[], rfl, fun i x h => by simp at h⟩
  | n + 1, h => by
    obtain ⟨xs, hl, hx⟩ := exists_list p n (fun i hi => h i (by omega))
    obtain ⟨x, hp⟩ := h n (by omega)
    refine ⟨xs ++ [x], by simp [hl], fun i y hy => ?_⟩
    rcases Nat.lt_or_ge i xs.length with hi | hi
    · rw [List.getElem?_append_left hi] at hy
      exact hx i y hy
    · have : i = n := by
        have := (List.getElem?_eq_some_iff.1 hy).1
        rw [List.length_append, List.length_singleton] at this
        omega
      subst this
      rw [List.getElem?_append_right hi] at hy
      rw [hl] at hy
      simp at hy
      subst hy
      exact hp
theorem add_add (ad : Addr) (i j : Nat) : (ad.add i).add j = ad.add (i + j) := by
  unfold Addr.add
  by_cases h1 : i = 0 <;> by_cases h2 : j = 0 <;> simp [h1, h2, Nat.add_assoc]
theorem weightsAll_mem {H : Type} {P : Program} {e : TypeId} : ∀ {l : List (DataW H)} {d : DataW H}, d ∈ l → ∀ n ∈ d.weights P e, n ∈ DataW.weightsAll P e l
  | [], d, h, _, _ => by simp at h
  | x :: r, d, h, n, hn => by
    simp only [DataW.weightsAll, List.mem_append]
    rcases List.mem_cons.1 h with rfl | h
    · exact .inl hn
    · exact .inr (weightsAll_mem h n hn)
theorem opens_slice {α : Type} {P : Program} {t e : TypeId} {d : Kd α} {g : α → Prop} {B : Nat} (ht : P.underlying t = some (.slice e)) (hs : P.cellsOf e = d.sz) (hB : P.bytesOf e = B) (h : Opens P e d g) :
    Opens P t (Kd.slice e d) (fun xs => xs.length * B ≤ 140737488351232 ∧ ∀ x ∈ xs, g x) := by
  intro H enc w fuel cs y ps hy hw
  rcases DataW.trod_slice ht hy with ⟨rfl, _⟩ | ⟨a, len, cap, elems, rest, n, rfl, rfl, hx, _, hlc, hcm, hel, hget, _, _⟩
  · exact ⟨[], ⟨none, 0, rfl, Nat.le_refl _, Kd.C_nil d w⟩, by simp⟩
  · obtain ⟨rfl, _⟩ := Prod.mk.inj hx
    simp only [DataW.weights, ht] at hw
    have hlen : len * B ≤ 140737488351232 := by
      have := hw _ List.mem_cons_self
      simp only [List.length_map, hB] at this
      have h2 : len * B ≤ (elems.length + rest.length) * B := Nat.mul_le_mul_right _ (by omega)
      exact Nat.le_trans h2 this
    have key : ∀ i, i < len → ∃ x, (∃ c, c.length = d.sz ∧ d.K w x c ∧ ∀ j u, c[j]? = some u → w.cell? (a.add (i * d.sz + j)) = some u) ∧ g x := by
      intro i hi
      have hg := hget i hi
      rw [List.getElem?_eq_getElem (by omega), Option.bind_eq_some_iff] at hg
      obtain ⟨c, hc, hd⟩ := hg
      obtain ⟨_, hcl, hcell⟩ := World.cells?_some hc
      obtain ⟨x, hK, hgx⟩ := h enc w n c _ _ hd (fun m hm => hw m (List.mem_cons_of_mem _ (List.mem_append_left _ (weightsAll_mem (List.mem_map_of_mem (List.getElem_mem _)) m hm))))
      refine ⟨x, ⟨c, hcl.trans hs, hK, fun j u hj => ?_⟩, hgx⟩
      have hjl : j < P.cellsOf e := by
        have := (List.getElem?_eq_some_iff.1 hj).1
        omega
      have := hcell j hjl
      rw [add_add, hj, hs] at this
      exact this
    obtain ⟨xs, hxl, hxs⟩ := exists_list _ len key
    refine ⟨xs, ⟨some a, cap, by rw [hxl], by omega, hxl ▸ ⟨hxl, by simp only [maxLen] at hcm; omega, fun _ => ⟨a, rfl, fun j p hp => (hxs j p hp).1⟩⟩⟩, by rw [hxl]; exact hlen, fun x hx => ?_⟩
    obtain ⟨i, hi, rfl⟩ := List.getElem_of_mem hx
    exact (hxs i _ (List.getElem?_eq_getElem hi)).2
theorem opens_iso {α β : Type} {P : Program} {t : TypeId} {d : Kd α} {g : α → Prop} (f : β → α) (inv : α → β) (hi : ∀ x, f (inv x) = x) (h : Opens P t d g) : Opens P t (Kd.iso d f) (fun x => g (f x)) := by
  intro H enc w fuel cs y ps hy hw
  obtain ⟨x, hK, hg⟩ := h enc w fuel cs y ps hy hw
  refine ⟨inv x, ?_, ?_⟩
  · show d.K w (f (inv x)) cs
    rw [hi]; exact hK
  · show g (f (inv x))
    rw [hi]; exact hg
def OpensL {α : Type} (P : Program) (fs : List Field) (off : Nat) (d : Kd α) (g : α → Prop) : Prop :=
  ∀ {H : Type} (enc : TypeId × Value → H) (w : World) (n : Nat) (cs : List Value) (ys : List (DataW H × List MemPlace)), ys.length = fs.length →
    (∀ (i : Nat) (f : Field), fs[i]? = some f → DataW.trod enc P w 0 (fun _ => true) true n f.type ((cs.drop f.offset).take (P.cellsOf f.type)) = ys[i]?) →
    (∀ m ∈ DataW.weightsEach P (fs.map (·.type)) (ys.map (·.1)), m ≤ reachBytes) → ∃ x, d.K w x ((cs.drop off).take d.sz) ∧ g x
theorem opensL_one {α : Type} {P : Program} {f : Field} {off : Nat} {d : Kd α} {g : α → Prop} (ho : f.offset = off) (hs : P.cellsOf f.type = d.sz) (h : Opens P f.type d g) : OpensL P [f] off d g := by
  intro H enc w n cs ys hl hf hw
  match ys, hl with
  | [y], _ =>
    have h0 := hf 0 f rfl
    rw [ho, hs] at h0
    exact h enc w n _ y.1 y.2 h0 (fun m hm => hw m (by simp only [List.map_cons, DataW.weightsEach, List.mem_append]; exact .inl hm))
theorem opensL_cons {α β : Type} {P : Program} {f : Field} {fs : List Field} {off : Nat} {a : Kd α} {b : Kd β} {ga : α → Prop} {gb : β → Prop} (ho : f.offset = off) (hs : P.cellsOf f.type = a.sz) (h : Opens P f.type a ga) (hr : OpensL P fs (off + a.sz) b gb) :
    OpensL P (f :: fs) off (Kd.pair a b) (fun x => ga x.1 ∧ gb x.2) := by
  intro H enc w n cs ys hl hf hw
  match ys, hl with
  | y :: ys, hl =>
    have h0 := hf 0 f rfl
    rw [ho, hs] at h0
    obtain ⟨x, hx, hgx⟩ := h enc w n _ y.1 y.2 h0 (fun m hm => hw m (by simp only [List.map_cons, DataW.weightsEach, List.mem_append]; exact .inl hm))
    obtain ⟨x', hx', hgx'⟩ := hr enc w n cs ys (by simpa using hl) (fun i f' hf' => by have := hf (i + 1) f' (by simpa using hf'); simpa using this) (fun m hm => hw m (by simp only [List.map_cons, DataW.weightsEach, List.mem_append]; exact .inr hm))
    refine ⟨(x, x'), ⟨_, _, ?_, hx, hx'⟩, hgx, hgx'⟩
    show (cs.drop off).take (a.sz + b.sz) = _
    rw [List.take_add, List.drop_drop]
theorem opens_struct {α : Type} {P : Program} {t : TypeId} {fs : Array Field} {d : Kd α} {g : α → Prop} (ht : P.underlying t = some (.struct fs)) (hs : P.cellsOf t = d.sz) (h : OpensL P fs.toList 0 d g) : Opens P t d g := by
  intro H enc w fuel cs y ps hy hw
  obtain ⟨xs, n, rfl, hx, hl, hxl, hget⟩ := DataW.trod_struct ht hy
  obtain ⟨rfl, _⟩ := Prod.mk.inj hx
  simp only [DataW.weights, ht] at hw
  obtain ⟨x, hK, hg⟩ := h enc w n cs xs (by simpa using hxl) (fun i f hf => hget i f (by simpa using hf)) (by simpa using hw)
  rw [List.drop_zero, List.take_of_length_le (by omega)] at hK
  exact ⟨x, hK, hg⟩
theorem weights_of {H : Type} {P : Program} {ts : List TypeId} {ds : List (DataW H)} {j : Nat} {t : TypeId} {d : DataW H} (hsz : (DataW.weightsEach P ts ds).all (· ≤ reachBytes) = true) (ht : ts[j]? = some t) (hd : ds[j]? = some d) : ∀ n ∈ d.weights P t, n ≤ reachBytes := by
  intro n hn
  have := List.all_eq_true.1 hsz n (DataW.weights_mem_each ht hd n hn)
  simpa using this
theorem open_slice {α H : Type} {enc : TypeId × Value → H} {P : Program} {W : World} {t e : TypeId} {d : Kd α} {g : List α → Prop} {a : Option Addr} {len cap : Nat} {y : DataW H} {ps : List MemPlace} (h : Opens P t (Kd.slice e d) g)
    (hy : DataW.Trod enc P W 0 (fun _ => true) true t (.slice a len cap) y ps) (hw : ∀ n ∈ y.weights P t, n ≤ reachBytes) : ∃ xs : List α, len = xs.length ∧ xs.length ≤ cap ∧ d.C W a xs.length xs ∧ g xs := by
  obtain ⟨fuel, hf⟩ := hy
  obtain ⟨xs, ⟨A, c, he, hl, hC⟩, hg⟩ := h enc W fuel _ y ps hf hw
  have he' : Value.slice a len cap = .slice A xs.length c := by simpa [Value.cells] using he
  injection he' with h1 h2 h3
  subst h1 h2 h3
  exact ⟨xs, rfl, hl, hC, hg⟩
end Go.Proofs.YtnacjhgpanedoacO
namespace Go.Proofs.Ytnacjhgpanedoac.OFnExactGoodEntries
open Go.RowKit Go.Proofs.Ytnacjhgpanedoac.PFnExactGoodEntries Go.Proofs.YtnacjhgpanedoacW.PrintWords Go.Proofs.YtnacjhgpanedoacO
def Ok32 (x : S32) : Prop := (x.f0.size ≤ 140737488351232) ∧ (x.f1.length * 16 ≤ 140737488351232 ∧ ∀ y ∈ x.f1, y.size ≤ 140737488351232)
theorem opens32 : Opens Try.prog 32 k32 Ok32 :=
  Opens.imp (opens_iso _ (fun x => (⟨x.1, x.2.1, x.2.2⟩ : S32)) (fun _ => rfl) (opens_struct Try.underlying32 (by kernel_rfl) (opensL_cons rfl (by kernel_rfl) (opens_string Try.underlying9) (opensL_cons rfl (by kernel_rfl) (opens_slice Try.underlying30 (by kernel_rfl) (B := 16) (by kernel_rfl) (opens_string Try.underlying9)) (opensL_one rfl (by kernel_rfl) (opens_bool Try.underlying4)))))) fun x h => by
    obtain ⟨h0, h1, h2⟩ := h
    exact ⟨h0, h1⟩
end Go.Proofs.Ytnacjhgpanedoac.OFnExactGoodEntries
namespace Go.Proofs.YtnacjhgpanedoacO
open Go.RowKit Go.Proofs.YtnacjhgpanedoacW.PrintWords Go.Proofs.YtnacjhgpanedoacW.PrintLast Go.Proofs.YtnacjhgpanedoacW.PrintMore
theorem w64 {n : Int} (h : -9223372036854775808 ≤ n) (k : n ≤ 9223372036854775807) : wrap64 n = n := by unfold wrap64; omega
theorem w64s (i : Nat) (h : i < 4611686018427387904) : wrap64 ((i : Int) + 1) = ((i + 1 : Nat) : Int) := by unfold wrap64; omega
theorem ev_some {α : Type} {x r : α} (h : x = r) : Ev (fun _ => some x) r := ⟨0, fun _ _ => by rw [h]⟩
theorem ev_pos {α : Type} {c : Prop} [Decidable c] {f g : Nat → Option α} {r : α} (h : c) (k : Ev f r) : Ev (fun n => if c then f n else g n) r := by
  obtain ⟨K, hK⟩ := k
  exact ⟨K, fun n hn => (if_pos h).trans (hK n hn)⟩
theorem ev_neg {α : Type} {c : Prop} [Decidable c] {f g : Nat → Option α} {r : α} (h : ¬ c) (k : Ev g r) : Ev (fun n => if c then f n else g n) r := by
  obtain ⟨K, hK⟩ := k
  exact ⟨K, fun n hn => (if_neg h).trans (hK n hn)⟩
theorem ev_ite {α : Type} {c : Prop} [Decidable c] {f g : Nat → Option α} {r : α} (h : c → Ev f r) (k : ¬ c → Ev g r) : Ev (fun n => if c then f n else g n) r := by
  by_cases hc : c
  · exact ev_pos hc (h hc)
  · exact ev_neg hc (k hc)
theorem ev_bindc {α β : Type} {x : Option α} {f : Nat → α → Option β} {a : α} {r : β} (h : x = some a) (k : Ev (fun n => f n a) r) : Ev (fun n => x.bind (f n)) r := by
  subst h; exact k
theorem ev_for {σ ρ : Type} (n : Nat) (L : Nat → Nat → σ → Option ρ) (I : Nat → σ → Prop) (Q : ρ → Prop)
    (hend : ∀ s, I n s → ∃ r, Ev (fun k => L k n s) r ∧ Q r)
    (hstep : ∀ i s, i < n → I i s → (∃ r, Ev (fun k => L k i s) r ∧ Q r) ∨ ∃ s', I (i + 1) s' ∧ ∀ r, Ev (fun k => L k (i + 1) s') r → Ev (fun k => L k i s) r) :
    ∀ i s, i ≤ n → I i s → ∃ r, Ev (fun k => L k i s) r ∧ Q r := by
  have key : ∀ d i s, i + d = n → I i s → ∃ r, Ev (fun k => L k i s) r ∧ Q r := by
    intro d
    induction d with
    | zero => intro i s hi h; obtain rfl : i = n := by omega
              exact hend s h
    | succ d ih =>
      intro i s hi h
      rcases hstep i s (by omega) h with h' | ⟨s', hI, hr⟩
      · exact h'
      · obtain ⟨r, hr', hQ⟩ := ih (i + 1) s' (by omega) hI
        exact ⟨r, hr r hr', hQ⟩
  intro i s hi h
  exact key (n - i) i s (by omega) h
theorem ev_for1 {σ ρ : Type} (n : Nat) (L : Nat → Nat → σ → Option ρ) (I : Nat → σ → Prop) (a : ρ)
    (hend : ∀ s, I n s → Ev (fun k => L k n s) a)
    (hstep : ∀ i s, i < n → I i s → Ev (fun k => L k i s) a ∨ ∃ s', I (i + 1) s' ∧ ∀ r, Ev (fun k => L k (i + 1) s') r → Ev (fun k => L k i s) r) :
    ∀ i s, i ≤ n → I i s → Ev (fun k => L k i s) a := by
  intro i s hi h
  obtain ⟨r, hr, rfl⟩ := ev_for n L I (fun r => r = a) (fun s hs => ⟨a, hend s hs, rfl⟩) (fun i s hi hs => (hstep i s hi hs).imp (fun h => ⟨a, h, rfl⟩) id) i s hi h
  exact hr
theorem rdOf_get {α : Type} {d : α} {xs : List α} {i : Nat} (h : i < xs.length) : rdOf d xs (i : Int) = xs[i] := by simp [rdOf, List.getD_eq_getElem?_getD, h]
theorem getD_get {α : Type} {d : α} {xs : List α} {i : Nat} (h : i < xs.length) : xs.getD (i : Int).toNat d = xs[i] := by simp [List.getD_eq_getElem?_getD, h]
theorem ev_copy {α β : Type} (L : Nat → List α → List β → Int → Option (List β)) (e : Nat → List α → Int → Option β) (g : α → β)
    (hL : ∀ k xs ys i, L (k + 1) xs ys i = if i < (xs.length : Int) then (if 0 ≤ i then (if i < (ys.length : Int) then ((e k xs i).bind fun v => L k xs (ys.set (i : Int).toNat v) (wrap64 (i + 1))) else none) else none) else some ys)
    (xs : List α) (hx : xs.length < 4611686018427387904) (he : ∀ i : Nat, ∀ h : i < xs.length, Ev (fun k => e k xs (i : Int)) (g xs[i])) (ys : List β) (hy : ys.length = xs.length) :
    Ev (fun k => L k xs ys 0) (xs.map g) := by
  refine ev_for1 xs.length (fun k i ys => L k xs ys (i : Int)) (fun i ys => ys.length = xs.length ∧ ∀ j, j < i → ys[j]? = (xs.map g)[j]?) (xs.map g) ?_ ?_ 0 ys (Nat.zero_le _) ⟨hy, fun j hj => by omega⟩
  · intro ys ⟨hl, h⟩
    refine Ev.step (fun k => hL k xs ys _) (ev_neg (by omega) (ev_some ?_))
    apply List.ext_getElem?
    intro j
    rcases Nat.lt_or_ge j xs.length with hj | hj
    · exact h j hj
    · rw [List.getElem?_eq_none (by omega), List.getElem?_eq_none (by simpa using hj)]
  · intro i ys hi ⟨hl, h⟩
    refine .inr ⟨ys.set i (g xs[i]), ⟨by simpa using hl, fun j hj => ?_⟩, fun r hr => ?_⟩
    · rcases Nat.lt_or_ge j i with hji | hji
      · rw [List.getElem?_set_ne (by omega)]
        exact h j hji
      · obtain rfl : j = i := by omega
        rw [List.getElem?_set_self (by omega), List.getElem?_map, List.getElem?_eq_getElem hi]
        rfl
    · refine Ev.step (fun k => hL k xs ys _) (ev_pos (by omega) (ev_pos (by omega) (ev_pos (by omega) (Ev.bind (he i hi) ?_))))
      rw [w64s i (by omega)]
      exact hr
theorem ev_alike {α β : Type} (L : Nat → List α → List β → Int → Option Bool) (e : Nat → List α → List β → Int → Option Bool) (g : α → β → Bool)
    (hL : ∀ k xs ys i, L (k + 1) xs ys i = if i < (xs.length : Int) then (if 0 ≤ i then (if i < (ys.length : Int) then ((e k xs ys i).bind fun v => if v = true then L k xs ys (wrap64 (i + 1)) else some false) else none) else none) else some true)
    (xs : List α) (ys : List β) (hx : xs.length < 4611686018427387904) (hy : ys.length = xs.length) (he : ∀ i : Nat, ∀ (h : i < xs.length) (h' : i < ys.length), Ev (fun k => e k xs ys (i : Int)) (g xs[i] ys[i]))
    (b : Bool) (hb : b = true ↔ ∀ i : Nat, ∀ (h : i < xs.length) (h' : i < ys.length), g xs[i] ys[i] = true) :
    Ev (fun k => L k xs ys 0) b := by
  refine ev_for1 xs.length (fun k i (_ : Unit) => L k xs ys (i : Int)) (fun i _ => ∀ j, j < i → ∀ (h : j < xs.length) (h' : j < ys.length), g xs[j] ys[j] = true) b ?_ ?_ 0 () (Nat.zero_le _) (fun j hj => by omega)
  · intro _ h
    refine Ev.step (fun k => hL k xs ys _) (ev_neg (by omega) (ev_some ?_))
    exact (hb.2 fun i hi hi' => h i hi hi hi').symm
  · intro i _ hi h
    have hi' : i < ys.length := by omega
    by_cases hg : g xs[i] ys[i] = true
    · refine .inr ⟨(), fun j hj h1 h2 => ?_, fun r hr => ?_⟩
      · rcases Nat.lt_or_ge j i with hji | hji
        · exact h j hji h1 h2
        · obtain rfl : j = i := by omega
          exact hg
      · refine Ev.step (fun k => hL k xs ys _) (ev_pos (by omega) (ev_pos (by omega) (ev_pos (by omega) (Ev.bind (he i hi hi') (ev_pos hg ?_)))))
        rw [w64s i (by omega)]
        exact hr
    · refine .inl (Ev.step (fun k => hL k xs ys _) (ev_pos (by omega) (ev_pos (by omega) (ev_pos (by omega) (Ev.bind (he i hi hi') (ev_neg hg (ev_some ?_)))))))
      cases b with
      | false => rfl
      | true => exact absurd (hb.1 rfl i hi hi') hg
theorem ev_alike_self {α : Type} (L : Nat → List α → List α → Int → Option Bool) (e : Nat → List α → List α → Int → Option Bool)
    (hL : ∀ k xs ys i, L (k + 1) xs ys i = if i < (xs.length : Int) then (if 0 ≤ i then (if i < (ys.length : Int) then ((e k xs ys i).bind fun v => if v = true then L k xs ys (wrap64 (i + 1)) else some false) else none) else none) else some true)
    (xs : List α) (hx : xs.length < 4611686018427387904) (he : ∀ i : Nat, ∀ (_ : i < xs.length), Ev (fun k => e k xs xs (i : Int)) true) :
    Ev (fun k => L k xs xs 0) true :=
  ev_alike L e (fun _ _ => true) hL xs xs hx rfl (fun i h _ => he i h) true ⟨fun _ _ _ _ => rfl, fun _ => rfl⟩
theorem bool_of (P : Prop) : ∃ b : Bool, b = true ↔ P := ⟨@decide P (Classical.propDecidable P), by simp⟩
theorem bool_false {P : Prop} {b : Bool} (h : b = true ↔ P) (k : ¬ P) : b = false := by
  cases b with
  | false => rfl
  | true => exact absurd (h.1 rfl) k
theorem ev_all (n : Nat) (L : Nat → Nat → Option Bool) (ok : Nat → Prop) (e b : Bool) (hb : b = true ↔ e = true ∧ ∀ i, i < n → ok i) (hend : Ev (fun k => L k n) e)
    (hyes : ∀ i, i < n → (∀ j, j < i → ok j) → ok i → ∀ r, Ev (fun k => L k (i + 1)) r → Ev (fun k => L k i) r) (hno : ∀ i, i < n → (∀ j, j < i → ok j) → ¬ ok i → Ev (fun k => L k i) false) : Ev (fun k => L k 0) b := by
  refine ev_for1 n (fun k i (_ : Unit) => L k i) (fun i _ => ∀ j, j < i → ok j) b ?_ ?_ 0 () (Nat.zero_le _) (fun j hj => by omega)
  · intro _ h
    have : b = e := by
      cases e with
      | false => exact bool_false hb (fun h => by simp at h)
      | true => exact hb.2 ⟨rfl, h⟩
    rw [this]
    exact hend
  · intro i _ hi h
    by_cases ho : ok i
    · refine .inr ⟨(), fun j hj => ?_, hyes i hi h ho⟩
      rcases Nat.lt_or_ge j i with h1 | h1
      · exact h j h1
      · obtain rfl : j = i := by omega
        exact ho
    · have : b = false := bool_false hb (fun h => ho (h.2 i hi))
      rw [this]
      exact .inl (hno i hi h ho)
theorem ev_index {α : Type} (L : Nat → List α → Int → Int → Option Int) (p : Nat → List α → Int → Option Bool)
    (hL : ∀ k xs n i, L (k + 1) xs n i = if i < n then (if 0 ≤ i then (if i < (xs.length : Int) then ((p k xs i).bind fun t => if t = true then some i else L k xs n (wrap64 (i + 1))) else none) else none) else some (-1))
    (xs : List α) (hx : xs.length < 4611686018427387904) (P : Nat → Bool) (he : ∀ i : Nat, i < xs.length → Ev (fun k => p k xs (i : Int)) (P i)) :
    ∃ r, Ev (fun k => L k xs (xs.length : Int) 0) r ∧ ((r = -1 ∧ ∀ i, i < xs.length → P i = false) ∨ ∃ i : Nat, i < xs.length ∧ r = (i : Int) ∧ P i = true ∧ ∀ j, j < i → P j = false) := by
  refine ev_for xs.length (fun k i (_ : Unit) => L k xs (xs.length : Int) (i : Int)) (fun i _ => ∀ j, j < i → P j = false) (fun r => (r = -1 ∧ ∀ i, i < xs.length → P i = false) ∨ ∃ i : Nat, i < xs.length ∧ r = (i : Int) ∧ P i = true ∧ ∀ j, j < i → P j = false) ?_ ?_ 0 () (Nat.zero_le _) (fun j hj => by omega)
  · intro _ h
    exact ⟨-1, Ev.step (fun k => hL k xs _ _) (ev_neg (by omega) (ev_some rfl)), .inl ⟨rfl, h⟩⟩
  · intro i _ hi h
    cases hP : P i with
    | true =>
      refine .inl ⟨(i : Int), Ev.step (fun k => hL k xs _ _) (ev_pos (by omega) (ev_pos (by omega) (ev_pos (by omega) (Ev.bind (he i hi) (ev_pos hP (ev_some rfl)))))), .inr ⟨i, hi, rfl, hP, h⟩⟩
    | false =>
      refine .inr ⟨(), fun j hj => ?_, fun r hr => Ev.step (fun k => hL k xs _ _) (ev_pos (by omega) (ev_pos (by omega) (ev_pos (by omega) (Ev.bind (he i hi) (ev_neg (by rw [hP]; decide) ?_)))))⟩
      · rcases Nat.lt_or_ge j i with h1 | h1
        · exact h j h1
        · obtain rfl : j = i := by omega
          exact hP
      · rw [w64s i (by omega)]
        exact hr
theorem ev_contains {α : Type} (L : Nat → List α → Int → Int → Option Int) (p : Nat → List α → Int → Option Bool)
    (hL : ∀ k xs n i, L (k + 1) xs n i = if i < n then (if 0 ≤ i then (if i < (xs.length : Int) then ((p k xs i).bind fun t => if t = true then some i else L k xs n (wrap64 (i + 1))) else none) else none) else some (-1))
    (xs : List α) (hx : xs.length < 4611686018427387904) (P : Nat → Bool) (he : ∀ i : Nat, i < xs.length → Ev (fun k => p k xs (i : Int)) (P i)) (b : Bool) (hb : b = true ↔ ∃ i, i < xs.length ∧ P i = true) :
    Ev (fun k => (L k xs (xs.length : Int) 0).bind fun t => some (decide (t ≥ 0))) b := by
  obtain ⟨r, hr, h⟩ := ev_index L p hL xs hx P he
  refine Ev.bind hr (ev_some ?_)
  rw [Bool.eq_iff_iff, decide_eq_true_eq, hb]
  rcases h with ⟨rfl, h⟩ | ⟨i, hi, rfl, hP, _⟩
  · constructor
    · intro h'; omega
    · rintro ⟨i, hi, hP⟩; rw [h i hi] at hP; cases hP
  · exact ⟨fun _ => ⟨i, hi, hP⟩, fun _ => by omega⟩
theorem exev_bind {α β : Type} {g : Nat → Option α} {f : Nat → α → Option β} {a : α} {Q : β → Prop} (h : Ev g a) (k : ∃ r, Ev (fun n => f n a) r ∧ Q r) : ∃ r, Ev (fun n => (g n).bind (f n)) r ∧ Q r := by
  obtain ⟨r, hr, hq⟩ := k
  exact ⟨r, Ev.bind h hr, hq⟩
theorem exev_pos {α : Type} {c : Prop} [Decidable c] {f g : Nat → Option α} {Q : α → Prop} (h : c) (k : ∃ r, Ev f r ∧ Q r) : ∃ r, Ev (fun n => if c then f n else g n) r ∧ Q r := by
  obtain ⟨r, hr, hq⟩ := k
  exact ⟨r, ev_pos h hr, hq⟩
theorem exev_neg {α : Type} {c : Prop} [Decidable c] {f g : Nat → Option α} {Q : α → Prop} (h : ¬ c) (k : ∃ r, Ev g r ∧ Q r) : ∃ r, Ev (fun n => if c then f n else g n) r ∧ Q r := by
  obtain ⟨r, hr, hq⟩ := k
  exact ⟨r, ev_neg h hr, hq⟩
theorem exev_ite {α : Type} {c : Prop} [Decidable c] {f g : Nat → Option α} {Q : α → Prop} (h : c → ∃ r, Ev f r ∧ Q r) (k : ¬ c → ∃ r, Ev g r ∧ Q r) : ∃ r, Ev (fun n => if c then f n else g n) r ∧ Q r := by
  by_cases hc : c
  · exact exev_pos hc (h hc)
  · exact exev_neg hc (k hc)
theorem exev_some {α : Type} {x : α} {Q : α → Prop} (h : Q x) : ∃ r, Ev (fun _ => some x) r ∧ Q r := ⟨x, ev_some rfl, h⟩
theorem ev_copy2 {α β τ : Type} (L : Nat → List α → List β → Int → Option (List β)) (e : Nat → List α → Int → Option τ) (mk : τ → β) (g : α → β)
    (hL : ∀ k xs ys i, L (k + 1) xs ys i = if i < (xs.length : Int) then (if 0 ≤ i then ((e k xs i).bind fun v => if i < (ys.length : Int) then L k xs (ys.set (i : Int).toNat (mk v)) (wrap64 (i + 1)) else none) else none) else some ys)
    (xs : List α) (hx : xs.length < 4611686018427387904) (he : ∀ i : Nat, ∀ h : i < xs.length, ∃ t, Ev (fun k => e k xs (i : Int)) t ∧ mk t = g xs[i]) (ys : List β) (hy : ys.length = xs.length) :
    Ev (fun k => L k xs ys 0) (xs.map g) := by
  refine ev_for1 xs.length (fun k i ys => L k xs ys (i : Int)) (fun i ys => ys.length = xs.length ∧ ∀ j, j < i → ys[j]? = (xs.map g)[j]?) (xs.map g) ?_ ?_ 0 ys (Nat.zero_le _) ⟨hy, fun j hj => by omega⟩
  · intro ys ⟨hl, h⟩
    refine Ev.step (fun k => hL k xs ys _) (ev_neg (by omega) (ev_some ?_))
    apply List.ext_getElem?
    intro j
    rcases Nat.lt_or_ge j xs.length with hj | hj
    · exact h j hj
    · rw [List.getElem?_eq_none (by omega), List.getElem?_eq_none (by simpa using hj)]
  · intro i ys hi ⟨hl, h⟩
    obtain ⟨t, ht, hmk⟩ := he i hi
    refine .inr ⟨ys.set i (g xs[i]), ⟨by simpa using hl, fun j hj => ?_⟩, fun r hr => ?_⟩
    · rcases Nat.lt_or_ge j i with hji | hji
      · rw [List.getElem?_set_ne (by omega)]
        exact h j hji
      · obtain rfl : j = i := by omega
        rw [List.getElem?_set_self (by omega), List.getElem?_map, List.getElem?_eq_getElem hi]
        rfl
    · refine Ev.step (fun k => hL k xs ys _) (ev_pos (by omega) (ev_pos (by omega) (Ev.bind ht (ev_pos (by omega) ?_))))
      rw [w64s i (by omega), hmk]
      exact hr
theorem ev_size {α : Type} (L : Nat → List α → Int → Int → Option Int) (e : Nat → List α → Int → Int → Option Int) (C : α → Prop)
    (hL : ∀ k xs c i, L (k + 1) xs c i = if i < (xs.length : Int) then (if 0 ≤ i then ((e k xs c i).bind fun t => if t < 0 then some (-1) else L k xs t (wrap64 (i + 1))) else none) else some c)
    (xs : List α) (hx : xs.length < 4611686018427387904) (left : Int) (h0 : 0 ≤ left)
    (he : ∀ i : Nat, ∀ h : i < xs.length, ∀ c, 0 ≤ c → c ≤ left → ∃ r, Ev (fun k => e k xs c (i : Int)) r ∧ (r < 0 ∨ 0 ≤ r ∧ r ≤ c ∧ C xs[i])) :
    ∃ r, Ev (fun k => L k xs left 0) r ∧ (r < 0 ∨ 0 ≤ r ∧ r ≤ left ∧ ∀ x ∈ xs, C x) := by
  refine ev_for xs.length (fun k i c => L k xs c (i : Int)) (fun i c => 0 ≤ c ∧ c ≤ left ∧ ∀ j, ∀ h : j < xs.length, j < i → C xs[j]) (fun r => r < 0 ∨ 0 ≤ r ∧ r ≤ left ∧ ∀ x ∈ xs, C x) ?_ ?_ 0 left (Nat.zero_le _) ⟨h0, Int.le_refl _, fun j _ hj => by omega⟩
  · intro c ⟨hc0, hc1, h⟩
    refine ⟨c, Ev.step (fun k => hL k xs c _) (ev_neg (by omega) (ev_some rfl)), .inr ⟨hc0, hc1, fun x hx => ?_⟩⟩
    obtain ⟨j, hj, rfl⟩ := List.getElem_of_mem hx
    exact h j hj hj
  · intro i c hi ⟨hc0, hc1, h⟩
    obtain ⟨r, hr, hq⟩ := he i hi c hc0 hc1
    rcases hq with hq | ⟨q0, q1, q2⟩
    · exact .inl ⟨-1, Ev.step (fun k => hL k xs c _) (ev_pos (by omega) (ev_pos (by omega) (Ev.bind hr (ev_pos hq (ev_some rfl))))), .inl (by omega)⟩
    · refine .inr ⟨r, ⟨q0, by omega, fun j hj hji => ?_⟩, fun r' hr' => Ev.step (fun k => hL k xs c _) (ev_pos (by omega) (ev_pos (by omega) (Ev.bind hr (ev_neg (by omega) ?_))))⟩
      · rcases Nat.lt_or_ge j i with h1 | h1
        · exact h j hj h1
        · obtain rfl : j = i := by omega
          exact q2
      · rw [w64s i (by omega)]
        exact hr'
end Go.Proofs.YtnacjhgpanedoacO
