/- Texts of the row of the law FnExactSparksAt, laid together. -/
import Derived.Test.YthgfobcckoedaaaZFnExactSparksAt3
import Derived.Test.YthgfobcckoedaaaZFnExactSparksAt4
namespace Go.Proofs.Ythgfobcckoedaaa.PFnExactSparksAt
open Go.RowKit Go.Proofs.YthgfobcckoedaaaW.PrintWords Go.Proofs.YthgfobcckoedaaaW.PrintLast Go.Proofs.YthgfobcckoedaaaW.PrintMore
attribute [local go_sem] max2_int min2_int max_two min_two max_three min_three max_four min_four   -- for this text's walks alone
set_option linter.unusedVariables false
set_option linter.unusedSimpArgs false
def impl_areFixed.l0 : Nat → List Int → Int → Int → Option (Bool)
 | 0, _, _, _ => none
 | k + 1, x5, x6, x7 => if x7 < x6 then (if 0 ≤ x7 then (if x7 < (x5.length : Int) then ((impl_GoodFixed.f (rd x5 x7)).bind fun t231 => (if t231 = true then (impl_areFixed.l0 k x5 x6 (wrap64 (x7 + 1))) else (some false))) else (none)) else (none)) else (some true)
def impl_areFixed.f (k : Nat) (l0 : List Int) : Option (Bool) := impl_areFixed.l0 k l0 (l0.length : Int) 0
theorem impl_areFixed.mono_l : ∀ k, (∀ y0 y1 y2, LeO (impl_areFixed.l0 k y0 y1 y2) (impl_areFixed.l0 (k + 1) y0 y1 y2))
 | 0 => fun _ _ _ r h => by simp [impl_areFixed.l0] at h
 | k + 1 => by
  have ih0 := impl_areFixed.mono_l k
  ·intro y0 y1 y2
   unfold impl_areFixed.l0
   repeat' first
   | (with_reducible exact ih0 _ _ _)
   | (with_reducible exact LeO.refl _)
   | (with_reducible exact LeO.none _)
   | (with_reducible refine LeO.ite ?_ ?_)
   | (with_reducible refine LeO.bind ?_ (fun _ => ?_))
   | exact ih0 _ _ _
   | exact LeO.none _
   | refine LeO.ite ?_ ?_
   | refine LeO.bind ?_ (fun _ => ?_)
theorem impl_areFixed.mono : ∀ a0 k, LeO (impl_areFixed.f k a0) (impl_areFixed.f (k + 1) a0) := by
 intro a0 k
 have ih0 := impl_areFixed.mono_l k
 unfold impl_areFixed.f
 repeat' first
   | (with_reducible exact ih0 _ _ _)
   | (with_reducible exact LeO.refl _)
   | (with_reducible exact LeO.none _)
   | (with_reducible refine LeO.ite ?_ ?_)
   | (with_reducible refine LeO.bind ?_ (fun _ => ?_))
   | exact ih0 _ _ _
   | exact LeO.none _
   | refine LeO.ite ?_ ?_
   | refine LeO.bind ?_ (fun _ => ?_)
set_option maxHeartbeats 8000000 in
set_option maxRecDepth 100000 in
theorem impl_areFixed.calls (k : Nat) (A0 : Option Addr) (c0 : Nat) (l0 : List Int) (r : Bool) (w : World) (hr0 : Kd.C (Kd.int .i64) w A0 l0.length l0) (hc0 : l0.length ≤ c0) (h : impl_areFixed.f k l0 = some r) :
  Calls Try.prog 48 #[.slice A0 l0.length c0] w fun e w' => e = .returned (.bool r) ∧ Drawn0 w w' := by
 have HR0 := Aside0.mk hr0
 have HC0 := Aside0.mk hc0
 clear hr0 hc0
 have H : (impl_areFixed.l0 k l0 (l0.length : Int) 0) = some r := h
 clear h
 have H' := Aside0.mk H
 clear H
 go_enter Try.func48, Try.ntmps48
 go_wp2
 go_loopg [7] k (fun kq v7 w' => ∃ (x7_1 : Int), v7 = .int .i64 x7_1 ∧ Aside0 (impl_areFixed.l0 kq l0 (l0.length : Int) x7_1 = some r) ∧ Aside0 (kq ≤ k) ∧ Drawn0 w w')
 case atStart => exact ⟨(0), tE, H', ⟨Nat.le_refl _⟩, by repeat (first | exact Drawn0.refl _ | apply Drawn0.step)⟩
 case round =>
  clear H'
  obtain ⟨x7_1, rfl, HA, HK1, ⟨m1, rfl⟩⟩ := hrel
  cases gk with
  | zero => exact absurd HA.out (by simp [impl_areFixed.l0])
  | succ k1 =>
   have H := HA.out
   clear HA
   simp only [impl_areFixed.l0] at H
   by_cases c2 : x7_1 < (l0.length : Int)
   ·rw [if_pos c2] at H
    have c2b0 : decide (x7_1 < (l0.length : Int)) = true := decide_eq_true c2
    clear c2
    by_cases c3 : 0 ≤ x7_1
    ·rw [if_pos c3] at H
     have c3b0 : decide (0 ≤ x7_1) = true := decide_eq_true c3
     clear c3
     by_cases c4 : x7_1 < (l0.length : Int)
     ·rw [if_pos c4] at H
      have c4b0 : decide (x7_1 < (l0.length : Int)) = true := decide_eq_true c4
      clear c4
      replace H := Option.bind_eq_some_iff.mp H
      obtain ⟨t231, A50, H⟩ := H
      replace H : (if t231 = true then (impl_areFixed.l0 k1 l0 (l0.length : Int) (wrap64 (x7_1 + 1))) else (some false)) = some r := H
      have A5 := Aside0.mk A50
      clear A50
      by_cases c6 : t231 = true
      ·subst c6
       have H1 : (impl_areFixed.l0 k1 l0 (l0.length : Int) (wrap64 (x7_1 + 1))) = some r := by rw [if_pos rfl] at H; exact H
       clear H
       have H := H1
       clear H1
       have H' := Aside0.mk H
       clear H
       have p230 : 0 ≤ (x7_1 : Int) := of_decide_eq_true hE
       have q230 : x7_1 < (l0.length : Int) := of_decide_eq_true hE
       obtain ⟨ad230, e230, hx230_0⟩ := Kd.at_int HR0.out x7_1 p230 q230
       cases e230
       replace p230 := eq_true p230
       replace q230 := eq_true q230
       go_wp2_with (first | ((with_reducible refine gate_callee (f := 56) rfl ?_); refine goesL_ (some 12) rfl rfl Try.func56 (by kernel_rfl) rfl #[.int .i64 (rd l0 x7_1)] rfl aE ?_; (with_reducible refine (impl_GoodFixed.calls (rd l0 x7_1) true _ A5.out).mono ?_); rintro e w' ⟨rfl, ⟨nd, rfl⟩⟩; refine ⟨_, rfl, ?_⟩))
       go_roundg k1
       case measure => have := HK1.out; omega
       case rel => exact ⟨(wrap64 (x7_1 + 1)), tE, H', ⟨by have := HK1.out; omega⟩, by repeat (first | exact Drawn0.refl _ | apply Drawn0.step)⟩
      ·replace c6 := Bool.eq_false_iff.mpr c6
       subst c6
       have H1 : (some false) = some r := by rw [if_neg (show ¬ (false = true) by decide)] at H; exact H
       clear H
       have H := H1
       clear H1
       obtain rfl := Option.some.inj H
       have p230 : 0 ≤ (x7_1 : Int) := of_decide_eq_true hE
       have q230 : x7_1 < (l0.length : Int) := of_decide_eq_true hE
       obtain ⟨ad230, e230, hx230_0⟩ := Kd.at_int HR0.out x7_1 p230 q230
       cases e230
       replace p230 := eq_true p230
       replace q230 := eq_true q230
       go_wp2_with (first | ((with_reducible refine gate_callee (f := 56) rfl ?_); refine goesL_ (some 12) rfl rfl Try.func56 (by kernel_rfl) rfl #[.int .i64 (rd l0 x7_1)] rfl aE ?_; (with_reducible refine (impl_GoodFixed.calls (rd l0 x7_1) false _ A5.out).mono ?_); rintro e w' ⟨rfl, ⟨nd, rfl⟩⟩; refine ⟨_, rfl, ?_⟩))
       go_ret
       exact ⟨by first | rfl | (simp; done) | (simp [*]; done) | exact not_isEmpty _ | exact (not_isEmpty _).symm | exact is_empty _ | exact (is_empty _).symm, by repeat (first | exact Drawn0.refl _ | apply Drawn0.step)⟩
     ·rw [if_neg c4] at H
      exact absurd H (by simp)
    ·rw [if_neg c3] at H
     exact absurd H (by simp)
   ·rw [if_neg c2] at H
    have c2b0 : decide (x7_1 < (l0.length : Int)) = false := decide_eq_false c2
    clear c2
    obtain rfl := Option.some.inj H
    go_wp2
    go_ret
    exact ⟨by first | rfl | (simp; done) | (simp [*]; done) | exact not_isEmpty _ | exact (not_isEmpty _).symm | exact is_empty _ | exact (is_empty _).symm, by repeat (first | exact Drawn0.refl _ | apply Drawn0.step)⟩
def impl_GoodCloud_1.f (k : Nat) (a0_0 : Int) (a0_1 : Int) (a0_2 : Int) (a0_3 : Int) (a0_4 : Int) : Option (Bool) := (impl_areFixed.f k (([a0_0, a0_1, a0_2, a0_3] : List Int))).bind fun t236 => (if t236 = true then ((impl_inRange.f a0_4 1 200).bind fun t237 => (some (!t237))) else (some true))
theorem impl_GoodCloud_1.mono : ∀ a0 a1 a2 a3 a4 k, LeO (impl_GoodCloud_1.f k a0 a1 a2 a3 a4) (impl_GoodCloud_1.f (k + 1) a0 a1 a2 a3 a4) := by
 intro a0 a1 a2 a3 a4 k
 unfold impl_GoodCloud_1.f
 repeat' first
   | (with_reducible exact impl_areFixed.mono _ _)
   | (with_reducible exact LeO.refl _)
   | (with_reducible exact LeO.none _)
   | (with_reducible refine LeO.ite ?_ ?_)
   | (with_reducible refine LeO.bind ?_ (fun _ => ?_))
   | exact impl_areFixed.mono _ _
   | exact LeO.none _
   | refine LeO.ite ?_ ?_
   | refine LeO.bind ?_ (fun _ => ?_)
set_option maxHeartbeats 8000000 in
set_option maxRecDepth 100000 in
theorem impl_GoodCloud_1.calls (k : Nat) (a0_0 : Int) (a0_1 : Int) (a0_2 : Int) (a0_3 : Int) (a0_4 : Int) (r : Bool) (w : World) (h : impl_GoodCloud_1.f k a0_0 a0_1 a0_2 a0_3 a0_4 = some r) :
  Calls Try.prog 47 #[.agg #[.int .i64 a0_0, .int .i64 a0_1, .int .i64 a0_2, .int .i64 a0_3, .int .i64 a0_4]] w fun e w' => e = .returned (.bool r) ∧ Below w.heap.size w w' := by
 have hu48 := Try.underlying48
 have HB := Aside0.mk (Below.refl w.heap.size w)
 have H : ((impl_areFixed.f k (([a0_0, a0_1, a0_2, a0_3] : List Int))).bind fun t236 => (if t236 = true then ((impl_inRange.f a0_4 1 200).bind fun t237 => (some (!t237))) else (some true))) = some r := h
 clear h
 obtain ⟨y233, hy233⟩ : ∃ y_ : List Int, y_ = (([a0_0, a0_1, a0_2, a0_3] : List Int)) := ⟨_, rfl⟩
 replace H : ((impl_areFixed.f k y233).bind fun t236 => (if t236 = true then ((impl_inRange.f a0_4 1 200).bind fun t237 => (some (!t237))) else (some true))) = some r := by first | (rw [hy233]; with_reducible exact H) | (have H2_ := (Option.bind_some _ _).symm.trans H; rw [hy233]; with_reducible exact H2_) | (have H2_ := (Option.bind_some _ _).symm.trans H; with_reducible exact H2_) | with_reducible exact H | (rw [hy233]; exact H) | exact H
 have Ny233 := Aside0.mk hy233
 clear hy233
 replace H := Option.bind_eq_some_iff.mp H
 obtain ⟨t236, A20, H⟩ := H
 replace H : (if t236 = true then ((impl_inRange.f a0_4 1 200).bind fun t237 => (some (!t237))) else (some true)) = some r := H
 have A2 := Aside0.mk A20
 clear A20
 by_cases c3 : t236 = true
 ·subst c3
  have H1 : ((impl_inRange.f a0_4 1 200).bind fun t237 => (some (!t237))) = some r := by rw [if_pos rfl] at H; exact H
  clear H
  have H := H1
  clear H1
  replace H := Option.bind_eq_some_iff.mp H
  obtain ⟨t237, A40, H⟩ := H
  replace H : (some (!t237)) = some r := H
  have A4 := Aside0.mk A40
  clear A40
  obtain rfl := Option.some.inj H
  go_enter Try.func47, Try.ntmps47
  go_wp2_with (first | ((with_reducible refine gate_dst (N := 1) rfl ?_); refine box_event rfl (N := 1) rfl (cs := #[.int .i64 a0_0, .int .i64 a0_1, .int .i64 a0_2, .int .i64 a0_3, .int .i64 a0_4]) (t := 48) sE ?_; intro gb232 hg w5 hbox hb; have BK232 := Aside0.mk hbox; have GW232 := gS w hg (lU); have GE232 := gS w hg (lU); replace HB := bH (lU) hb; clear hb hbox hg; have hcz6_0 := cz BK232 0 (.int .i64 a0_0); have hcz6_1 := cz BK232 1 (.int .i64 a0_1); have hcz6_2 := cz BK232 2 (.int .i64 a0_2); have hcz6_3 := cz BK232 3 (.int .i64 a0_3); have hcz6_4 := cz BK232 4 (.int .i64 a0_4); have hfz6_0 := fz BK232 0; have hfz6_1 := fz BK232 1; have hfz6_2 := fz BK232 2; have hfz6_3 := fz BK232 3; have hfz6_4 := fz BK232 4) | ((with_reducible refine gate_dst (N := 11) rfl ?_); refine Kd.R_lit (Kd.int .i64) _ 3 ?hg (N := 11) ?hd (xs := ([a0_0, a0_1, a0_2, a0_3] : List Int)) (inner := [.int .i64 a0_0, .int .i64 a0_1, .int .i64 a0_2, .int .i64 a0_3]) (ok := fun _ => True) (okp := fun _ => True) ?hr ?hp (fun _ hk => hk) trivial (Below.refl _ _) (Nat.le_refl _) (by simp) ?_; (case hd => rfl); (case hg => rfl); (case hr => exact sE); (case hp => exact (Reps.one (show Kd.M (Kd.int .i64) _ _ _ a0_0 [.int .i64 a0_0] from rfl) (Reps.one (show Kd.M (Kd.int .i64) _ _ _ a0_1 [.int .i64 a0_1] from rfl) (Reps.one (show Kd.M (Kd.int .i64) _ _ _ a0_2 [.int .i64 a0_2] from rfl) (Reps.one (show Kd.M (Kd.int .i64) _ _ _ a0_3 [.int .i64 a0_3] from rfl) (Reps.none _ _)))))); intro v234 w7 ho8 hb hg_ hnew_; clear hg_ hnew_; (first | rw [← Ny233.out] at ho8 | (simp only [Int.reduceToNat] at ho8; rw [← Ny233.out] at ho8)); have HO235 := Aside0.mk (Kd.R_lower ho8 (below_size (lV1 GE232))); replace BK232 := bB (bV BK232) hb; replace HB := bH (lV1 GE232) hb; clear hb ho8; obtain ⟨Ao9, co9, eo9⟩ := Kd.R_slice HO235.out; subst eo9) | ((with_reducible refine gate_callee (f := 48) rfl ?_); refine goesL_ (some 12) rfl rfl Try.func48 (by kernel_rfl) rfl #[.slice Ao9 y233.length co9] rfl aE ?_; (with_reducible refine (impl_areFixed.calls k _ _ y233 true _ ?side1 ?side2 A2.out).mono ?_); (case side1 => exact cU (Kd.R_reads' HO235.out).2.2); (case side2 => exact (Kd.R_reads' HO235.out).2.1); rintro e w' ⟨rfl, ⟨nd, rfl⟩⟩; refine ⟨_, rfl, ?_⟩; have hcz10_0 := cz BK232 0 (.int .i64 a0_0); have hcz10_1 := cz BK232 1 (.int .i64 a0_1); have hcz10_2 := cz BK232 2 (.int .i64 a0_2); have hcz10_3 := cz BK232 3 (.int .i64 a0_3); have hcz10_4 := cz BK232 4 (.int .i64 a0_4); have hfz10_0 := fz BK232 0; have hfz10_1 := fz BK232 1; have hfz10_2 := fz BK232 2; have hfz10_3 := fz BK232 3; have hfz10_4 := fz BK232 4) | (go_at_call 32; (with_reducible refine (impl_inRange.calls a0_4 1 200 t237 _ A4.out).mono ?_); rintro e w' ⟨rfl, ⟨nd, rfl⟩⟩))
  go_ret
  exact ⟨eE, lV1 GE232⟩
 ·replace c3 := Bool.eq_false_iff.mpr c3
  subst c3
  have H1 : (some true) = some r := by rw [if_neg (show ¬ (false = true) by decide)] at H; exact H
  clear H
  have H := H1
  clear H1
  obtain rfl := Option.some.inj H
  go_enter Try.func47, Try.ntmps47
  go_wp2_with (first | ((with_reducible refine gate_dst (N := 1) rfl ?_); refine box_event rfl (N := 1) rfl (cs := #[.int .i64 a0_0, .int .i64 a0_1, .int .i64 a0_2, .int .i64 a0_3, .int .i64 a0_4]) (t := 48) sE ?_; intro gb232 hg w11 hbox hb; have BK232 := Aside0.mk hbox; have GW232 := gS w hg (lU); have GE232 := gS w hg (lU); replace HB := bH (lU) hb; clear hb hbox hg; have hcz12_0 := cz BK232 0 (.int .i64 a0_0); have hcz12_1 := cz BK232 1 (.int .i64 a0_1); have hcz12_2 := cz BK232 2 (.int .i64 a0_2); have hcz12_3 := cz BK232 3 (.int .i64 a0_3); have hcz12_4 := cz BK232 4 (.int .i64 a0_4); have hfz12_0 := fz BK232 0; have hfz12_1 := fz BK232 1; have hfz12_2 := fz BK232 2; have hfz12_3 := fz BK232 3; have hfz12_4 := fz BK232 4) | ((with_reducible refine gate_dst (N := 11) rfl ?_); refine Kd.R_lit (Kd.int .i64) _ 3 ?hg (N := 11) ?hd (xs := ([a0_0, a0_1, a0_2, a0_3] : List Int)) (inner := [.int .i64 a0_0, .int .i64 a0_1, .int .i64 a0_2, .int .i64 a0_3]) (ok := fun _ => True) (okp := fun _ => True) ?hr ?hp (fun _ hk => hk) trivial (Below.refl _ _) (Nat.le_refl _) (by simp) ?_; (case hd => rfl); (case hg => rfl); (case hr => exact sE); (case hp => exact (Reps.one (show Kd.M (Kd.int .i64) _ _ _ a0_0 [.int .i64 a0_0] from rfl) (Reps.one (show Kd.M (Kd.int .i64) _ _ _ a0_1 [.int .i64 a0_1] from rfl) (Reps.one (show Kd.M (Kd.int .i64) _ _ _ a0_2 [.int .i64 a0_2] from rfl) (Reps.one (show Kd.M (Kd.int .i64) _ _ _ a0_3 [.int .i64 a0_3] from rfl) (Reps.none _ _)))))); intro v234 w13 ho14 hb hg_ hnew_; clear hg_ hnew_; (first | rw [← Ny233.out] at ho14 | (simp only [Int.reduceToNat] at ho14; rw [← Ny233.out] at ho14)); have HO235 := Aside0.mk (Kd.R_lower ho14 (below_size (lV1 GE232))); replace BK232 := bB (bV BK232) hb; replace HB := bH (lV1 GE232) hb; clear hb ho14; obtain ⟨Ao15, co15, eo15⟩ := Kd.R_slice HO235.out; subst eo15) | ((with_reducible refine gate_callee (f := 48) rfl ?_); refine goesL_ (some 12) rfl rfl Try.func48 (by kernel_rfl) rfl #[.slice Ao15 y233.length co15] rfl aE ?_; (with_reducible refine (impl_areFixed.calls k _ _ y233 false _ ?side1 ?side2 A2.out).mono ?_); (case side1 => exact cU (Kd.R_reads' HO235.out).2.2); (case side2 => exact (Kd.R_reads' HO235.out).2.1); rintro e w' ⟨rfl, ⟨nd, rfl⟩⟩; refine ⟨_, rfl, ?_⟩))
  go_ret
  exact ⟨eE, lV1 GE232⟩
def slices_IndexFunc_w47.l0 : Nat → List (S48) → Int → Int → Option (Int)
 | 0, _, _, _ => none
 | k + 1, x0, x7, x8 => if x8 < x7 then (if 0 ≤ x8 then (if x8 < (x0.length : Int) then ((impl_GoodCloud_1.f k ((rd_T48 x0 x8).f0) ((rd_T48 x0 x8).f1) ((rd_T48 x0 x8).f2) ((rd_T48 x0 x8).f3) ((rd_T48 x0 x8).f4)).bind fun t239 => (if t239 = true then (some x8) else (slices_IndexFunc_w47.l0 k x0 x7 (wrap64 (x8 + 1))))) else (none)) else (none)) else (some (-1))
def slices_IndexFunc_w47.f (k : Nat) (l0 : List (S48))  : Option (Int) := slices_IndexFunc_w47.l0 k l0 (l0.length : Int) 0
theorem slices_IndexFunc_w47.mono_l : ∀ k, (∀ y0 y1 y2, LeO (slices_IndexFunc_w47.l0 k y0 y1 y2) (slices_IndexFunc_w47.l0 (k + 1) y0 y1 y2))
 | 0 => fun _ _ _ r h => by simp [slices_IndexFunc_w47.l0] at h
 | k + 1 => by
  have ih0 := slices_IndexFunc_w47.mono_l k
  ·intro y0 y1 y2
   unfold slices_IndexFunc_w47.l0
   repeat' first
   | (with_reducible exact ih0 _ _ _)
   | (with_reducible exact impl_GoodCloud_1.mono _ _ _ _ _ _)
   | (with_reducible exact LeO.refl _)
   | (with_reducible exact LeO.none _)
   | (with_reducible refine LeO.ite ?_ ?_)
   | (with_reducible refine LeO.bind ?_ (fun _ => ?_))
   | exact ih0 _ _ _
   | exact impl_GoodCloud_1.mono _ _ _ _ _ _
   | exact LeO.none _
   | refine LeO.ite ?_ ?_
   | refine LeO.bind ?_ (fun _ => ?_)
theorem slices_IndexFunc_w47.mono : ∀ a0 k, LeO (slices_IndexFunc_w47.f k a0) (slices_IndexFunc_w47.f (k + 1) a0) := by
 intro a0 k
 have ih0 := slices_IndexFunc_w47.mono_l k
 unfold slices_IndexFunc_w47.f
 repeat' first
   | (with_reducible exact ih0 _ _ _)
   | (with_reducible exact impl_GoodCloud_1.mono _ _ _ _ _ _)
   | (with_reducible exact LeO.refl _)
   | (with_reducible exact LeO.none _)
   | (with_reducible refine LeO.ite ?_ ?_)
   | (with_reducible refine LeO.bind ?_ (fun _ => ?_))
   | exact ih0 _ _ _
   | exact impl_GoodCloud_1.mono _ _ _ _ _ _
   | exact LeO.none _
   | refine LeO.ite ?_ ?_
   | refine LeO.bind ?_ (fun _ => ?_)
set_option maxHeartbeats 8000000 in
set_option maxRecDepth 100000 in
theorem slices_IndexFunc_w47.calls (k : Nat) (A0 : Option Addr) (c0 : Nat) (l0 : List (S48))  (r : Int) (w : World) (hr0 : Kd.C k48 w A0 l0.length l0) (hc0 : l0.length ≤ c0) (h : slices_IndexFunc_w47.f k l0 = some r) :
  Calls Try.prog 55 #[.slice A0 l0.length c0, .func (.func 47) #[] #[]] w fun e w' => e = .returned (.int .i64 r) ∧ Below w.heap.size w w' := by
 have hu48 := Try.underlying48
 have HR0 := Aside0.mk hr0
 have HC0 := Aside0.mk hc0
 clear hr0 hc0
 have HB := Aside0.mk (Below.refl w.heap.size w)
 have H : (slices_IndexFunc_w47.l0 k l0 (l0.length : Int) 0) = some r := h
 clear h
 have H' := Aside0.mk H
 clear H
 go_enter Try.func55, Try.ntmps55
 go_wp2
 go_loopg [8] k (fun kq v8 w' => ∃ (x8_1 : Int), v8 = .int .i64 x8_1 ∧ Aside0 (slices_IndexFunc_w47.l0 kq l0 (l0.length : Int) x8_1 = some r) ∧ Aside0 (kq ≤ k) ∧ Aside0 (Below w.heap.size w w'))
 case atStart => exact ⟨(0), tE, H', ⟨Nat.le_refl _⟩, ⟨by repeat (first | (with_reducible first | exact HB.out | apply below_alloc | apply pw_below_drewN | apply below_drew1) | exact HB.out)⟩⟩
 case round =>
  clear H'
  try clear p2
  obtain ⟨x8_1, rfl, HA, HK1, HB⟩ := hrel
  cases gk with
  | zero => exact absurd HA.out (by simp [slices_IndexFunc_w47.l0])
  | succ k1 =>
   have H := HA.out
   clear HA
   simp only [slices_IndexFunc_w47.l0] at H
   by_cases c3 : x8_1 < (l0.length : Int)
   ·rw [if_pos c3] at H
    have c3b0 : decide (x8_1 < (l0.length : Int)) = true := decide_eq_true c3
    clear c3
    by_cases c4 : 0 ≤ x8_1
    ·rw [if_pos c4] at H
     have c4b0 : decide (0 ≤ x8_1) = true := decide_eq_true c4
     clear c4
     by_cases c5 : x8_1 < (l0.length : Int)
     ·rw [if_pos c5] at H
      have c5b0 : decide (x8_1 < (l0.length : Int)) = true := decide_eq_true c5
      clear c5
      replace H := Option.bind_eq_some_iff.mp H
      obtain ⟨t239, A60, H⟩ := H
      replace H : (if t239 = true then (some x8_1) else (slices_IndexFunc_w47.l0 k1 l0 (l0.length : Int) (wrap64 (x8_1 + 1)))) = some r := H
      have A6 := Aside0.mk A60
      clear A60
      by_cases c7 : t239 = true
      ·subst c7
       have H1 : (some x8_1) = some r := by rw [if_pos rfl] at H; exact H
       clear H
       have H := H1
       clear H1
       obtain rfl := Option.some.inj H
       have p238 : 0 ≤ (x8_1 : Int) := of_decide_eq_true hE
       have q238 : x8_1 < (l0.length : Int) := of_decide_eq_true hE
       obtain ⟨ad238, e238, hx238_0, hx238_1, hx238_2, hx238_3, hx238_4⟩ := at_T48 HR0.out x8_1 p238 q238
       cases e238
       replace hx238_0 := (HB.out.cell (World.block_lt_of_cell? w _ hx238_0)).trans hx238_0
       replace hx238_1 := (HB.out.cell (World.block_lt_of_cell? w _ hx238_1)).trans hx238_1
       replace hx238_2 := (HB.out.cell (World.block_lt_of_cell? w _ hx238_2)).trans hx238_2
       replace hx238_3 := (HB.out.cell (World.block_lt_of_cell? w _ hx238_3)).trans hx238_3
       replace hx238_4 := (HB.out.cell (World.block_lt_of_cell? w _ hx238_4)).trans hx238_4
       replace p238 := eq_true p238
       replace q238 := eq_true q238
       go_wp2_with (first | ((with_reducible refine gateD_ rfl ?_); refine goesD_ (some 16) rfl rfl Try.func47 (by kernel_rfl) rfl rfl rfl #[.agg #[.int .i64 ((rd_T48 l0 x8_1).f0), .int .i64 ((rd_T48 l0 x8_1).f1), .int .i64 ((rd_T48 l0 x8_1).f2), .int .i64 ((rd_T48 l0 x8_1).f3), .int .i64 ((rd_T48 l0 x8_1).f4)]] aE ?_; (with_reducible refine (impl_GoodCloud_1.calls k1 ((rd_T48 l0 x8_1).f0) ((rd_T48 l0 x8_1).f1) ((rd_T48 l0 x8_1).f2) ((rd_T48 l0 x8_1).f3) ((rd_T48 l0 x8_1).f4) true _ A6.out).mono ?_); rintro e w8 ⟨rfl, hb⟩; refine ⟨_, rfl, ?_⟩; replace HB := bH (lU) hb; (try clear hb)))
       go_ret
       exact ⟨eE, lU⟩
      ·replace c7 := Bool.eq_false_iff.mpr c7
       subst c7
       have H1 : (slices_IndexFunc_w47.l0 k1 l0 (l0.length : Int) (wrap64 (x8_1 + 1))) = some r := by rw [if_neg (show ¬ (false = true) by decide)] at H; exact H
       clear H
       have H := H1
       clear H1
       have H' := Aside0.mk H
       clear H
       have p238 : 0 ≤ (x8_1 : Int) := of_decide_eq_true hE
       have q238 : x8_1 < (l0.length : Int) := of_decide_eq_true hE
       obtain ⟨ad238, e238, hx238_0, hx238_1, hx238_2, hx238_3, hx238_4⟩ := at_T48 HR0.out x8_1 p238 q238
       cases e238
       replace hx238_0 := (HB.out.cell (World.block_lt_of_cell? w _ hx238_0)).trans hx238_0
       replace hx238_1 := (HB.out.cell (World.block_lt_of_cell? w _ hx238_1)).trans hx238_1
       replace hx238_2 := (HB.out.cell (World.block_lt_of_cell? w _ hx238_2)).trans hx238_2
       replace hx238_3 := (HB.out.cell (World.block_lt_of_cell? w _ hx238_3)).trans hx238_3
       replace hx238_4 := (HB.out.cell (World.block_lt_of_cell? w _ hx238_4)).trans hx238_4
       replace p238 := eq_true p238
       replace q238 := eq_true q238
       go_wp2_with (first | ((with_reducible refine gateD_ rfl ?_); refine goesD_ (some 16) rfl rfl Try.func47 (by kernel_rfl) rfl rfl rfl #[.agg #[.int .i64 ((rd_T48 l0 x8_1).f0), .int .i64 ((rd_T48 l0 x8_1).f1), .int .i64 ((rd_T48 l0 x8_1).f2), .int .i64 ((rd_T48 l0 x8_1).f3), .int .i64 ((rd_T48 l0 x8_1).f4)]] aE ?_; (with_reducible refine (impl_GoodCloud_1.calls k1 ((rd_T48 l0 x8_1).f0) ((rd_T48 l0 x8_1).f1) ((rd_T48 l0 x8_1).f2) ((rd_T48 l0 x8_1).f3) ((rd_T48 l0 x8_1).f4) false _ A6.out).mono ?_); rintro e w9 ⟨rfl, hb⟩; refine ⟨_, rfl, ?_⟩; replace HB := bH (lU) hb; (try clear hb)))
       go_roundg k1
       case measure => have := HK1.out; omega
       case rel => exact ⟨(wrap64 (x8_1 + 1)), tE, H', ⟨by have := HK1.out; omega⟩, ⟨by repeat (first | (with_reducible first | exact HB.out | apply below_alloc | apply pw_below_drewN | apply below_drew1) | exact HB.out)⟩⟩
     ·rw [if_neg c5] at H
      exact absurd H (by simp)
    ·rw [if_neg c4] at H
     exact absurd H (by simp)
   ·rw [if_neg c3] at H
    have c3b0 : decide (x8_1 < (l0.length : Int)) = false := decide_eq_false c3
    clear c3
    obtain rfl := Option.some.inj H
    go_wp2
    go_ret
    exact ⟨eE, lU⟩
def slices_ContainsFunc_w47.f (k : Nat) (l0 : List (S48))  : Option (Bool) := (slices_IndexFunc_w47.f k l0).bind fun t240 => (some (decide (t240 ≥ 0)))
theorem slices_ContainsFunc_w47.mono : ∀ a0 k, LeO (slices_ContainsFunc_w47.f k a0) (slices_ContainsFunc_w47.f (k + 1) a0) := by
 intro a0 k
 unfold slices_ContainsFunc_w47.f
 repeat' first
   | (with_reducible exact slices_IndexFunc_w47.mono _ _)
   | (with_reducible exact LeO.refl _)
   | (with_reducible exact LeO.none _)
   | (with_reducible refine LeO.ite ?_ ?_)
   | (with_reducible refine LeO.bind ?_ (fun _ => ?_))
   | exact slices_IndexFunc_w47.mono _ _
   | exact LeO.none _
   | refine LeO.ite ?_ ?_
   | refine LeO.bind ?_ (fun _ => ?_)
set_option maxHeartbeats 8000000 in
set_option maxRecDepth 100000 in
theorem slices_ContainsFunc_w47.calls (k : Nat) (A0 : Option Addr) (c0 : Nat) (l0 : List (S48))  (r : Bool) (w : World) (hr0 : Kd.C k48 w A0 l0.length l0) (hc0 : l0.length ≤ c0) (h : slices_ContainsFunc_w47.f k l0 = some r) :
  Calls Try.prog 46 #[.slice A0 l0.length c0, .func (.func 47) #[] #[]] w fun e w' => e = .returned (.bool r) ∧ Below w.heap.size w w' := by
 have HR0 := Aside0.mk hr0
 have HC0 := Aside0.mk hc0
 clear hr0 hc0
 have HB := Aside0.mk (Below.refl w.heap.size w)
 have H : ((slices_IndexFunc_w47.f k l0).bind fun t240 => (some (decide (t240 ≥ 0)))) = some r := h
 clear h
 replace H := Option.bind_eq_some_iff.mp H
 obtain ⟨t240, A30, H⟩ := H
 replace H : (some (decide (t240 ≥ 0))) = some r := H
 have A3 := Aside0.mk A30
 clear A30
 obtain rfl := Option.some.inj H
 go_enter Try.func46, Try.ntmps46
 go_wp2_with (first | ((with_reducible refine gate_callee (f := 55) rfl ?_); refine goesL_ (some 7) rfl rfl Try.func55 (by kernel_rfl) rfl #[.slice A0 l0.length c0, .func (.func 47) #[] #[]] rfl aE ?_; (with_reducible refine (slices_IndexFunc_w47.calls k _ _ l0  t240 _ ?side1 ?side2 A3.out).mono ?_); (case side1 => repeat (first | exact HR0.out | (with_reducible refine Kd.C_alloc ?_ _) | (with_reducible refine Kd.C_drewN ?_ _) | (with_reducible refine Kd.C_drew ?_))); (case side2 => exact HC0.out); rintro e w4 ⟨rfl, hb⟩; refine ⟨_, rfl, ?_⟩; replace HB := bH (lU) hb; (try clear hb)))
 go_ret
 exact ⟨eE, lU⟩
def impl_GoodCloud.f (k : Nat) (a0_0 : Int) (a0_1 : Int) (l0_2 : List (S48)) : Option (Bool) := (impl_isSeed.f a0_0).bind fun t242 => (if t242 = true then ((impl_inRange.f a0_1 0 200).bind fun t243 => (if t243 = true then (if (l0_2.length : Int) ≤ 60 then ((slices_ContainsFunc_w47.f k l0_2).bind fun t244 => (some (!t244))) else (some false)) else (some false))) else (some false))
theorem impl_GoodCloud.mono : ∀ a0 a1 a2 k, LeO (impl_GoodCloud.f k a0 a1 a2) (impl_GoodCloud.f (k + 1) a0 a1 a2) := by
 intro a0 a1 a2 k
 unfold impl_GoodCloud.f
 repeat' first
   | (with_reducible exact slices_ContainsFunc_w47.mono _ _)
   | (with_reducible exact LeO.refl _)
   | (with_reducible exact LeO.none _)
   | (with_reducible refine LeO.ite ?_ ?_)
   | (with_reducible refine LeO.bind ?_ (fun _ => ?_))
   | exact slices_ContainsFunc_w47.mono _ _
   | exact LeO.none _
   | refine LeO.ite ?_ ?_
   | refine LeO.bind ?_ (fun _ => ?_)
set_option maxHeartbeats 8000000 in
set_option maxRecDepth 100000 in
theorem impl_GoodCloud.calls (k : Nat) (a0_0 : Int) (a0_1 : Int) (A0_2 : Option Addr) (c0_2 : Nat) (l0_2 : List (S48)) (r : Bool) (w : World) (hr0_2 : Kd.C k48 w A0_2 l0_2.length l0_2) (hc0_2 : l0_2.length ≤ c0_2) (h : impl_GoodCloud.f k a0_0 a0_1 l0_2 = some r) :
  Calls Try.prog 31 #[.agg #[.int .i64 a0_0, .int .i64 a0_1, .slice A0_2 l0_2.length c0_2]] w fun e w' => e = .returned (.bool r) ∧ Below w.heap.size w w' := by
 have hu35 := Try.underlying35
 have HR0_2 := Aside0.mk hr0_2
 have HC0_2 := Aside0.mk hc0_2
 clear hr0_2 hc0_2
 have HB := Aside0.mk (Below.refl w.heap.size w)
 have H : ((impl_isSeed.f a0_0).bind fun t242 => (if t242 = true then ((impl_inRange.f a0_1 0 200).bind fun t243 => (if t243 = true then (if (l0_2.length : Int) ≤ 60 then ((slices_ContainsFunc_w47.f k l0_2).bind fun t244 => (some (!t244))) else (some false)) else (some false))) else (some false))) = some r := h
 clear h
 replace H := Option.bind_eq_some_iff.mp H
 obtain ⟨t242, A20, H⟩ := H
 replace H : (if t242 = true then ((impl_inRange.f a0_1 0 200).bind fun t243 => (if t243 = true then (if (l0_2.length : Int) ≤ 60 then ((slices_ContainsFunc_w47.f k l0_2).bind fun t244 => (some (!t244))) else (some false)) else (some false))) else (some false)) = some r := H
 have A2 := Aside0.mk A20
 clear A20
 by_cases c3 : t242 = true
 ·subst c3
  have H1 : ((impl_inRange.f a0_1 0 200).bind fun t243 => (if t243 = true then (if (l0_2.length : Int) ≤ 60 then ((slices_ContainsFunc_w47.f k l0_2).bind fun t244 => (some (!t244))) else (some false)) else (some false))) = some r := by rw [if_pos rfl] at H; exact H
  clear H
  have H := H1
  clear H1
  replace H := Option.bind_eq_some_iff.mp H
  obtain ⟨t243, A40, H⟩ := H
  replace H : (if t243 = true then (if (l0_2.length : Int) ≤ 60 then ((slices_ContainsFunc_w47.f k l0_2).bind fun t244 => (some (!t244))) else (some false)) else (some false)) = some r := H
  have A4 := Aside0.mk A40
  clear A40
  by_cases c5 : t243 = true
  ·subst c5
   have H1 : (if (l0_2.length : Int) ≤ 60 then ((slices_ContainsFunc_w47.f k l0_2).bind fun t244 => (some (!t244))) else (some false)) = some r := by rw [if_pos rfl] at H; exact H
   clear H
   have H := H1
   clear H1
   by_cases c6 : (l0_2.length : Int) ≤ 60
   ·rw [if_pos c6] at H
    have c6b0 : decide ((l0_2.length : Int) ≤ 60) = true := decide_eq_true c6
    have c6b1 : decide (l0_2.length ≤ 60) = true := decide_eq_true (by omega)
    clear c6
    replace H := Option.bind_eq_some_iff.mp H
    obtain ⟨t244, A70, H⟩ := H
    replace H : (some (!t244)) = some r := H
    have A7 := Aside0.mk A70
    clear A70
    obtain rfl := Option.some.inj H
    go_enter Try.func31, Try.ntmps31
    go_wp2_with (first | ((with_reducible refine gate_dst (N := 1) rfl ?_); (try (refine gate_guard (by rfl) ?_; dsimp only)); refine box_event rfl (N := 1) rfl (cs := #[.int .i64 a0_0, .int .i64 a0_1, .slice A0_2 l0_2.length c0_2]) (t := 35) sE ?_; intro gb241 hg w8 hbox hb; have BK241 := Aside0.mk hbox; have GW241 := gS w hg (lU); have GE241 := gS w hg (lU); replace HB := bH (lU) hb; clear hb hbox hg; have hcz9_0 := cz BK241 0 (.int .i64 a0_0); have hcz9_1 := cz BK241 1 (.int .i64 a0_1); have hcz9_2 := cz BK241 2 (.slice A0_2 l0_2.length c0_2); have hfz9_0 := fz BK241 0; have hfz9_1 := fz BK241 1; have hfz9_2 := fz BK241 2) | ((with_reducible refine gate_callee (f := 45) rfl ?_); refine goesL_ (some 5) rfl rfl Try.func45 (by kernel_rfl) rfl #[.int .i64 a0_0] rfl aE ?_; (with_reducible refine (impl_isSeed.calls a0_0 true _ A2.out).mono ?_); rintro e w' ⟨rfl, ⟨nd, rfl⟩⟩; refine ⟨_, rfl, ?_⟩) | (go_at_call 32; (with_reducible refine (impl_inRange.calls a0_1 0 200 true _ A4.out).mono ?_); rintro e w' ⟨rfl, ⟨nd, rfl⟩⟩) | (go_at_call 46; (with_reducible refine (slices_ContainsFunc_w47.calls k _ _ l0_2  t244 _ ?side1 ?side2 A7.out).mono ?_); (case side1 => exact cU (Kd.C_below HR0_2.out (lV1 GE241))); (case side2 => exact HC0_2.out); rintro e w10 ⟨rfl, hb⟩; replace BK241 := bB (bV BK241) hb; replace HB := bH (lV1 GE241) hb; (try clear hb)))
    go_ret
    exact ⟨eE, lV1 GE241⟩
   ·rw [if_neg c6] at H
    have c6b0 : decide ((l0_2.length : Int) ≤ 60) = false := decide_eq_false c6
    have c6b1 : decide (l0_2.length ≤ 60) = false := decide_eq_false (by omega)
    clear c6
    obtain rfl := Option.some.inj H
    go_enter Try.func31, Try.ntmps31
    go_wp2_with (first | ((with_reducible refine gate_dst (N := 1) rfl ?_); (try (refine gate_guard (by rfl) ?_; dsimp only)); refine box_event rfl (N := 1) rfl (cs := #[.int .i64 a0_0, .int .i64 a0_1, .slice A0_2 l0_2.length c0_2]) (t := 35) sE ?_; intro gb241 hg w11 hbox hb; have BK241 := Aside0.mk hbox; have GW241 := gS w hg (lU); have GE241 := gS w hg (lU); replace HB := bH (lU) hb; clear hb hbox hg; have hcz12_0 := cz BK241 0 (.int .i64 a0_0); have hcz12_1 := cz BK241 1 (.int .i64 a0_1); have hcz12_2 := cz BK241 2 (.slice A0_2 l0_2.length c0_2); have hfz12_0 := fz BK241 0; have hfz12_1 := fz BK241 1; have hfz12_2 := fz BK241 2) | ((with_reducible refine gate_callee (f := 45) rfl ?_); refine goesL_ (some 5) rfl rfl Try.func45 (by kernel_rfl) rfl #[.int .i64 a0_0] rfl aE ?_; (with_reducible refine (impl_isSeed.calls a0_0 true _ A2.out).mono ?_); rintro e w' ⟨rfl, ⟨nd, rfl⟩⟩; refine ⟨_, rfl, ?_⟩) | (go_at_call 32; (with_reducible refine (impl_inRange.calls a0_1 0 200 true _ A4.out).mono ?_); rintro e w' ⟨rfl, ⟨nd, rfl⟩⟩))
    go_ret
    exact ⟨eE, lV1 GE241⟩
  ·replace c5 := Bool.eq_false_iff.mpr c5
   subst c5
   have H1 : (some false) = some r := by rw [if_neg (show ¬ (false = true) by decide)] at H; exact H
   clear H
   have H := H1
   clear H1
   obtain rfl := Option.some.inj H
   go_enter Try.func31, Try.ntmps31
   go_wp2_with (first | ((with_reducible refine gate_dst (N := 1) rfl ?_); (try (refine gate_guard (by rfl) ?_; dsimp only)); refine box_event rfl (N := 1) rfl (cs := #[.int .i64 a0_0, .int .i64 a0_1, .slice A0_2 l0_2.length c0_2]) (t := 35) sE ?_; intro gb241 hg w13 hbox hb; have BK241 := Aside0.mk hbox; have GW241 := gS w hg (lU); have GE241 := gS w hg (lU); replace HB := bH (lU) hb; clear hb hbox hg; have hcz14_0 := cz BK241 0 (.int .i64 a0_0); have hcz14_1 := cz BK241 1 (.int .i64 a0_1); have hcz14_2 := cz BK241 2 (.slice A0_2 l0_2.length c0_2); have hfz14_0 := fz BK241 0; have hfz14_1 := fz BK241 1; have hfz14_2 := fz BK241 2) | ((with_reducible refine gate_callee (f := 45) rfl ?_); refine goesL_ (some 5) rfl rfl Try.func45 (by kernel_rfl) rfl #[.int .i64 a0_0] rfl aE ?_; (with_reducible refine (impl_isSeed.calls a0_0 true _ A2.out).mono ?_); rintro e w' ⟨rfl, ⟨nd, rfl⟩⟩; refine ⟨_, rfl, ?_⟩) | (go_at_call 32; (with_reducible refine (impl_inRange.calls a0_1 0 200 false _ A4.out).mono ?_); rintro e w' ⟨rfl, ⟨nd, rfl⟩⟩))
   go_ret
   exact ⟨eE, lV1 GE241⟩
 ·replace c3 := Bool.eq_false_iff.mpr c3
  subst c3
  have H1 : (some false) = some r := by rw [if_neg (show ¬ (false = true) by decide)] at H; exact H
  clear H
  have H := H1
  clear H1
  obtain rfl := Option.some.inj H
  go_enter Try.func31, Try.ntmps31
  go_wp2_with (first | ((with_reducible refine gate_dst (N := 1) rfl ?_); (try (refine gate_guard (by rfl) ?_; dsimp only)); refine box_event rfl (N := 1) rfl (cs := #[.int .i64 a0_0, .int .i64 a0_1, .slice A0_2 l0_2.length c0_2]) (t := 35) sE ?_; intro gb241 hg w15 hbox hb; have BK241 := Aside0.mk hbox; have GW241 := gS w hg (lU); have GE241 := gS w hg (lU); replace HB := bH (lU) hb; clear hb hbox hg; have hcz16_0 := cz BK241 0 (.int .i64 a0_0); have hcz16_1 := cz BK241 1 (.int .i64 a0_1); have hcz16_2 := cz BK241 2 (.slice A0_2 l0_2.length c0_2); have hfz16_0 := fz BK241 0; have hfz16_1 := fz BK241 1; have hfz16_2 := fz BK241 2) | ((with_reducible refine gate_callee (f := 45) rfl ?_); refine goesL_ (some 5) rfl rfl Try.func45 (by kernel_rfl) rfl #[.int .i64 a0_0] rfl aE ?_; (with_reducible refine (impl_isSeed.calls a0_0 false _ A2.out).mono ?_); rintro e w' ⟨rfl, ⟨nd, rfl⟩⟩; refine ⟨_, rfl, ?_⟩))
  go_ret
  exact ⟨eE, lV1 GE241⟩
def impl_Spark_33.f (l0 : List (S48)) : Option (List (S48)) := if l0.length < 3518437208883 then (some l0) else (none)
set_option maxHeartbeats 8000000 in
set_option maxRecDepth 100000 in
theorem impl_Spark_33.calls (A0 : Option Addr) (c0 : Nat) (l0 : List (S48)) (r : List (S48)) (w : World) (hr0 : Kd.C k48 w A0 l0.length l0) (hc0 : l0.length ≤ c0) (h : impl_Spark_33.f l0 = some r) :
  Calls Try.prog 33 #[.slice A0 l0.length c0] w fun e w' => ∃ v0_ : Value, e = .returned (v0_) ∧ Kd.R k48 48 w' w.heap.size (fun _ => True) v0_ r ∧ Below w.heap.size w w' := by
 have hl : l0.length < 3518437208883 ∧ l0 = r := by
  unfold impl_Spark_33.f at h
  split at h
  ·exact ⟨by assumption, Option.some.inj h⟩
  ·cases h
 clear h
 obtain ⟨hl, rfl⟩ := hl
 have HL := Aside0.mk hl
 have HR0 := Aside0.mk hr0
 clear hr0 hl
 have HT := Try.underlying33
 have u0 : ∀ w, Sem.run Try.prog (underlying 33) w = .ok (TypeDesc.slice 48) w := run_underlying HT
 have q0 : ∀ (w : World) (a : Option Addr) (n c n' c' : Nat), (binOp .eql 33 (.slice a n c) (.slice none n' c')).run Try.prog w = .ok (.bool a.isNone) w := fun w a n c n' c' => Lib.run_eql_slice_nil w _ _ a n c n' c' HT
 cases A0 with
 | none =>
  obtain rfl : l0 = [] := by
   rcases Nat.eq_zero_or_pos l0.length with h0 | h0
   ·exact List.eq_nil_of_length_eq_zero h0
   ·obtain ⟨ad, h1, _⟩ := HR0.out.2.2 h0
    cases h1
  go_enter Try.func33, Try.ntmps33
  go_wp2
  go_ret
  exact ⟨_, rfl, Kd.R_nil _ _ _ _ _, Below.refl _ _⟩
 | some ad =>
  go_enter Try.func33, Try.ntmps33
  go_wp2_with (first | ((with_reducible refine gate_builtin (b := .append) (xs := #[.tmp 5, .tmp 6]) rfl ?_); at_builtin; refine Kd.R_append_rows k48 (w0 := w) w.heap.size rfl (.tmp 5) (.tmp 6) 33 48 (.agg #[(.int .i64 0), (.int .i64 0), (.int .i64 0), (.int .i64 0), (.int .i64 0)]) 40 rfl Try.underlying33 info48 rfl (by decide) (by omega) (.slice (some ⟨w.heap.size, 0, none⟩) 0 0) [] l0 (some ad) l0.length c0 (fun _ => True) (fun _ => False) rfl rfl ?aO ?aR (fun _ _ h => h) (fun _ h => h.elim) ?aF ?aB ?aS ?aL ?_; (case aR => exact Kd.C_below HR0.out (below_alloc (Below.refl _ _) _)); (case aB => exact below_alloc (Below.refl _ _) _); (case aF => exact fun _ _ => trivial); (case aO => exact ⟨fun _ _ => trivial, [], World.ownsRow_made w #[] 0 (Nat.le_refl _) (Nat.zero_le _) rfl, ⟨rfl, fun j p hj => by simp at hj⟩⟩); (case aS => simp); (case aL => have := HL.out; simp only [List.length_nil, Nat.zero_add]; omega); intro v1 w1 ho hb hg hat; rw [List.nil_append] at ho; have HO := Aside0.mk ho; have HB := Aside0.mk hb; clear ho hb hg hat))
  go_ret
  exact ⟨_, rfl, HO.out, HB.out⟩
def impl_NextCoin.f (a0 : Int) : Option (Int × Int) := (impl_isSeed.f a0).bind fun t245 => (if t245 = true then (some (Int.tmod (wrap64 ((wrap64 (a0 * 1103515245)) + 12345)) 2147483648, wrap64 (Int.tdiv (Int.tmod (wrap64 ((wrap64 (a0 * 1103515245)) + 12345)) 2147483648) 65536))) else (some (0, 0)))
set_option maxHeartbeats 8000000 in
set_option maxRecDepth 100000 in
theorem impl_NextCoin.calls (a0 : Int) (r1 : Int) (r2 : Int) (w : World) (h : impl_NextCoin.f a0 = some (r1, r2)) :
  Calls Try.prog 57 #[.int .i64 a0] w fun e w' => e = .returned (.tuple #[.int .i64 r1, .int .i64 r2]) ∧ Drawn0 w w' := by
 have H : ((impl_isSeed.f a0).bind fun t245 => (if t245 = true then (some (Int.tmod (wrap64 ((wrap64 (a0 * 1103515245)) + 12345)) 2147483648, wrap64 (Int.tdiv (Int.tmod (wrap64 ((wrap64 (a0 * 1103515245)) + 12345)) 2147483648) 65536))) else (some (0, 0)))) = some (r1, r2) := h
 clear h
 replace H := Option.bind_eq_some_iff.mp H
 obtain ⟨t245, A20, H⟩ := H
 replace H : (if t245 = true then (some (Int.tmod (wrap64 ((wrap64 (a0 * 1103515245)) + 12345)) 2147483648, wrap64 (Int.tdiv (Int.tmod (wrap64 ((wrap64 (a0 * 1103515245)) + 12345)) 2147483648) 65536))) else (some (0, 0))) = some (r1, r2) := H
 have A2 := Aside0.mk A20
 clear A20
 by_cases c3 : t245 = true
 ·subst c3
  have H1 : (some (Int.tmod (wrap64 ((wrap64 (a0 * 1103515245)) + 12345)) 2147483648, wrap64 (Int.tdiv (Int.tmod (wrap64 ((wrap64 (a0 * 1103515245)) + 12345)) 2147483648) 65536))) = some (r1, r2) := by rw [if_pos rfl] at H; exact H
  clear H
  have H := H1
  clear H1
  simp only [Option.some.injEq, Prod.mk.injEq] at H
  obtain ⟨rfl, rfl⟩ := H
  go_enter Try.func57, Try.ntmps57
  go_wp2_with (first | ((with_reducible refine gate_callee (f := 45) rfl ?_); refine goesL_ (some 6) rfl rfl Try.func45 (by kernel_rfl) rfl #[.int .i64 a0] rfl aE ?_; (with_reducible refine (impl_isSeed.calls a0 true _ A2.out).mono ?_); rintro e w' ⟨rfl, ⟨nd, rfl⟩⟩; refine ⟨_, rfl, ?_⟩))
  go_ret2
  exact ⟨by first | rfl | (simp; done) | (simp [*]; done) | exact not_isEmpty _ | exact (not_isEmpty _).symm | exact is_empty _ | exact (is_empty _).symm, by repeat (first | exact Drawn0.refl _ | apply Drawn0.step)⟩
 ·replace c3 := Bool.eq_false_iff.mpr c3
  subst c3
  have H1 : (some (0, 0)) = some (r1, r2) := by rw [if_neg (show ¬ (false = true) by decide)] at H; exact H
  clear H
  have H := H1
  clear H1
  simp only [Option.some.injEq, Prod.mk.injEq] at H
  obtain ⟨rfl, rfl⟩ := H
  go_enter Try.func57, Try.ntmps57
  go_wp2_with (first | ((with_reducible refine gate_callee (f := 45) rfl ?_); refine goesL_ (some 6) rfl rfl Try.func45 (by kernel_rfl) rfl #[.int .i64 a0] rfl aE ?_; (with_reducible refine (impl_isSeed.calls a0 false _ A2.out).mono ?_); rintro e w' ⟨rfl, ⟨nd, rfl⟩⟩; refine ⟨_, rfl, ?_⟩))
  go_ret2
  exact ⟨by first | rfl | (simp; done) | (simp [*]; done) | exact not_isEmpty _ | exact (not_isEmpty _).symm | exact is_empty _ | exact (is_empty _).symm, by repeat (first | exact Drawn0.refl _ | apply Drawn0.step)⟩
def bits_Mul64.f (a0 : Int) (a1 : Int) : Option (Int × Int) := some (IntKind.u64.wrap ((IntKind.u64.wrap ((IntKind.u64.wrap ((a0 / 4294967296) * (a1 / 4294967296))) + ((IntKind.u64.wrap ((IntKind.u64.wrap ((a0 / 4294967296) * (Go.bits .and .u64 a1 4294967295))) + ((IntKind.u64.wrap ((Go.bits .and .u64 a0 4294967295) * (Go.bits .and .u64 a1 4294967295))) / 4294967296))) / 4294967296))) + ((IntKind.u64.wrap ((Go.bits .and .u64 (IntKind.u64.wrap ((IntKind.u64.wrap ((a0 / 4294967296) * (Go.bits .and .u64 a1 4294967295))) + ((IntKind.u64.wrap ((Go.bits .and .u64 a0 4294967295) * (Go.bits .and .u64 a1 4294967295))) / 4294967296))) 4294967295) + (IntKind.u64.wrap ((Go.bits .and .u64 a0 4294967295) * (a1 / 4294967296))))) / 4294967296)), IntKind.u64.wrap (a0 * a1))
set_option maxHeartbeats 8000000 in
set_option maxRecDepth 100000 in
theorem bits_Mul64.calls (a0 : Int) (a1 : Int) (r1 : Int) (r2 : Int) (w : World) (h : bits_Mul64.f a0 a1 = some (r1, r2)) :
  Calls Try.prog 62 #[.int .u64 a0, .int .u64 a1] w fun e w' => e = .returned (.tuple #[.int .u64 r1, .int .u64 r2]) ∧ Drawn0 w w' := by
 have H : (some (IntKind.u64.wrap ((IntKind.u64.wrap ((IntKind.u64.wrap ((a0 / 4294967296) * (a1 / 4294967296))) + ((IntKind.u64.wrap ((IntKind.u64.wrap ((a0 / 4294967296) * (Go.bits .and .u64 a1 4294967295))) + ((IntKind.u64.wrap ((Go.bits .and .u64 a0 4294967295) * (Go.bits .and .u64 a1 4294967295))) / 4294967296))) / 4294967296))) + ((IntKind.u64.wrap ((Go.bits .and .u64 (IntKind.u64.wrap ((IntKind.u64.wrap ((a0 / 4294967296) * (Go.bits .and .u64 a1 4294967295))) + ((IntKind.u64.wrap ((Go.bits .and .u64 a0 4294967295) * (Go.bits .and .u64 a1 4294967295))) / 4294967296))) 4294967295) + (IntKind.u64.wrap ((Go.bits .and .u64 a0 4294967295) * (a1 / 4294967296))))) / 4294967296)), IntKind.u64.wrap (a0 * a1))) = some (r1, r2) := h
 clear h
 simp only [Option.some.injEq, Prod.mk.injEq] at H
 obtain ⟨rfl, rfl⟩ := H
 go_enter Try.func62, Try.ntmps62
 go_wp2
 go_ret2
 exact ⟨by first | rfl | (simp; done) | (simp [*]; done) | exact not_isEmpty _ | exact (not_isEmpty _).symm | exact is_empty _ | exact (is_empty _).symm, by repeat (first | exact Drawn0.refl _ | apply Drawn0.step)⟩
def impl_size.f (a0 : Int) : Option (Int) := some (mx a0 (wrap64 (-a0)))
set_option maxHeartbeats 8000000 in
set_option maxRecDepth 100000 in
theorem impl_size.calls (a0 : Int) (r : Int) (w : World) (h : impl_size.f a0 = some r) :
  Calls Try.prog 63 #[.int .i64 a0] w fun e w' => e = .returned (.int .i64 r) ∧ Below w.heap.size w w' := by
 have HB := Aside0.mk (Below.refl w.heap.size w)
 have H : (some (mx a0 (wrap64 (-a0)))) = some r := h
 clear h
 obtain ⟨ji2, hji2⟩ : ∃ j_ : Int, (mx a0 (wrap64 (-a0))) = j_ := ⟨_, rfl⟩
 replace H : (some ji2) = some r := by first | (rw [hji2] at H; exact H) | (simp only [hji2] at H ⊢; exact H)
 have hji2_ : (if a0 < (wrap64 (-a0)) then (wrap64 (-a0)) else a0) = ji2 := hji2
 obtain rfl := Option.some.inj H
 go_enter Try.func63, Try.ntmps63
 go_wp2
 go_ret
 exact ⟨by first | rfl | (simp [errW_none, errW_some] <;> rfl) | (simp only [← hji2]; first | rfl | (simp [errW_none, errW_some] <;> rfl)) | (simp [*, errW_none, errW_some] <;> rfl), lU⟩
def impl_FixMul.j0 : Nat → Int → Int → Int → Int → Int → Option (Int)
 | 0, _, _, _, _, _ => none
 | k + 1, x0, x1, x5, x6, x7 => if ((IntKind.u64.wrap (x5 + (add64c x6 x7))) / 65536) = 0 then (if ((decide (x0 < 0)) != (decide (x1 < 0))) = true then (some (wrap64 (-(wrap64 (mn (Go.bits .or .u64 (IntKind.u64.wrap ((IntKind.u64.wrap (x5 + (add64c x6 x7))) * 281474976710656)) ((add64 x6 x7) / 65536)) 1099511627776))))) else (some (wrap64 (mn (Go.bits .or .u64 (IntKind.u64.wrap ((IntKind.u64.wrap (x5 + (add64c x6 x7))) * 281474976710656)) ((add64 x6 x7) / 65536)) 1099511627776)))) else (if ((decide (x0 < 0)) != (decide (x1 < 0))) = true then (some (-1099511627776)) else (some 1099511627776))
def impl_FixMul.f (k : Nat) (a0 : Int) (a1 : Int) : Option (Int) := (impl_areFixed.f k (([a0, a1] : List Int))).bind fun t249 => (if t249 = true then ((impl_size.f a0).bind fun t250 => ((impl_size.f a1).bind fun t251 => ((bits_Mul64.f (IntKind.u64.wrap (t250)) (IntKind.u64.wrap (t251))).bind fun bt252 => (if ((decide (a0 < 0)) != (decide (a1 < 0))) = true then (impl_FixMul.j0 k a0 a1 bt252.1 bt252.2 (32768 - 1)) else (impl_FixMul.j0 k a0 a1 bt252.1 bt252.2 32768))))) else (some 0))
theorem impl_FixMul.mono_l : ∀ k, (∀ y0 y1 y2 y3 y4, LeO (impl_FixMul.j0 k y0 y1 y2 y3 y4) (impl_FixMul.j0 (k + 1) y0 y1 y2 y3 y4))
 | 0 => fun _ _ _ _ _ r h => by simp [impl_FixMul.j0] at h
 | k + 1 => by
  have ih0 := impl_FixMul.mono_l k
  ·intro y0 y1 y2 y3 y4
   unfold impl_FixMul.j0
   repeat' first
   | (with_reducible exact ih0 _ _ _ _ _)
   | (with_reducible exact impl_areFixed.mono _ _)
   | (with_reducible exact LeO.refl _)
   | (with_reducible exact LeO.none _)
   | (with_reducible refine LeO.ite ?_ ?_)
   | (with_reducible refine LeO.bind ?_ (fun _ => ?_))
   | exact ih0 _ _ _ _ _
   | exact impl_areFixed.mono _ _
   | exact LeO.none _
   | refine LeO.ite ?_ ?_
   | refine LeO.bind ?_ (fun _ => ?_)
theorem impl_FixMul.mono : ∀ a0 a1 k, LeO (impl_FixMul.f k a0 a1) (impl_FixMul.f (k + 1) a0 a1) := by
 intro a0 a1 k
 have ih0 := impl_FixMul.mono_l k
 unfold impl_FixMul.f
 repeat' first
   | (with_reducible exact ih0 _ _ _ _ _)
   | (with_reducible exact impl_areFixed.mono _ _)
   | (with_reducible exact LeO.refl _)
   | (with_reducible exact LeO.none _)
   | (with_reducible refine LeO.ite ?_ ?_)
   | (with_reducible refine LeO.bind ?_ (fun _ => ?_))
   | exact ih0 _ _ _ _ _
   | exact impl_areFixed.mono _ _
   | exact LeO.none _
   | refine LeO.ite ?_ ?_
   | refine LeO.bind ?_ (fun _ => ?_)
set_option maxHeartbeats 8000000 in
set_option maxRecDepth 100000 in
theorem impl_FixMul.calls (k : Nat) (a0 : Int) (a1 : Int) (r : Int) (w : World) (h : impl_FixMul.f k a0 a1 = some r) :
  Calls Try.prog 58 #[.int .i64 a0, .int .i64 a1] w fun e w' => e = .returned (.int .i64 r) ∧ Below w.heap.size w w' := by
 have hx64 : ∀ (x_ y_ : Int) (W_ : World), (callFunc 64 #[.int .u64 x_, .int .u64 y_, .int .u64 0]).run Try.prog W_ = .ok (.value (.tuple #[.int .u64 (add64 x_ y_), .int .u64 (add64c x_ y_)])) W_ := fun x_ y_ W_ => call_add64 Try.func64 (by kernel_rfl) (by kernel_rfl) (by kernel_rfl) (by kernel_rfl) x_ y_ W_
 have HB := Aside0.mk (Below.refl w.heap.size w)
 have H : ((impl_areFixed.f k (([a0, a1] : List Int))).bind fun t249 => (if t249 = true then ((impl_size.f a0).bind fun t250 => ((impl_size.f a1).bind fun t251 => ((bits_Mul64.f (IntKind.u64.wrap (t250)) (IntKind.u64.wrap (t251))).bind fun bt252 => (if ((decide (a0 < 0)) != (decide (a1 < 0))) = true then (impl_FixMul.j0 k a0 a1 bt252.1 bt252.2 (32768 - 1)) else (impl_FixMul.j0 k a0 a1 bt252.1 bt252.2 32768))))) else (some 0))) = some r := h
 clear h
 obtain ⟨y246, hy246⟩ : ∃ y_ : List Int, y_ = (([a0, a1] : List Int)) := ⟨_, rfl⟩
 replace H : ((impl_areFixed.f k y246).bind fun t249 => (if t249 = true then ((impl_size.f a0).bind fun t250 => ((impl_size.f a1).bind fun t251 => ((bits_Mul64.f (IntKind.u64.wrap (t250)) (IntKind.u64.wrap (t251))).bind fun bt252 => (if ((decide (a0 < 0)) != (decide (a1 < 0))) = true then (impl_FixMul.j0 k a0 a1 bt252.1 bt252.2 (32768 - 1)) else (impl_FixMul.j0 k a0 a1 bt252.1 bt252.2 32768))))) else (some 0))) = some r := by first | (rw [hy246]; with_reducible exact H) | (have H2_ := (Option.bind_some _ _).symm.trans H; rw [hy246]; with_reducible exact H2_) | (have H2_ := (Option.bind_some _ _).symm.trans H; with_reducible exact H2_) | with_reducible exact H | (rw [hy246]; exact H) | exact H
 have Ny246 := Aside0.mk hy246
 clear hy246
 replace H := Option.bind_eq_some_iff.mp H
 obtain ⟨t249, A30, H⟩ := H
 replace H : (if t249 = true then ((impl_size.f a0).bind fun t250 => ((impl_size.f a1).bind fun t251 => ((bits_Mul64.f (IntKind.u64.wrap (t250)) (IntKind.u64.wrap (t251))).bind fun bt252 => (if ((decide (a0 < 0)) != (decide (a1 < 0))) = true then (impl_FixMul.j0 k a0 a1 bt252.1 bt252.2 (32768 - 1)) else (impl_FixMul.j0 k a0 a1 bt252.1 bt252.2 32768))))) else (some 0)) = some r := H
 have A3 := Aside0.mk A30
 clear A30
 by_cases c4 : t249 = true
 ·subst c4
  have H1 : ((impl_size.f a0).bind fun t250 => ((impl_size.f a1).bind fun t251 => ((bits_Mul64.f (IntKind.u64.wrap (t250)) (IntKind.u64.wrap (t251))).bind fun bt252 => (if ((decide (a0 < 0)) != (decide (a1 < 0))) = true then (impl_FixMul.j0 k a0 a1 bt252.1 bt252.2 (32768 - 1)) else (impl_FixMul.j0 k a0 a1 bt252.1 bt252.2 32768))))) = some r := by rw [if_pos rfl] at H; exact H
  clear H
  have H := H1
  clear H1
  replace H := Option.bind_eq_some_iff.mp H
  obtain ⟨t250, A50, H⟩ := H
  replace H : ((impl_size.f a1).bind fun t251 => ((bits_Mul64.f (IntKind.u64.wrap (t250)) (IntKind.u64.wrap (t251))).bind fun bt252 => (if ((decide (a0 < 0)) != (decide (a1 < 0))) = true then (impl_FixMul.j0 k a0 a1 bt252.1 bt252.2 (32768 - 1)) else (impl_FixMul.j0 k a0 a1 bt252.1 bt252.2 32768)))) = some r := H
  have A5 := Aside0.mk A50
  clear A50
  replace H := Option.bind_eq_some_iff.mp H
  obtain ⟨t251, A60, H⟩ := H
  replace H : ((bits_Mul64.f (IntKind.u64.wrap (t250)) (IntKind.u64.wrap (t251))).bind fun bt252 => (if ((decide (a0 < 0)) != (decide (a1 < 0))) = true then (impl_FixMul.j0 k a0 a1 bt252.1 bt252.2 (32768 - 1)) else (impl_FixMul.j0 k a0 a1 bt252.1 bt252.2 32768))) = some r := H
  have A6 := Aside0.mk A60
  clear A60
  replace H := Option.bind_eq_some_iff.mp H
  obtain ⟨⟨t252, t253⟩, A70, H⟩ := H
  replace H : (if ((decide (a0 < 0)) != (decide (a1 < 0))) = true then (impl_FixMul.j0 k a0 a1 t252 t253 (32768 - 1)) else (impl_FixMul.j0 k a0 a1 t252 t253 32768)) = some r := H
  have A7 := Aside0.mk A70
  clear A70
  have HC8 := Aside0.mk H
  clear H
  go_enter Try.func58, Try.ntmps58
  go_upto_if 29 with (first | ((with_reducible refine gate_dst (N := 12) rfl ?_); refine Kd.R_lit (Kd.int .i64) _ 3 ?hg (N := 12) ?hd (xs := ([a0, a1] : List Int)) (inner := [.int .i64 a0, .int .i64 a1]) (ok := fun _ => True) (okp := fun _ => True) ?hr ?hp (fun _ hk => hk) trivial (Below.refl _ _) (Nat.le_refl _) (by simp) ?_; (case hd => rfl); (case hg => rfl); (case hr => exact sE); (case hp => exact (Reps.one (show Kd.M (Kd.int .i64) _ _ _ a0 [.int .i64 a0] from rfl) (Reps.one (show Kd.M (Kd.int .i64) _ _ _ a1 [.int .i64 a1] from rfl) (Reps.none _ _)))); intro v247 w9 ho10 hb hg_ hnew_; clear hg_ hnew_; (first | rw [← Ny246.out] at ho10 | (simp only [Int.reduceToNat] at ho10; rw [← Ny246.out] at ho10)); have HO248 := Aside0.mk (Kd.R_lower ho10 (below_size (lU))); replace HB := bH (lU) hb; clear hb ho10; obtain ⟨Ao11, co11, eo11⟩ := Kd.R_slice HO248.out; subst eo11) | ((with_reducible refine gate_callee (f := 48) rfl ?_); refine goesL_ (some 13) rfl rfl Try.func48 (by kernel_rfl) rfl #[.slice Ao11 y246.length co11] rfl aE ?_; (with_reducible refine (impl_areFixed.calls k _ _ y246 true _ ?side1 ?side2 A3.out).mono ?_); (case side1 => exact cU (Kd.R_reads' HO248.out).2.2); (case side2 => exact (Kd.R_reads' HO248.out).2.1); rintro e w' ⟨rfl, ⟨nd, rfl⟩⟩; refine ⟨_, rfl, ?_⟩) | ((with_reducible refine gate_callee (f := 63) rfl ?_); refine goesL_ (some 17) rfl rfl Try.func63 (by kernel_rfl) rfl #[.int .i64 a0] rfl aE ?_; (with_reducible refine (impl_size.calls a0 t250 _ A5.out).mono ?_); rintro e w12 ⟨rfl, hb⟩; refine ⟨_, rfl, ?_⟩; replace HO248 := Aside0.mk (Kd.R_below (rU HO248.out) hb); replace HB := bH (lU) hb; (try clear hb)) | ((with_reducible refine gate_callee (f := 63) rfl ?_); refine goesL_ (some 20) rfl rfl Try.func63 (by kernel_rfl) rfl #[.int .i64 a1] rfl aE ?_; (with_reducible refine (impl_size.calls a1 t251 _ A6.out).mono ?_); rintro e w13 ⟨rfl, hb⟩; refine ⟨_, rfl, ?_⟩; replace HO248 := Aside0.mk (Kd.R_below (rU HO248.out) hb); replace HB := bH (lU) hb; (try clear hb)) | ((with_reducible refine gate_callee (f := 62) rfl ?_); refine goesL_ (some 22) rfl rfl Try.func62 (by kernel_rfl) rfl #[.int .u64 (IntKind.u64.wrap (t250)), .int .u64 (IntKind.u64.wrap (t251))] rfl aE ?_; (with_reducible refine (bits_Mul64.calls (IntKind.u64.wrap (t250)) (IntKind.u64.wrap (t251)) t252 t253 _ A7.out).mono ?_); rintro e w' ⟨rfl, ⟨nd, rfl⟩⟩; refine ⟨_, rfl, ?_⟩))
  (try simp only [Act.put, List.setIfInBounds_toArray, List.set_cons_zero, List.set_cons_succ])
  go_cut [7] (fun v7 wc => ∃ (kq : Nat) (x7_7 : Int), v7 = .int .u64 x7_7 ∧ Aside0 (impl_FixMul.j0 kq a0 a1 t252 t253 x7_7 = some r) ∧ Aside0 (kq ≤ k) ∧ Aside0 (Below w.heap.size w wc))
  case first =>
   have H := HC8.out
   clear HC8
   by_cases c14 : ((decide (a0 < 0)) != (decide (a1 < 0))) = true
   ·rw [if_pos c14] at H
    have c14b0 : ((decide (a0 < 0)) != (decide (a1 < 0))) = true := c14
    (try (have c14b1 : decide ((decide (a0 < 0)) = (decide (a1 < 0))) = false := by simpa using c14))
    (try (have c14b2 : ((decide (a0 < 0)) == (decide (a1 < 0))) = false := by simpa using c14))
    (try (have c14b3 : ¬ ((decide (a0 < 0)) = (decide (a1 < 0))) := by simpa using c14))
    clear c14
    (first | rw [c14b0] | (simp only [i64_w, i32_w]; rw [c14b0]) | (rw [c14b2]; simp only [Bool.not_false, Bool.not_true]) | skip)
    have H' := Aside0.mk H
    clear H
    go_wp2
    go_meet
    case rel => exact ⟨_, (32768 - 1), tE, H', ⟨by first | omega | exact Nat.le_refl _⟩, ⟨by repeat (first | (with_reducible first | exact HB.out | apply below_alloc | apply pw_below_drewN | apply below_drew1) | exact HB.out)⟩⟩
   ·rw [if_neg c14] at H
    have c14b0 : ((decide (a0 < 0)) != (decide (a1 < 0))) = false := by simpa using c14
    (try (have c14b1 : decide ((decide (a0 < 0)) = (decide (a1 < 0))) = true := by simpa using c14))
    (try (have c14b2 : ((decide (a0 < 0)) == (decide (a1 < 0))) = true := by simpa using c14))
    clear c14
    (first | rw [c14b0] | (simp only [i64_w, i32_w]; rw [c14b0]) | (rw [c14b2]; simp only [Bool.not_false, Bool.not_true]) | skip)
    have H' := Aside0.mk H
    clear H
    go_wp2
    go_meet
    case rel => exact ⟨_, (32768), tE, H', ⟨by first | omega | exact Nat.le_refl _⟩, ⟨by repeat (first | (with_reducible first | exact HB.out | apply below_alloc | apply pw_below_drewN | apply below_drew1) | exact HB.out)⟩⟩
  case rest =>
   clear HC8
   try clear c1
   try clear p2
   try clear c4
   try clear c5
   try clear c6
   try clear c14
   try clear c14b0
   try clear c14b1
   try clear c14b2
   obtain ⟨kq, x7_7, rfl, HA, HJ7, HB⟩ := hcut
   cases kq with
   | zero => exact absurd HA.out (by simp [impl_FixMul.j0])
   | succ kj7 =>
    have H := HA.out
    clear HA
    simp only [impl_FixMul.j0] at H
    by_cases c15 : ((IntKind.u64.wrap (t252 + (add64c t253 x7_7))) / 65536) = 0
    ·rw [if_pos c15] at H
     have c15b0 : (((IntKind.u64.wrap (t252 + (add64c t253 x7_7))) / 65536) == 0) = true := beq_iff_eq.mpr c15
     have c15b1 : (((IntKind.u64.wrap (t252 + (add64c t253 x7_7))) / 65536) != 0) = false := bne_eq_false_iff_eq.mpr c15
     clear c15
     obtain ⟨ji16, hji16⟩ : ∃ j_ : Int, (mn (Go.bits .or .u64 (IntKind.u64.wrap ((IntKind.u64.wrap (t252 + (add64c t253 x7_7))) * 281474976710656)) ((add64 t253 x7_7) / 65536)) 1099511627776) = j_ := ⟨_, rfl⟩
     replace H : (if ((decide (a0 < 0)) != (decide (a1 < 0))) = true then (some (wrap64 (-(wrap64 (ji16))))) else (some (wrap64 (ji16)))) = some r := by first | (rw [hji16] at H; exact H) | (simp only [hji16] at H ⊢; exact H)
     have hji16_ : (if 1099511627776 < (Go.bits .or .u64 (IntKind.u64.wrap ((IntKind.u64.wrap (t252 + (add64c t253 x7_7))) * 281474976710656)) ((add64 t253 x7_7) / 65536)) then 1099511627776 else (Go.bits .or .u64 (IntKind.u64.wrap ((IntKind.u64.wrap (t252 + (add64c t253 x7_7))) * 281474976710656)) ((add64 t253 x7_7) / 65536))) = ji16 := hji16
     by_cases c17 : ((decide (a0 < 0)) != (decide (a1 < 0))) = true
     ·rw [if_pos c17] at H
      have c17b0 : ((decide (a0 < 0)) != (decide (a1 < 0))) = true := c17
      (try (have c17b1 : decide ((decide (a0 < 0)) = (decide (a1 < 0))) = false := by simpa using c17))
      (try (have c17b2 : ((decide (a0 < 0)) == (decide (a1 < 0))) = false := by simpa using c17))
      (try (have c17b3 : ¬ ((decide (a0 < 0)) = (decide (a1 < 0))) := by simpa using c17))
      clear c17
      obtain rfl := Option.some.inj H
      go_wp2
      go_ret
      exact ⟨by first | rfl | (simp [errW_none, errW_some] <;> rfl) | (simp only [← hji16]; first | rfl | (simp [errW_none, errW_some] <;> rfl)) | (simp [*, errW_none, errW_some] <;> rfl), lU⟩
     ·rw [if_neg c17] at H
      have c17b0 : ((decide (a0 < 0)) != (decide (a1 < 0))) = false := by simpa using c17
      (try (have c17b1 : decide ((decide (a0 < 0)) = (decide (a1 < 0))) = true := by simpa using c17))
      (try (have c17b2 : ((decide (a0 < 0)) == (decide (a1 < 0))) = true := by simpa using c17))
      clear c17
      obtain rfl := Option.some.inj H
      go_wp2
      go_ret
      exact ⟨by first | rfl | (simp [errW_none, errW_some] <;> rfl) | (simp only [← hji16]; first | rfl | (simp [errW_none, errW_some] <;> rfl)) | (simp [*, errW_none, errW_some] <;> rfl), lU⟩
    ·rw [if_neg c15] at H
     have c15b0 : (((IntKind.u64.wrap (t252 + (add64c t253 x7_7))) / 65536) == 0) = false := beq_eq_false_iff_ne.mpr c15
     have c15b1 : (((IntKind.u64.wrap (t252 + (add64c t253 x7_7))) / 65536) != 0) = true := bne_iff_ne.mpr c15
     by_cases c18 : ((decide (a0 < 0)) != (decide (a1 < 0))) = true
     ·rw [if_pos c18] at H
      have c18b0 : ((decide (a0 < 0)) != (decide (a1 < 0))) = true := c18
      (try (have c18b1 : decide ((decide (a0 < 0)) = (decide (a1 < 0))) = false := by simpa using c18))
      (try (have c18b2 : ((decide (a0 < 0)) == (decide (a1 < 0))) = false := by simpa using c18))
      (try (have c18b3 : ¬ ((decide (a0 < 0)) = (decide (a1 < 0))) := by simpa using c18))
      clear c18
      obtain rfl := Option.some.inj H
      go_wp2
      go_ret
      exact ⟨eE, lU⟩
     ·rw [if_neg c18] at H
      have c18b0 : ((decide (a0 < 0)) != (decide (a1 < 0))) = false := by simpa using c18
      (try (have c18b1 : decide ((decide (a0 < 0)) = (decide (a1 < 0))) = true := by simpa using c18))
      (try (have c18b2 : ((decide (a0 < 0)) == (decide (a1 < 0))) = true := by simpa using c18))
      clear c18
      obtain rfl := Option.some.inj H
      go_wp2
      go_ret
      exact ⟨eE, lU⟩
 ·replace c4 := Bool.eq_false_iff.mpr c4
  subst c4
  have H1 : (some 0) = some r := by rw [if_neg (show ¬ (false = true) by decide)] at H; exact H
  clear H
  have H := H1
  clear H1
  obtain rfl := Option.some.inj H
  go_enter Try.func58, Try.ntmps58
  go_wp2_with (first | ((with_reducible refine gate_dst (N := 12) rfl ?_); refine Kd.R_lit (Kd.int .i64) _ 3 ?hg (N := 12) ?hd (xs := ([a0, a1] : List Int)) (inner := [.int .i64 a0, .int .i64 a1]) (ok := fun _ => True) (okp := fun _ => True) ?hr ?hp (fun _ hk => hk) trivial (Below.refl _ _) (Nat.le_refl _) (by simp) ?_; (case hd => rfl); (case hg => rfl); (case hr => exact sE); (case hp => exact (Reps.one (show Kd.M (Kd.int .i64) _ _ _ a0 [.int .i64 a0] from rfl) (Reps.one (show Kd.M (Kd.int .i64) _ _ _ a1 [.int .i64 a1] from rfl) (Reps.none _ _)))); intro v247 w19 ho20 hb hg_ hnew_; clear hg_ hnew_; (first | rw [← Ny246.out] at ho20 | (simp only [Int.reduceToNat] at ho20; rw [← Ny246.out] at ho20)); have HO248 := Aside0.mk (Kd.R_lower ho20 (below_size (lU))); replace HB := bH (lU) hb; clear hb ho20; obtain ⟨Ao21, co21, eo21⟩ := Kd.R_slice HO248.out; subst eo21) | ((with_reducible refine gate_callee (f := 48) rfl ?_); refine goesL_ (some 13) rfl rfl Try.func48 (by kernel_rfl) rfl #[.slice Ao21 y246.length co21] rfl aE ?_; (with_reducible refine (impl_areFixed.calls k _ _ y246 false _ ?side1 ?side2 A3.out).mono ?_); (case side1 => exact cU (Kd.R_reads' HO248.out).2.2); (case side2 => exact (Kd.R_reads' HO248.out).2.1); rintro e w' ⟨rfl, ⟨nd, rfl⟩⟩; refine ⟨_, rfl, ?_⟩))
  go_ret
  exact ⟨eE, lU⟩
def impl_mod.f (a0 : Int) (a1 : Int) : Option (Int) := if a1 = 0 then (none) else (some (Int.tmod (wrap64 ((Int.tmod a0 a1) + a1)) a1))
set_option maxHeartbeats 8000000 in
set_option maxRecDepth 100000 in
theorem impl_mod.calls (a0 : Int) (a1 : Int) (r : Int) (w : World) (h : impl_mod.f a0 a1 = some r) :
  Calls Try.prog 65 #[.int .i64 a0, .int .i64 a1] w fun e w' => e = .returned (.int .i64 r) ∧ Drawn0 w w' := by
 have H : (if a1 = 0 then (none) else (some (Int.tmod (wrap64 ((Int.tmod a0 a1) + a1)) a1))) = some r := h
 clear h
 by_cases c3 : a1 = 0
 ·rw [if_pos c3] at H
  exact absurd H (by simp)
 ·rw [if_neg c3] at H
  have c3b0 : (a1 == 0) = false := beq_eq_false_iff_ne.mpr c3
  have c3b1 : (a1 != 0) = true := bne_iff_ne.mpr c3
  obtain rfl := Option.some.inj H
  go_enter Try.func65, Try.ntmps65
  go_wp2
  go_ret
  exact ⟨by first | rfl | (simp; done) | (simp [*]; done) | exact not_isEmpty _ | exact (not_isEmpty _).symm | exact is_empty _ | exact (is_empty _).symm, by repeat (first | exact Drawn0.refl _ | apply Drawn0.step)⟩
end Go.Proofs.Ythgfobcckoedaaa.PFnExactSparksAt
namespace Go.Proofs.Ythgfobcckoedaaa.PFnExactSparksAt
open Go.RowKit Go.Proofs.YthgfobcckoedaaaW.PrintWords Go.Proofs.YthgfobcckoedaaaW.PrintLast Go.Proofs.YthgfobcckoedaaaW.PrintMore
attribute [local go_sem] max2_int min2_int max_two min_two max_three min_three max_four min_four   -- for this text's walks alone
set_option linter.unusedVariables false
set_option linter.unusedSimpArgs false
def impl_SinOf.tab : List Int := [0, 6424, 12785, 19024, 25080, 30893, 36410, 41576, 46341, 50660, 54491, 57798, 60547, 62714, 64277, 65220, 65536]
def impl_SinOf.at_ (c : Int) : Int := (rd impl_SinOf.tab (c / 64) * (64 - c % 64) + rd impl_SinOf.tab (c / 64 + 1) * (c % 64) + 32) / 64
def impl_SinOf.low (b : Int) : Int := if b > 1024 then impl_SinOf.at_ (2048 - b) else (if b = 1024 then 65536 else impl_SinOf.at_ b)
def impl_SinOf.f (a0 : Int) : Option (Int) := (impl_mod.f a0 4096).bind fun m => (if 0 ≤ m then (if m < 2048 then (some (impl_SinOf.low m)) else (if m < 4096 then (some (wrap64 (-(impl_SinOf.low (m - 2048))))) else (none))) else (none))
theorem impl_SinOf.tab_le (q : Int) (h0 : 0 ≤ q) (h1 : q ≤ 16) : 0 ≤ rd impl_SinOf.tab q ∧ rd impl_SinOf.tab q ≤ 65536 := by
 obtain ⟨n, rfl⟩ := Int.eq_ofNat_of_zero_le h0
 have hn : n ≤ 16 := by omega
 rcases (show n = 0 ∨ n = 1 ∨ n = 2 ∨ n = 3 ∨ n = 4 ∨ n = 5 ∨ n = 6 ∨ n = 7 ∨ n = 8 ∨ n = 9 ∨ n = 10 ∨ n = 11 ∨ n = 12 ∨ n = 13 ∨ n = 14 ∨ n = 15 ∨ n = 16 by omega) with rfl | rfl | rfl | rfl | rfl | rfl | rfl | rfl | rfl | rfl | rfl | rfl | rfl | rfl | rfl | rfl | rfl <;> exact ⟨by decide, by decide⟩
theorem impl_SinOf.cell {W : World} {g : Nat} (h : W.heap[g]? = some (.cells #[.int .i64 0, .int .i64 6424, .int .i64 12785, .int .i64 19024, .int .i64 25080, .int .i64 30893, .int .i64 36410, .int .i64 41576, .int .i64 46341, .int .i64 50660, .int .i64 54491, .int .i64 57798, .int .i64 60547, .int .i64 62714, .int .i64 64277, .int .i64 65220, .int .i64 65536] 84 (0, 0))) (q : Int) (h0 : 0 ≤ q) (h1 : q ≤ 16) : W.cell? ⟨g, q.toNat, none⟩ = some (.int .i64 (rd impl_SinOf.tab q)) := by
 obtain ⟨n, rfl⟩ := Int.eq_ofNat_of_zero_le h0
 have hn : n ≤ 16 := by omega
 have e : ((n : Nat) : Int).toNat = n := rfl
 rw [e]
 rcases (show n = 0 ∨ n = 1 ∨ n = 2 ∨ n = 3 ∨ n = 4 ∨ n = 5 ∨ n = 6 ∨ n = 7 ∨ n = 8 ∨ n = 9 ∨ n = 10 ∨ n = 11 ∨ n = 12 ∨ n = 13 ∨ n = 14 ∨ n = 15 ∨ n = 16 by omega) with rfl | rfl | rfl | rfl | rfl | rfl | rfl | rfl | rfl | rfl | rfl | rfl | rfl | rfl | rfl | rfl | rfl <;> exact (blk_cell h _).trans rfl
theorem impl_SinOf.bounds (c : Int) (h0 : 0 ≤ c) (h1 : c < 1024) : 0 ≤ rd impl_SinOf.tab (c / 64) * (64 - c % 64) ∧ rd impl_SinOf.tab (c / 64) * (64 - c % 64) ≤ 4194304 ∧ 0 ≤ rd impl_SinOf.tab (c / 64 + 1) * (c % 64) ∧ rd impl_SinOf.tab (c / 64 + 1) * (c % 64) ≤ 4194304 := by
 obtain ⟨a0, a1⟩ := impl_SinOf.tab_le (c / 64) (by omega) (by omega)
 obtain ⟨b0, b1⟩ := impl_SinOf.tab_le (c / 64 + 1) (by omega) (by omega)
 have r0 : 0 ≤ c % 64 := by omega
 have r1 : c % 64 ≤ 64 := by omega
 have m1 := Int.mul_le_mul a1 (show 64 - c % 64 ≤ 64 by omega) (show 0 ≤ 64 - c % 64 by omega) (by decide)
 have m2 := Int.mul_le_mul b1 r1 r0 (by decide)
 exact ⟨Int.mul_nonneg a0 (by omega), by omega, Int.mul_nonneg b0 r0, by omega⟩
theorem impl_SinOf.sum (c : Int) (h0 : 0 ≤ c) (h1 : c < 1024) : wrap64 ((wrap64 (wrap64 (wrap64 (rd impl_SinOf.tab (c / 64) * wrap64 (64 - c % 64)) + wrap64 (rd impl_SinOf.tab (c / 64 + 1) * (c % 64))) + 32)).tdiv 64) = impl_SinOf.at_ c := by
 obtain ⟨m0, m1, m2, m3⟩ := impl_SinOf.bounds c h0 h1
 unfold impl_SinOf.at_
 have w1 : wrap64 (64 - c % 64) = 64 - c % 64 := by unfold wrap64; omega
 rw [w1]
 generalize rd impl_SinOf.tab (c / 64) * (64 - c % 64) = x at m0 m1 ⊢
 generalize rd impl_SinOf.tab (c / 64 + 1) * (c % 64) = y at m2 m3 ⊢
 have wx : wrap64 x = x := by unfold wrap64; omega
 have wy : wrap64 y = y := by unfold wrap64; omega
 have wz : wrap64 (x + y) = x + y := by unfold wrap64; omega
 have wu : wrap64 (x + y + 32) = x + y + 32 := by unfold wrap64; omega
 rw [wx, wy, wz, wu, Int.tdiv_eq_ediv_of_nonneg (by omega)]
 unfold wrap64; omega
theorem impl_SinOf.mod_small (b : Int) (h0 : 0 ≤ b) (h1 : b < 4096) : impl_mod.f b 4096 = some b := by
 unfold impl_mod.f
 rw [if_neg (by decide), Int.tmod_eq_emod_of_nonneg h0]
 have w1 : wrap64 (b % 4096 + 4096) = b + 4096 := by unfold wrap64; omega
 rw [w1, Int.tmod_eq_emod_of_nonneg (by omega)]
 congr 1
 omega
set_option maxHeartbeats 8000000 in
set_option maxRecDepth 100000 in
theorem impl_SinOf.calls_low (b : Int) (h0 : 0 ≤ b) (h1 : b < 2048) (a : Int) (w : World) (hm : impl_mod.f a 4096 = some b) :
  Calls Try.prog 60 #[.int .i64 a] w fun e w' => e = .returned (.int .i64 (impl_SinOf.low b)) ∧ Below w.heap.size w w' := by
 have HB := Aside0.mk (Below.refl w.heap.size w)
 have HM := Aside0.mk hm
 have H0 := Aside0.mk h0
 have H1 := Aside0.mk h1
 have hu84 := Try.underlying84
 clear hm h0 h1
 go_enter Try.func60, Try.ntmps60
 go_upto_region 2 with (first | ((with_reducible refine gate_dst (N := 3) rfl ?_); refine box_event rfl (N := 3) rfl (cs := #[.int .i64 0, .int .i64 0, .int .i64 0, .int .i64 0, .int .i64 0, .int .i64 0, .int .i64 0, .int .i64 0, .int .i64 0, .int .i64 0, .int .i64 0, .int .i64 0, .int .i64 0, .int .i64 0, .int .i64 0, .int .i64 0, .int .i64 0]) (t := 84) sE ?_; intro gb hg w1 hbox hb; replace HB := Aside0.mk (below_step (by exact HB.out) hb); have BK := Aside0.mk hbox; have GE := Aside0.mk ((by rw [hg]; exact Nat.le_refl _) : w.heap.size ≤ gb); clear hb hbox hg; have hc0 : w1.cell? ⟨gb, 0, none⟩ = some (.int .i64 0) := (blk_cell BK.out 0).trans rfl; have hf0 := blk_frozen BK.out 0; have hc1 : w1.cell? ⟨gb, 1, none⟩ = some (.int .i64 0) := (blk_cell BK.out 1).trans rfl; have hf1 := blk_frozen BK.out 1; have hc2 : w1.cell? ⟨gb, 2, none⟩ = some (.int .i64 0) := (blk_cell BK.out 2).trans rfl; have hf2 := blk_frozen BK.out 2; have hc3 : w1.cell? ⟨gb, 3, none⟩ = some (.int .i64 0) := (blk_cell BK.out 3).trans rfl; have hf3 := blk_frozen BK.out 3; have hc4 : w1.cell? ⟨gb, 4, none⟩ = some (.int .i64 0) := (blk_cell BK.out 4).trans rfl; have hf4 := blk_frozen BK.out 4; have hc5 : w1.cell? ⟨gb, 5, none⟩ = some (.int .i64 0) := (blk_cell BK.out 5).trans rfl; have hf5 := blk_frozen BK.out 5; have hc6 : w1.cell? ⟨gb, 6, none⟩ = some (.int .i64 0) := (blk_cell BK.out 6).trans rfl; have hf6 := blk_frozen BK.out 6; have hc7 : w1.cell? ⟨gb, 7, none⟩ = some (.int .i64 0) := (blk_cell BK.out 7).trans rfl; have hf7 := blk_frozen BK.out 7; have hc8 : w1.cell? ⟨gb, 8, none⟩ = some (.int .i64 0) := (blk_cell BK.out 8).trans rfl; have hf8 := blk_frozen BK.out 8; have hc9 : w1.cell? ⟨gb, 9, none⟩ = some (.int .i64 0) := (blk_cell BK.out 9).trans rfl; have hf9 := blk_frozen BK.out 9; have hc10 : w1.cell? ⟨gb, 10, none⟩ = some (.int .i64 0) := (blk_cell BK.out 10).trans rfl; have hf10 := blk_frozen BK.out 10; have hc11 : w1.cell? ⟨gb, 11, none⟩ = some (.int .i64 0) := (blk_cell BK.out 11).trans rfl; have hf11 := blk_frozen BK.out 11; have hc12 : w1.cell? ⟨gb, 12, none⟩ = some (.int .i64 0) := (blk_cell BK.out 12).trans rfl; have hf12 := blk_frozen BK.out 12; have hc13 : w1.cell? ⟨gb, 13, none⟩ = some (.int .i64 0) := (blk_cell BK.out 13).trans rfl; have hf13 := blk_frozen BK.out 13; have hc14 : w1.cell? ⟨gb, 14, none⟩ = some (.int .i64 0) := (blk_cell BK.out 14).trans rfl; have hf14 := blk_frozen BK.out 14; have hc15 : w1.cell? ⟨gb, 15, none⟩ = some (.int .i64 0) := (blk_cell BK.out 15).trans rfl; have hf15 := blk_frozen BK.out 15; have hc16 : w1.cell? ⟨gb, 16, none⟩ = some (.int .i64 0) := (blk_cell BK.out 16).trans rfl; have hf16 := blk_frozen BK.out 16))
 generalize hq_ : World.setCell _ _ _ = W1
 replace BK : Aside0 (W1.heap[gb]? = some (.cells #[.int .i64 0, .int .i64 6424, .int .i64 12785, .int .i64 19024, .int .i64 25080, .int .i64 30893, .int .i64 36410, .int .i64 41576, .int .i64 46341, .int .i64 50660, .int .i64 54491, .int .i64 57798, .int .i64 60547, .int .i64 62714, .int .i64 64277, .int .i64 65220, .int .i64 65536] 84 (0, 0))) := ⟨by rw [← hq_]; refine bU ?_; refine blk_put (cs := #[.int .i64 0, .int .i64 6424, .int .i64 12785, .int .i64 19024, .int .i64 25080, .int .i64 30893, .int .i64 36410, .int .i64 41576, .int .i64 46341, .int .i64 50660, .int .i64 54491, .int .i64 57798, .int .i64 60547, .int .i64 62714, .int .i64 64277, .int .i64 65220, .int .i64 0]) ?_ 16 _ rfl; refine bU ?_; refine blk_put (cs := #[.int .i64 0, .int .i64 6424, .int .i64 12785, .int .i64 19024, .int .i64 25080, .int .i64 30893, .int .i64 36410, .int .i64 41576, .int .i64 46341, .int .i64 50660, .int .i64 54491, .int .i64 57798, .int .i64 60547, .int .i64 62714, .int .i64 64277, .int .i64 0, .int .i64 0]) ?_ 15 _ rfl; refine bU ?_; refine blk_put (cs := #[.int .i64 0, .int .i64 6424, .int .i64 12785, .int .i64 19024, .int .i64 25080, .int .i64 30893, .int .i64 36410, .int .i64 41576, .int .i64 46341, .int .i64 50660, .int .i64 54491, .int .i64 57798, .int .i64 60547, .int .i64 62714, .int .i64 0, .int .i64 0, .int .i64 0]) ?_ 14 _ rfl; refine bU ?_; refine blk_put (cs := #[.int .i64 0, .int .i64 6424, .int .i64 12785, .int .i64 19024, .int .i64 25080, .int .i64 30893, .int .i64 36410, .int .i64 41576, .int .i64 46341, .int .i64 50660, .int .i64 54491, .int .i64 57798, .int .i64 60547, .int .i64 0, .int .i64 0, .int .i64 0, .int .i64 0]) ?_ 13 _ rfl; refine bU ?_; refine blk_put (cs := #[.int .i64 0, .int .i64 6424, .int .i64 12785, .int .i64 19024, .int .i64 25080, .int .i64 30893, .int .i64 36410, .int .i64 41576, .int .i64 46341, .int .i64 50660, .int .i64 54491, .int .i64 57798, .int .i64 0, .int .i64 0, .int .i64 0, .int .i64 0, .int .i64 0]) ?_ 12 _ rfl; refine bU ?_; refine blk_put (cs := #[.int .i64 0, .int .i64 6424, .int .i64 12785, .int .i64 19024, .int .i64 25080, .int .i64 30893, .int .i64 36410, .int .i64 41576, .int .i64 46341, .int .i64 50660, .int .i64 54491, .int .i64 0, .int .i64 0, .int .i64 0, .int .i64 0, .int .i64 0, .int .i64 0]) ?_ 11 _ rfl; refine bU ?_; refine blk_put (cs := #[.int .i64 0, .int .i64 6424, .int .i64 12785, .int .i64 19024, .int .i64 25080, .int .i64 30893, .int .i64 36410, .int .i64 41576, .int .i64 46341, .int .i64 50660, .int .i64 0, .int .i64 0, .int .i64 0, .int .i64 0, .int .i64 0, .int .i64 0, .int .i64 0]) ?_ 10 _ rfl; refine bU ?_; refine blk_put (cs := #[.int .i64 0, .int .i64 6424, .int .i64 12785, .int .i64 19024, .int .i64 25080, .int .i64 30893, .int .i64 36410, .int .i64 41576, .int .i64 46341, .int .i64 0, .int .i64 0, .int .i64 0, .int .i64 0, .int .i64 0, .int .i64 0, .int .i64 0, .int .i64 0]) ?_ 9 _ rfl; refine bU ?_; refine blk_put (cs := #[.int .i64 0, .int .i64 6424, .int .i64 12785, .int .i64 19024, .int .i64 25080, .int .i64 30893, .int .i64 36410, .int .i64 41576, .int .i64 0, .int .i64 0, .int .i64 0, .int .i64 0, .int .i64 0, .int .i64 0, .int .i64 0, .int .i64 0, .int .i64 0]) ?_ 8 _ rfl; refine bU ?_; refine blk_put (cs := #[.int .i64 0, .int .i64 6424, .int .i64 12785, .int .i64 19024, .int .i64 25080, .int .i64 30893, .int .i64 36410, .int .i64 0, .int .i64 0, .int .i64 0, .int .i64 0, .int .i64 0, .int .i64 0, .int .i64 0, .int .i64 0, .int .i64 0, .int .i64 0]) ?_ 7 _ rfl; refine bU ?_; refine blk_put (cs := #[.int .i64 0, .int .i64 6424, .int .i64 12785, .int .i64 19024, .int .i64 25080, .int .i64 30893, .int .i64 0, .int .i64 0, .int .i64 0, .int .i64 0, .int .i64 0, .int .i64 0, .int .i64 0, .int .i64 0, .int .i64 0, .int .i64 0, .int .i64 0]) ?_ 6 _ rfl; refine bU ?_; refine blk_put (cs := #[.int .i64 0, .int .i64 6424, .int .i64 12785, .int .i64 19024, .int .i64 25080, .int .i64 0, .int .i64 0, .int .i64 0, .int .i64 0, .int .i64 0, .int .i64 0, .int .i64 0, .int .i64 0, .int .i64 0, .int .i64 0, .int .i64 0, .int .i64 0]) ?_ 5 _ rfl; refine bU ?_; refine blk_put (cs := #[.int .i64 0, .int .i64 6424, .int .i64 12785, .int .i64 19024, .int .i64 0, .int .i64 0, .int .i64 0, .int .i64 0, .int .i64 0, .int .i64 0, .int .i64 0, .int .i64 0, .int .i64 0, .int .i64 0, .int .i64 0, .int .i64 0, .int .i64 0]) ?_ 4 _ rfl; refine bU ?_; refine blk_put (cs := #[.int .i64 0, .int .i64 6424, .int .i64 12785, .int .i64 0, .int .i64 0, .int .i64 0, .int .i64 0, .int .i64 0, .int .i64 0, .int .i64 0, .int .i64 0, .int .i64 0, .int .i64 0, .int .i64 0, .int .i64 0, .int .i64 0, .int .i64 0]) ?_ 3 _ rfl; refine bU ?_; refine blk_put (cs := #[.int .i64 0, .int .i64 6424, .int .i64 0, .int .i64 0, .int .i64 0, .int .i64 0, .int .i64 0, .int .i64 0, .int .i64 0, .int .i64 0, .int .i64 0, .int .i64 0, .int .i64 0, .int .i64 0, .int .i64 0, .int .i64 0, .int .i64 0]) ?_ 2 _ rfl; refine bU ?_; refine blk_put (cs := #[.int .i64 0, .int .i64 0, .int .i64 0, .int .i64 0, .int .i64 0, .int .i64 0, .int .i64 0, .int .i64 0, .int .i64 0, .int .i64 0, .int .i64 0, .int .i64 0, .int .i64 0, .int .i64 0, .int .i64 0, .int .i64 0, .int .i64 0]) ?_ 1 _ rfl; refine bU ?_; refine blk_put (cs := #[.int .i64 0, .int .i64 0, .int .i64 0, .int .i64 0, .int .i64 0, .int .i64 0, .int .i64 0, .int .i64 0, .int .i64 0, .int .i64 0, .int .i64 0, .int .i64 0, .int .i64 0, .int .i64 0, .int .i64 0, .int .i64 0, .int .i64 0]) ?_ 0 _ rfl; refine bU ?_; exact BK.out⟩
 replace HB : Aside0 (Below w.heap.size w W1) := ⟨by rw [← hq_]; exact (lV1 GE)⟩
 clear hq_ hc0 hf0 hc1 hf1 hc2 hf2 hc3 hf3 hc4 hf4 hc5 hf5 hc6 hf6 hc7 hf7 hc8 hf8 hc9 hf9 hc10 hf10 hc11 hf11 hc12 hf12 hc13 hf13 hc14 hf14 hc15 hf15 hc16 hf16
 have e1 : decide (2048 ≤ b) = false := decide_eq_false (by have := H1.out; omega)
 by_cases hb : b > 1024
 ·have e2 : decide (1024 < b) = true := decide_eq_true hb
  have hlow : impl_SinOf.low b = impl_SinOf.at_ (2048 - b) := if_pos hb
  obtain ⟨c, hc⟩ : ∃ c, c = 2048 - b := ⟨_, rfl⟩
  have e3 : wrap64 (2048 - b) = c := by have := H1.out; unfold wrap64; omega
  rw [← hc] at hlow
  have HLOW := Aside0.mk hlow
  have HC0 : Aside0 (0 ≤ c) := ⟨by have := H1.out; omega⟩
  have HC1 : Aside0 (c < 1024) := ⟨by omega⟩
  clear hlow hc
  have e4 : (c == 1024) = false := by have := HC1.out; simp; omega
  obtain ⟨q, hq⟩ : ∃ q, q = c / 64 := ⟨_, rfl⟩
  obtain ⟨r, hr⟩ : ∃ r, r = c % 64 := ⟨_, rfl⟩
  have e5 : Int.tdiv c 64 = q := by rw [hq]; exact Int.tdiv_eq_ediv_of_nonneg HC0.out
  have e6 : Int.tmod c 64 = r := by rw [hr]; exact Int.tmod_eq_emod_of_nonneg HC0.out
  have e7 : wrap64 q = q := by have := HC1.out; have := HC0.out; unfold wrap64; omega
  have e8 : wrap64 (q + 1) = q + 1 := by have := HC1.out; have := HC0.out; unfold wrap64; omega
  have HQ : Aside0 (q = c / 64) := ⟨hq⟩
  have HR : Aside0 (r = c % 64) := ⟨hr⟩
  clear hq hr
  go_upto_region 9 with (first | ((with_reducible refine gate_callee (f := 65) rfl ?_); refine goesL_ (some 9) rfl rfl Try.func65 (by kernel_rfl) rfl #[.int .i64 a, .int .i64 4096] rfl (by (try simp only [List.map_toArray, List.map_cons, List.map_nil]); first | done | rfl) ?_; (with_reducible refine (impl_mod.calls a 4096 b _ HM.out).mono ?_); rintro e w' ⟨rfl, ⟨nd, rfl⟩⟩; refine ⟨_, rfl, ?_⟩; rw [drewN_self W1]; generalize hq_ : World.drewN W1 _ = W2; replace BK : Aside0 (W2.heap[gb]? = some (.cells #[.int .i64 0, .int .i64 6424, .int .i64 12785, .int .i64 19024, .int .i64 25080, .int .i64 30893, .int .i64 36410, .int .i64 41576, .int .i64 46341, .int .i64 50660, .int .i64 54491, .int .i64 57798, .int .i64 60547, .int .i64 62714, .int .i64 64277, .int .i64 65220, .int .i64 65536] 84 (0, 0))) := ⟨by rw [← hq_]; exact BK.out⟩; replace HB : Aside0 (Below w.heap.size w W2) := ⟨by rw [← hq_]; exact pw_below_drewN HB.out _⟩; clear hq_))
  obtain ⟨t1, ht1⟩ : ∃ t, t = rd impl_SinOf.tab q := ⟨_, rfl⟩
  obtain ⟨t2, ht2⟩ : ∃ t, t = rd impl_SinOf.tab (q + 1) := ⟨_, rfl⟩
  have g1 : W2.cell? ⟨gb, q.toNat, none⟩ = some (.int .i64 t1) := by rw [ht1]; exact impl_SinOf.cell BK.out q (by have := HQ.out; have := HC0.out; omega) (by have := HQ.out; have := HC1.out; omega)
  have g2 : W2.cell? ⟨gb, (q + 1).toNat, none⟩ = some (.int .i64 t2) := by rw [ht2]; exact impl_SinOf.cell BK.out (q + 1) (by have := HQ.out; have := HC0.out; omega) (by have := HQ.out; have := HC1.out; omega)
  have HT1 := Aside0.mk ht1
  have HT2 := Aside0.mk ht2
  clear ht1 ht2
  have l0 : 0 ≤ q := by have := HQ.out; have := HC0.out; omega
  have l1 : q < 17 := by have := HQ.out; have := HC1.out; omega
  have l2 : 0 ≤ q + 1 := by omega
  have l3 : q + 1 < 17 := by have := HQ.out; have := HC1.out; omega
  go_upto_region 10 with (fail)
  go_quiet (fail)
  go_wp2
  go_ret
  refine ⟨?_, pw_below_drewN HB.out _⟩
  have hs := impl_SinOf.sum c HC0.out HC1.out
  rw [← HQ.out, ← HR.out, ← HT1.out, ← HT2.out] at hs
  rw [HLOW.out, ← hs]
  rfl
 ·have e2 : decide (1024 < b) = false := decide_eq_false hb
  by_cases hb2 : b = 1024
  ·have hlow : impl_SinOf.low b = 65536 := by unfold impl_SinOf.low; rw [if_neg hb, if_pos hb2]
   have HLOW := Aside0.mk hlow
   have e4 : (b == 1024) = true := by rw [hb2]; rfl
   clear hlow hb2 hb
   go_upto_region 8 with (first | ((with_reducible refine gate_callee (f := 65) rfl ?_); refine goesL_ (some 9) rfl rfl Try.func65 (by kernel_rfl) rfl #[.int .i64 a, .int .i64 4096] rfl (by (try simp only [List.map_toArray, List.map_cons, List.map_nil]); first | done | rfl) ?_; (with_reducible refine (impl_mod.calls a 4096 b _ HM.out).mono ?_); rintro e w' ⟨rfl, ⟨nd, rfl⟩⟩; refine ⟨_, rfl, ?_⟩; rw [drewN_self W1]; generalize hq_ : World.drewN W1 _ = W2; replace BK : Aside0 (W2.heap[gb]? = some (.cells #[.int .i64 0, .int .i64 6424, .int .i64 12785, .int .i64 19024, .int .i64 25080, .int .i64 30893, .int .i64 36410, .int .i64 41576, .int .i64 46341, .int .i64 50660, .int .i64 54491, .int .i64 57798, .int .i64 60547, .int .i64 62714, .int .i64 64277, .int .i64 65220, .int .i64 65536] 84 (0, 0))) := ⟨by rw [← hq_]; exact BK.out⟩; replace HB : Aside0 (Below w.heap.size w W2) := ⟨by rw [← hq_]; exact pw_below_drewN HB.out _⟩; clear hq_))
   have g1 : W2.cell? ⟨gb, 16, none⟩ = some (.int .i64 65536) := (blk_cell BK.out 16).trans rfl
   go_wp2
   go_ret
   rw [HLOW.out]
   exact ⟨rfl, HB.out⟩
  ·have hlow : impl_SinOf.low b = impl_SinOf.at_ b := by unfold impl_SinOf.low; rw [if_neg hb, if_neg hb2]
   have HLOW := Aside0.mk hlow
   have HC0 : Aside0 (0 ≤ b) := H0
   have HC1 : Aside0 (b < 1024) := ⟨by omega⟩
   clear hlow
   have e4 : (b == 1024) = false := by have := HC1.out; simp; omega
   obtain ⟨q, hq⟩ : ∃ q, q = b / 64 := ⟨_, rfl⟩
   obtain ⟨r, hr⟩ : ∃ r, r = b % 64 := ⟨_, rfl⟩
   have e5 : Int.tdiv b 64 = q := by rw [hq]; exact Int.tdiv_eq_ediv_of_nonneg HC0.out
   have e6 : Int.tmod b 64 = r := by rw [hr]; exact Int.tmod_eq_emod_of_nonneg HC0.out
   have e7 : wrap64 q = q := by have := HC1.out; have := HC0.out; unfold wrap64; omega
   have e8 : wrap64 (q + 1) = q + 1 := by have := HC1.out; have := HC0.out; unfold wrap64; omega
   have HQ : Aside0 (q = b / 64) := ⟨hq⟩
   have HR : Aside0 (r = b % 64) := ⟨hr⟩
   clear hq hr
   go_upto_region 9 with (first | ((with_reducible refine gate_callee (f := 65) rfl ?_); refine goesL_ (some 9) rfl rfl Try.func65 (by kernel_rfl) rfl #[.int .i64 a, .int .i64 4096] rfl (by (try simp only [List.map_toArray, List.map_cons, List.map_nil]); first | done | rfl) ?_; (with_reducible refine (impl_mod.calls a 4096 b _ HM.out).mono ?_); rintro e w' ⟨rfl, ⟨nd, rfl⟩⟩; refine ⟨_, rfl, ?_⟩; rw [drewN_self W1]; generalize hq_ : World.drewN W1 _ = W2; replace BK : Aside0 (W2.heap[gb]? = some (.cells #[.int .i64 0, .int .i64 6424, .int .i64 12785, .int .i64 19024, .int .i64 25080, .int .i64 30893, .int .i64 36410, .int .i64 41576, .int .i64 46341, .int .i64 50660, .int .i64 54491, .int .i64 57798, .int .i64 60547, .int .i64 62714, .int .i64 64277, .int .i64 65220, .int .i64 65536] 84 (0, 0))) := ⟨by rw [← hq_]; exact BK.out⟩; replace HB : Aside0 (Below w.heap.size w W2) := ⟨by rw [← hq_]; exact pw_below_drewN HB.out _⟩; clear hq_))
   obtain ⟨t1, ht1⟩ : ∃ t, t = rd impl_SinOf.tab q := ⟨_, rfl⟩
   obtain ⟨t2, ht2⟩ : ∃ t, t = rd impl_SinOf.tab (q + 1) := ⟨_, rfl⟩
   have g1 : W2.cell? ⟨gb, q.toNat, none⟩ = some (.int .i64 t1) := by rw [ht1]; exact impl_SinOf.cell BK.out q (by have := HQ.out; have := HC0.out; omega) (by have := HQ.out; have := HC1.out; omega)
   have g2 : W2.cell? ⟨gb, (q + 1).toNat, none⟩ = some (.int .i64 t2) := by rw [ht2]; exact impl_SinOf.cell BK.out (q + 1) (by have := HQ.out; have := HC0.out; omega) (by have := HQ.out; have := HC1.out; omega)
   have HT1 := Aside0.mk ht1
   have HT2 := Aside0.mk ht2
   clear ht1 ht2
   have l0 : 0 ≤ q := by have := HQ.out; have := HC0.out; omega
   have l1 : q < 17 := by have := HQ.out; have := HC1.out; omega
   have l2 : 0 ≤ q + 1 := by omega
   have l3 : q + 1 < 17 := by have := HQ.out; have := HC1.out; omega
   go_upto_region 10 with (fail)
   go_quiet (fail)
   go_wp2
   go_ret
   refine ⟨?_, pw_below_drewN HB.out _⟩
   have hs := impl_SinOf.sum b HC0.out HC1.out
   rw [← HQ.out, ← HR.out, ← HT1.out, ← HT2.out] at hs
   rw [HLOW.out, ← hs]
   rfl
set_option maxHeartbeats 8000000 in
set_option maxRecDepth 100000 in
theorem impl_SinOf.calls (a0 : Int) (r : Int) (w : World) (h : impl_SinOf.f a0 = some r) :
  Calls Try.prog 60 #[.int .i64 a0] w fun e w' => e = .returned (.int .i64 r) ∧ Below w.heap.size w w' := by
 obtain ⟨m, hm, h⟩ := Option.bind_eq_some_iff.mp h
 by_cases c0 : 0 ≤ m
 ·rw [if_pos c0] at h
  by_cases c1 : m < 2048
  ·rw [if_pos c1] at h
   obtain rfl := Option.some.inj h
   exact impl_SinOf.calls_low m c0 c1 a0 w hm
  ·rw [if_neg c1] at h
   by_cases c2 : m < 4096
   ·rw [if_pos c2] at h
    obtain rfl := Option.some.inj h
    have hs := impl_SinOf.mod_small (m - 2048) (by omega) (by omega)
    have HS : Aside0 (∀ W : World, Calls Try.prog 60 #[.int .i64 (wrap64 (m - 2048))] W fun e w' => e = .returned (.int .i64 (impl_SinOf.low (m - 2048))) ∧ Below W.heap.size W w') := ⟨fun W => by rw [show wrap64 (m - 2048) = m - 2048 by unfold wrap64; omega]; exact impl_SinOf.calls_low (m - 2048) (by omega) (by omega) (m - 2048) W hs⟩
    obtain ⟨a, rfl⟩ : ∃ a, a = a0 := ⟨_, rfl⟩
    have HM := Aside0.mk hm
    have HB := Aside0.mk (Below.refl w.heap.size w)
    have hu84 := Try.underlying84
    have e1 : decide (2048 ≤ m) = true := decide_eq_true (by omega)
    obtain ⟨lw, hlw⟩ : ∃ x, x = impl_SinOf.low (m - 2048) := ⟨_, rfl⟩
    rw [← hlw] at HS ⊢
    clear hm hs c0 c1 c2 hlw h
    go_enter Try.func60, Try.ntmps60
    go_upto_region 2 with (first | ((with_reducible refine gate_dst (N := 3) rfl ?_); refine box_event rfl (N := 3) rfl (cs := #[.int .i64 0, .int .i64 0, .int .i64 0, .int .i64 0, .int .i64 0, .int .i64 0, .int .i64 0, .int .i64 0, .int .i64 0, .int .i64 0, .int .i64 0, .int .i64 0, .int .i64 0, .int .i64 0, .int .i64 0, .int .i64 0, .int .i64 0]) (t := 84) sE ?_; intro gb hg w1 hbox hb; replace HB := Aside0.mk (below_step (by exact HB.out) hb); have BK := Aside0.mk hbox; have GE := Aside0.mk ((by rw [hg]; exact Nat.le_refl _) : w.heap.size ≤ gb); clear hb hbox hg; have hc0 : w1.cell? ⟨gb, 0, none⟩ = some (.int .i64 0) := (blk_cell BK.out 0).trans rfl; have hf0 := blk_frozen BK.out 0; have hc1 : w1.cell? ⟨gb, 1, none⟩ = some (.int .i64 0) := (blk_cell BK.out 1).trans rfl; have hf1 := blk_frozen BK.out 1; have hc2 : w1.cell? ⟨gb, 2, none⟩ = some (.int .i64 0) := (blk_cell BK.out 2).trans rfl; have hf2 := blk_frozen BK.out 2; have hc3 : w1.cell? ⟨gb, 3, none⟩ = some (.int .i64 0) := (blk_cell BK.out 3).trans rfl; have hf3 := blk_frozen BK.out 3; have hc4 : w1.cell? ⟨gb, 4, none⟩ = some (.int .i64 0) := (blk_cell BK.out 4).trans rfl; have hf4 := blk_frozen BK.out 4; have hc5 : w1.cell? ⟨gb, 5, none⟩ = some (.int .i64 0) := (blk_cell BK.out 5).trans rfl; have hf5 := blk_frozen BK.out 5; have hc6 : w1.cell? ⟨gb, 6, none⟩ = some (.int .i64 0) := (blk_cell BK.out 6).trans rfl; have hf6 := blk_frozen BK.out 6; have hc7 : w1.cell? ⟨gb, 7, none⟩ = some (.int .i64 0) := (blk_cell BK.out 7).trans rfl; have hf7 := blk_frozen BK.out 7; have hc8 : w1.cell? ⟨gb, 8, none⟩ = some (.int .i64 0) := (blk_cell BK.out 8).trans rfl; have hf8 := blk_frozen BK.out 8; have hc9 : w1.cell? ⟨gb, 9, none⟩ = some (.int .i64 0) := (blk_cell BK.out 9).trans rfl; have hf9 := blk_frozen BK.out 9; have hc10 : w1.cell? ⟨gb, 10, none⟩ = some (.int .i64 0) := (blk_cell BK.out 10).trans rfl; have hf10 := blk_frozen BK.out 10; have hc11 : w1.cell? ⟨gb, 11, none⟩ = some (.int .i64 0) := (blk_cell BK.out 11).trans rfl; have hf11 := blk_frozen BK.out 11; have hc12 : w1.cell? ⟨gb, 12, none⟩ = some (.int .i64 0) := (blk_cell BK.out 12).trans rfl; have hf12 := blk_frozen BK.out 12; have hc13 : w1.cell? ⟨gb, 13, none⟩ = some (.int .i64 0) := (blk_cell BK.out 13).trans rfl; have hf13 := blk_frozen BK.out 13; have hc14 : w1.cell? ⟨gb, 14, none⟩ = some (.int .i64 0) := (blk_cell BK.out 14).trans rfl; have hf14 := blk_frozen BK.out 14; have hc15 : w1.cell? ⟨gb, 15, none⟩ = some (.int .i64 0) := (blk_cell BK.out 15).trans rfl; have hf15 := blk_frozen BK.out 15; have hc16 : w1.cell? ⟨gb, 16, none⟩ = some (.int .i64 0) := (blk_cell BK.out 16).trans rfl; have hf16 := blk_frozen BK.out 16))
    generalize hq_ : World.setCell _ _ _ = W1
    replace BK : Aside0 (W1.heap[gb]? = some (.cells #[.int .i64 0, .int .i64 6424, .int .i64 12785, .int .i64 19024, .int .i64 25080, .int .i64 30893, .int .i64 36410, .int .i64 41576, .int .i64 46341, .int .i64 50660, .int .i64 54491, .int .i64 57798, .int .i64 60547, .int .i64 62714, .int .i64 64277, .int .i64 65220, .int .i64 65536] 84 (0, 0))) := ⟨by rw [← hq_]; refine bU ?_; refine blk_put (cs := #[.int .i64 0, .int .i64 6424, .int .i64 12785, .int .i64 19024, .int .i64 25080, .int .i64 30893, .int .i64 36410, .int .i64 41576, .int .i64 46341, .int .i64 50660, .int .i64 54491, .int .i64 57798, .int .i64 60547, .int .i64 62714, .int .i64 64277, .int .i64 65220, .int .i64 0]) ?_ 16 _ rfl; refine bU ?_; refine blk_put (cs := #[.int .i64 0, .int .i64 6424, .int .i64 12785, .int .i64 19024, .int .i64 25080, .int .i64 30893, .int .i64 36410, .int .i64 41576, .int .i64 46341, .int .i64 50660, .int .i64 54491, .int .i64 57798, .int .i64 60547, .int .i64 62714, .int .i64 64277, .int .i64 0, .int .i64 0]) ?_ 15 _ rfl; refine bU ?_; refine blk_put (cs := #[.int .i64 0, .int .i64 6424, .int .i64 12785, .int .i64 19024, .int .i64 25080, .int .i64 30893, .int .i64 36410, .int .i64 41576, .int .i64 46341, .int .i64 50660, .int .i64 54491, .int .i64 57798, .int .i64 60547, .int .i64 62714, .int .i64 0, .int .i64 0, .int .i64 0]) ?_ 14 _ rfl; refine bU ?_; refine blk_put (cs := #[.int .i64 0, .int .i64 6424, .int .i64 12785, .int .i64 19024, .int .i64 25080, .int .i64 30893, .int .i64 36410, .int .i64 41576, .int .i64 46341, .int .i64 50660, .int .i64 54491, .int .i64 57798, .int .i64 60547, .int .i64 0, .int .i64 0, .int .i64 0, .int .i64 0]) ?_ 13 _ rfl; refine bU ?_; refine blk_put (cs := #[.int .i64 0, .int .i64 6424, .int .i64 12785, .int .i64 19024, .int .i64 25080, .int .i64 30893, .int .i64 36410, .int .i64 41576, .int .i64 46341, .int .i64 50660, .int .i64 54491, .int .i64 57798, .int .i64 0, .int .i64 0, .int .i64 0, .int .i64 0, .int .i64 0]) ?_ 12 _ rfl; refine bU ?_; refine blk_put (cs := #[.int .i64 0, .int .i64 6424, .int .i64 12785, .int .i64 19024, .int .i64 25080, .int .i64 30893, .int .i64 36410, .int .i64 41576, .int .i64 46341, .int .i64 50660, .int .i64 54491, .int .i64 0, .int .i64 0, .int .i64 0, .int .i64 0, .int .i64 0, .int .i64 0]) ?_ 11 _ rfl; refine bU ?_; refine blk_put (cs := #[.int .i64 0, .int .i64 6424, .int .i64 12785, .int .i64 19024, .int .i64 25080, .int .i64 30893, .int .i64 36410, .int .i64 41576, .int .i64 46341, .int .i64 50660, .int .i64 0, .int .i64 0, .int .i64 0, .int .i64 0, .int .i64 0, .int .i64 0, .int .i64 0]) ?_ 10 _ rfl; refine bU ?_; refine blk_put (cs := #[.int .i64 0, .int .i64 6424, .int .i64 12785, .int .i64 19024, .int .i64 25080, .int .i64 30893, .int .i64 36410, .int .i64 41576, .int .i64 46341, .int .i64 0, .int .i64 0, .int .i64 0, .int .i64 0, .int .i64 0, .int .i64 0, .int .i64 0, .int .i64 0]) ?_ 9 _ rfl; refine bU ?_; refine blk_put (cs := #[.int .i64 0, .int .i64 6424, .int .i64 12785, .int .i64 19024, .int .i64 25080, .int .i64 30893, .int .i64 36410, .int .i64 41576, .int .i64 0, .int .i64 0, .int .i64 0, .int .i64 0, .int .i64 0, .int .i64 0, .int .i64 0, .int .i64 0, .int .i64 0]) ?_ 8 _ rfl; refine bU ?_; refine blk_put (cs := #[.int .i64 0, .int .i64 6424, .int .i64 12785, .int .i64 19024, .int .i64 25080, .int .i64 30893, .int .i64 36410, .int .i64 0, .int .i64 0, .int .i64 0, .int .i64 0, .int .i64 0, .int .i64 0, .int .i64 0, .int .i64 0, .int .i64 0, .int .i64 0]) ?_ 7 _ rfl; refine bU ?_; refine blk_put (cs := #[.int .i64 0, .int .i64 6424, .int .i64 12785, .int .i64 19024, .int .i64 25080, .int .i64 30893, .int .i64 0, .int .i64 0, .int .i64 0, .int .i64 0, .int .i64 0, .int .i64 0, .int .i64 0, .int .i64 0, .int .i64 0, .int .i64 0, .int .i64 0]) ?_ 6 _ rfl; refine bU ?_; refine blk_put (cs := #[.int .i64 0, .int .i64 6424, .int .i64 12785, .int .i64 19024, .int .i64 25080, .int .i64 0, .int .i64 0, .int .i64 0, .int .i64 0, .int .i64 0, .int .i64 0, .int .i64 0, .int .i64 0, .int .i64 0, .int .i64 0, .int .i64 0, .int .i64 0]) ?_ 5 _ rfl; refine bU ?_; refine blk_put (cs := #[.int .i64 0, .int .i64 6424, .int .i64 12785, .int .i64 19024, .int .i64 0, .int .i64 0, .int .i64 0, .int .i64 0, .int .i64 0, .int .i64 0, .int .i64 0, .int .i64 0, .int .i64 0, .int .i64 0, .int .i64 0, .int .i64 0, .int .i64 0]) ?_ 4 _ rfl; refine bU ?_; refine blk_put (cs := #[.int .i64 0, .int .i64 6424, .int .i64 12785, .int .i64 0, .int .i64 0, .int .i64 0, .int .i64 0, .int .i64 0, .int .i64 0, .int .i64 0, .int .i64 0, .int .i64 0, .int .i64 0, .int .i64 0, .int .i64 0, .int .i64 0, .int .i64 0]) ?_ 3 _ rfl; refine bU ?_; refine blk_put (cs := #[.int .i64 0, .int .i64 6424, .int .i64 0, .int .i64 0, .int .i64 0, .int .i64 0, .int .i64 0, .int .i64 0, .int .i64 0, .int .i64 0, .int .i64 0, .int .i64 0, .int .i64 0, .int .i64 0, .int .i64 0, .int .i64 0, .int .i64 0]) ?_ 2 _ rfl; refine bU ?_; refine blk_put (cs := #[.int .i64 0, .int .i64 0, .int .i64 0, .int .i64 0, .int .i64 0, .int .i64 0, .int .i64 0, .int .i64 0, .int .i64 0, .int .i64 0, .int .i64 0, .int .i64 0, .int .i64 0, .int .i64 0, .int .i64 0, .int .i64 0, .int .i64 0]) ?_ 1 _ rfl; refine bU ?_; refine blk_put (cs := #[.int .i64 0, .int .i64 0, .int .i64 0, .int .i64 0, .int .i64 0, .int .i64 0, .int .i64 0, .int .i64 0, .int .i64 0, .int .i64 0, .int .i64 0, .int .i64 0, .int .i64 0, .int .i64 0, .int .i64 0, .int .i64 0, .int .i64 0]) ?_ 0 _ rfl; refine bU ?_; exact BK.out⟩
    replace HB : Aside0 (Below w.heap.size w W1) := ⟨by rw [← hq_]; exact (lV1 GE)⟩
    clear hq_ hc0 hf0 hc1 hf1 hc2 hf2 hc3 hf3 hc4 hf4 hc5 hf5 hc6 hf6 hc7 hf7 hc8 hf8 hc9 hf9 hc10 hf10 hc11 hf11 hc12 hf12 hc13 hf13 hc14 hf14 hc15 hf15 hc16 hf16
    go_upto_region 4 with (first | ((with_reducible refine gate_callee (f := 65) rfl ?_); refine goesL_ (some 9) rfl rfl Try.func65 (by kernel_rfl) rfl #[.int .i64 a, .int .i64 4096] rfl (by (try simp only [List.map_toArray, List.map_cons, List.map_nil]); first | done | rfl) ?_; (with_reducible refine (impl_mod.calls a 4096 m _ HM.out).mono ?_); rintro e w' ⟨rfl, ⟨nd, rfl⟩⟩; refine ⟨_, rfl, ?_⟩; rw [drewN_self W1]; generalize hq_ : World.drewN W1 _ = W2; replace BK : Aside0 (W2.heap[gb]? = some (.cells #[.int .i64 0, .int .i64 6424, .int .i64 12785, .int .i64 19024, .int .i64 25080, .int .i64 30893, .int .i64 36410, .int .i64 41576, .int .i64 46341, .int .i64 50660, .int .i64 54491, .int .i64 57798, .int .i64 60547, .int .i64 62714, .int .i64 64277, .int .i64 65220, .int .i64 65536] 84 (0, 0))) := ⟨by rw [← hq_]; exact BK.out⟩; replace HB : Aside0 (Below w.heap.size w W2) := ⟨by rw [← hq_]; exact pw_below_drewN HB.out _⟩; clear hq_))
    go_wp2_with (first | ((with_reducible refine gate_callee (f := 60) rfl ?_); refine goesL_ (some 15) rfl rfl Try.func60 (by kernel_rfl) rfl #[.int .i64 (wrap64 (m - 2048))] rfl (by (try simp only [List.map_toArray, List.map_cons, List.map_nil]); first | done | rfl) ?_; (with_reducible refine (HS.out _).mono ?_); rintro e w' ⟨rfl, hb⟩; refine ⟨_, rfl, ?_⟩; have HB2 := Aside0.mk (below_step HB.out hb); clear hb))
    go_ret
    exact ⟨rfl, HB2.out⟩
   ·rw [if_neg c2] at h
    cases h
 ·rw [if_neg c0] at h
  cases h
def impl_CosOf.f (a0 : Int) : Option (Int) := (impl_mod.f a0 4096).bind fun t254 => ((impl_SinOf.f (wrap64 (t254 + 1024))).bind fun t255 => (some t255))
set_option maxHeartbeats 8000000 in
set_option maxRecDepth 100000 in
theorem impl_CosOf.calls (a0 : Int) (r : Int) (w : World) (h : impl_CosOf.f a0 = some r) :
  Calls Try.prog 59 #[.int .i64 a0] w fun e w' => e = .returned (.int .i64 r) ∧ Below w.heap.size w w' := by
 have HB := Aside0.mk (Below.refl w.heap.size w)
 have H : ((impl_mod.f a0 4096).bind fun t254 => ((impl_SinOf.f (wrap64 (t254 + 1024))).bind fun t255 => (some t255))) = some r := h
 clear h
 replace H := Option.bind_eq_some_iff.mp H
 obtain ⟨t254, A20, H⟩ := H
 replace H : ((impl_SinOf.f (wrap64 (t254 + 1024))).bind fun t255 => (some t255)) = some r := H
 have A2 := Aside0.mk A20
 clear A20
 replace H := Option.bind_eq_some_iff.mp H
 obtain ⟨t255, A30, H⟩ := H
 replace H : (some t255) = some r := H
 have A3 := Aside0.mk A30
 clear A30
 obtain rfl := Option.some.inj H
 go_enter Try.func59, Try.ntmps59
 go_wp2_with (first | ((with_reducible refine gate_callee (f := 65) rfl ?_); refine goesL_ (some 4) rfl rfl Try.func65 (by kernel_rfl) rfl #[.int .i64 a0, .int .i64 4096] rfl aE ?_; (with_reducible refine (impl_mod.calls a0 4096 t254 _ A2.out).mono ?_); rintro e w' ⟨rfl, ⟨nd, rfl⟩⟩; refine ⟨_, rfl, ?_⟩) | ((with_reducible refine gate_callee (f := 60) rfl ?_); refine goesL_ (some 6) rfl rfl Try.func60 (by kernel_rfl) rfl #[.int .i64 (wrap64 (t254 + 1024))] rfl aE ?_; (with_reducible refine (impl_SinOf.calls (wrap64 (t254 + 1024)) t255 _ A3.out).mono ?_); rintro e w4 ⟨rfl, hb⟩; refine ⟨_, rfl, ?_⟩; replace HB := bH (lU) hb; (try clear hb)))
 go_ret
 exact ⟨eE, lU⟩
def impl_Emitter_born.f (k : Nat) (a0_0 : Int) (a0_1 : Int) (a0_2 : Int) (a0_3 : Int) (a0_4 : Int) (a0_5 : Int) (a0_6 : Int) (a1 : Int) : Option (Int × Int × Int × Int × Int × Int) := (impl_NextCoin.f a1).bind fun bt258 => ((impl_NextCoin.f bt258.1).bind fun bt260 => ((impl_CosOf.f (Int.tmod bt258.2 4096)).bind fun t262 => ((impl_FixMul.f k (wrap64 (Int.tdiv (wrap64 (a0_5 * bt260.2)) 32768)) t262).bind fun t263 => ((impl_SinOf.f (Int.tmod bt258.2 4096)).bind fun t264 => ((impl_FixMul.f k (wrap64 (Int.tdiv (wrap64 (a0_5 * bt260.2)) 32768)) t264).bind fun t265 => (some (a0_0, a0_1, t263, t265, a0_4, bt260.1)))))))
theorem impl_Emitter_born.mono : ∀ a0 a1 a2 a3 a4 a5 a6 a7 k, LeO (impl_Emitter_born.f k a0 a1 a2 a3 a4 a5 a6 a7) (impl_Emitter_born.f (k + 1) a0 a1 a2 a3 a4 a5 a6 a7) := by
 intro a0 a1 a2 a3 a4 a5 a6 a7 k
 unfold impl_Emitter_born.f
 repeat' first
   | (with_reducible exact impl_FixMul.mono _ _ _)
   | (with_reducible exact LeO.refl _)
   | (with_reducible exact LeO.none _)
   | (with_reducible refine LeO.ite ?_ ?_)
   | (with_reducible refine LeO.bind ?_ (fun _ => ?_))
   | exact impl_FixMul.mono _ _ _
   | exact LeO.none _
   | refine LeO.ite ?_ ?_
   | refine LeO.bind ?_ (fun _ => ?_)
def impl_Emitter_born.T3 : Bool × List (List Nat × List Nat) := (true, [([], []), ([0], [0]), ([], []), ([2], [2]), ([], []), ([3, 4], [3, 4]), ([5], [5]), ([1, 0, 1], [1]), ([6, 7, 0, 1, 2, 3, 4, 5, 6, 7], [6])])
def impl_Emitter_born.B3 : List Nat := [0, 1, 0, 4, 0, 28, 60, 3, 255]
theorem impl_Emitter_born.tab3 : rtab .any (opsOf Try.f49 3) = impl_Emitter_born.T3 := by kernel_rfl
theorem impl_Emitter_born.bits3 : waitsOk impl_Emitter_born.T3.2 impl_Emitter_born.B3 = true := by kernel_rfl
def impl_Emitter_born.T4 : Bool × List (List Nat × List Nat) := (true, [([], []), ([0], [0]), ([], []), ([2], [2]), ([], []), ([], []), ([5], [5]), ([4, 6, 6], [4, 6]), ([], []), ([], []), ([9, 7], [9]), ([8, 10, 10], [8, 10]), ([], []), ([12], [12]), ([1, 3, 7, 11, 13], [1, 3, 7, 11, 13]), ([], []), ([14, 11, 0, 1, 2, 3, 4, 5, 6, 7, 8, 9, 10, 11, 12, 13, 14], [14]), ([15, 16, 0, 1, 2, 3, 4, 5, 6, 7, 8, 9, 10, 11, 12, 13, 14, 15, 16], [15])])
def impl_Emitter_born.B4 : List Nat := [0, 1, 0, 4, 0, 0, 32, 112, 0, 0, 752, 2032, 0, 4096, 16383, 0, 32767, 131071]
theorem impl_Emitter_born.tab4 : rtab .any (opsOf Try.f49 4) = impl_Emitter_born.T4 := by kernel_rfl
theorem impl_Emitter_born.bits4 : waitsOk impl_Emitter_born.T4.2 impl_Emitter_born.B4 = true := by kernel_rfl
set_option maxHeartbeats 8000000 in
set_option maxRecDepth 100000 in
theorem impl_Emitter_born.calls (k : Nat) (a0_0 : Int) (a0_1 : Int) (a0_2 : Int) (a0_3 : Int) (a0_4 : Int) (a0_5 : Int) (a0_6 : Int) (a1 : Int) (r1 : Int) (r2 : Int) (r3 : Int) (r4 : Int) (r5 : Int) (r6 : Int) (w : World) (h : impl_Emitter_born.f k a0_0 a0_1 a0_2 a0_3 a0_4 a0_5 a0_6 a1 = some (r1, r2, r3, r4, r5, r6)) :
  Calls Try.prog 49 #[.agg #[.int .i64 a0_0, .int .i64 a0_1, .int .i64 a0_2, .int .i64 a0_3, .int .i64 a0_4, .int .i64 a0_5, .int .i64 a0_6], .int .i64 a1] w fun e w' => e = .returned (.tuple #[.agg #[.int .i64 r1, .int .i64 r2, .int .i64 r3, .int .i64 r4, .int .i64 r5], .int .i64 r6]) ∧ Below w.heap.size w w' := by
 have hu26 := Try.underlying26
 have hu48 := Try.underlying48
 have HB := Aside0.mk (Below.refl w.heap.size w)
 have H : ((impl_NextCoin.f a1).bind fun bt258 => ((impl_NextCoin.f bt258.1).bind fun bt260 => ((impl_CosOf.f (Int.tmod bt258.2 4096)).bind fun t262 => ((impl_FixMul.f k (wrap64 (Int.tdiv (wrap64 (a0_5 * bt260.2)) 32768)) t262).bind fun t263 => ((impl_SinOf.f (Int.tmod bt258.2 4096)).bind fun t264 => ((impl_FixMul.f k (wrap64 (Int.tdiv (wrap64 (a0_5 * bt260.2)) 32768)) t264).bind fun t265 => (some (a0_0, a0_1, t263, t265, a0_4, bt260.1)))))))) = some (r1, r2, r3, r4, r5, r6) := h
 clear h
 replace H := Option.bind_eq_some_iff.mp H
 obtain ⟨⟨t258, t259⟩, A30, H⟩ := H
 replace H : ((impl_NextCoin.f t258).bind fun bt260 => ((impl_CosOf.f (Int.tmod t259 4096)).bind fun t262 => ((impl_FixMul.f k (wrap64 (Int.tdiv (wrap64 (a0_5 * bt260.2)) 32768)) t262).bind fun t263 => ((impl_SinOf.f (Int.tmod t259 4096)).bind fun t264 => ((impl_FixMul.f k (wrap64 (Int.tdiv (wrap64 (a0_5 * bt260.2)) 32768)) t264).bind fun t265 => (some (a0_0, a0_1, t263, t265, a0_4, bt260.1))))))) = some (r1, r2, r3, r4, r5, r6) := H
 have A3 := Aside0.mk A30
 clear A30
 replace H := Option.bind_eq_some_iff.mp H
 obtain ⟨⟨t260, t261⟩, A40, H⟩ := H
 replace H : ((impl_CosOf.f (Int.tmod t259 4096)).bind fun t262 => ((impl_FixMul.f k (wrap64 (Int.tdiv (wrap64 (a0_5 * t261)) 32768)) t262).bind fun t263 => ((impl_SinOf.f (Int.tmod t259 4096)).bind fun t264 => ((impl_FixMul.f k (wrap64 (Int.tdiv (wrap64 (a0_5 * t261)) 32768)) t264).bind fun t265 => (some (a0_0, a0_1, t263, t265, a0_4, t260)))))) = some (r1, r2, r3, r4, r5, r6) := H
 have A4 := Aside0.mk A40
 clear A40
 replace H := Option.bind_eq_some_iff.mp H
 obtain ⟨t262, A50, H⟩ := H
 replace H : ((impl_FixMul.f k (wrap64 (Int.tdiv (wrap64 (a0_5 * t261)) 32768)) t262).bind fun t263 => ((impl_SinOf.f (Int.tmod t259 4096)).bind fun t264 => ((impl_FixMul.f k (wrap64 (Int.tdiv (wrap64 (a0_5 * t261)) 32768)) t264).bind fun t265 => (some (a0_0, a0_1, t263, t265, a0_4, t260))))) = some (r1, r2, r3, r4, r5, r6) := H
 have A5 := Aside0.mk A50
 clear A50
 replace H := Option.bind_eq_some_iff.mp H
 obtain ⟨t263, A60, H⟩ := H
 replace H : ((impl_SinOf.f (Int.tmod t259 4096)).bind fun t264 => ((impl_FixMul.f k (wrap64 (Int.tdiv (wrap64 (a0_5 * t261)) 32768)) t264).bind fun t265 => (some (a0_0, a0_1, t263, t265, a0_4, t260)))) = some (r1, r2, r3, r4, r5, r6) := H
 have A6 := Aside0.mk A60
 clear A60
 replace H := Option.bind_eq_some_iff.mp H
 obtain ⟨t264, A70, H⟩ := H
 replace H : ((impl_FixMul.f k (wrap64 (Int.tdiv (wrap64 (a0_5 * t261)) 32768)) t264).bind fun t265 => (some (a0_0, a0_1, t263, t265, a0_4, t260))) = some (r1, r2, r3, r4, r5, r6) := H
 have A7 := Aside0.mk A70
 clear A70
 replace H := Option.bind_eq_some_iff.mp H
 obtain ⟨t265, A80, H⟩ := H
 replace H : (some (a0_0, a0_1, t263, t265, a0_4, t260)) = some (r1, r2, r3, r4, r5, r6) := H
 have A8 := Aside0.mk A80
 clear A80
 simp only [Option.some.injEq, Prod.mk.injEq] at H
 obtain ⟨rfl, rfl, rfl, rfl, rfl, rfl⟩ := H
 go_enter Try.func49, Try.ntmps49
 try go_wp2_with (first | ((with_reducible refine gate_dst (N := 2) rfl ?_); refine box_event rfl (N := 2) rfl (cs := #[.int .i64 a0_0, .int .i64 a0_1, .int .i64 a0_2, .int .i64 a0_3, .int .i64 a0_4, .int .i64 a0_5, .int .i64 a0_6]) (t := 26) sE ?_; intro gb256 hg w9 hbox hb; have BK256 := Aside0.mk hbox; have GW256 := gS w hg (lU); have GE256 := gS w hg (lU); replace HB := bH (lU) hb; clear hb hbox hg) | ((with_reducible refine gate_dst (N := 4) rfl ?_); refine box_event rfl (N := 4) rfl (cs := #[.int .i64 0, .int .i64 0, .int .i64 0, .int .i64 0, .int .i64 0]) (t := 48) sE ?_; intro gb257 hg w10 hbox hb; have BK257 := Aside0.mk hbox; have GW257 := gS w hg (lV1 GE256); have GE257 := gS w hg (lV1 GE256); replace HB := bH (lV1 GE256) hb; have NB256_257 := nL hg (bV BK256); have NB257_256 := nG hg (bV BK256); replace BK256 := bB (bV BK256) hb; clear hb hbox hg) | ((with_reducible refine gate_callee (f := 57) rfl ?_); refine goesL_ (some 12) rfl rfl Try.func57 (by kernel_rfl) rfl #[.int .i64 a1] rfl aE ?_; (with_reducible refine (impl_NextCoin.calls a1 t258 t259 _ A3.out).mono ?_); rintro e w' ⟨rfl, ⟨nd, rfl⟩⟩; refine ⟨_, rfl, ?_⟩; (try (rw [drewN_self w10]; generalize hq_ : World.drewN w10 _ = w10; replace BK256 : Aside0 (w10.heap[gb256]? = some (.cells #[.int .i64 a0_0, .int .i64 a0_1, .int .i64 a0_2, .int .i64 a0_3, .int .i64 a0_4, .int .i64 a0_5, .int .i64 a0_6] 26 (0, 0))) := ⟨by rw [← hq_]; exact (bV BK256)⟩; replace BK257 : Aside0 (w10.heap[gb257]? = some (.cells #[.int .i64 0, .int .i64 0, .int .i64 0, .int .i64 0, .int .i64 0] 48 (0, 0))) := ⟨by rw [← hq_]; exact (bV BK257)⟩; replace HB : Aside0 (Below w.heap.size w w10) := ⟨by rw [← hq_]; exact (lV2 GE256 GE257)⟩; clear hq_))) | ((with_reducible refine gate_callee (f := 57) rfl ?_); refine goesL_ (some 17) rfl rfl Try.func57 (by kernel_rfl) rfl #[.int .i64 t258] rfl aE ?_; (with_reducible refine (impl_NextCoin.calls t258 t260 t261 _ A4.out).mono ?_); rintro e w' ⟨rfl, ⟨nd, rfl⟩⟩; refine ⟨_, rfl, ?_⟩; (try (rw [drewN_self w10]; generalize hq_ : World.drewN w10 _ = w10; replace BK256 : Aside0 (w10.heap[gb256]? = some (.cells #[.int .i64 a0_0, .int .i64 a0_1, .int .i64 a0_2, .int .i64 a0_3, .int .i64 a0_4, .int .i64 a0_5, .int .i64 a0_6] 26 (0, 0))) := ⟨by rw [← hq_]; exact (bV BK256)⟩; replace BK257 : Aside0 (w10.heap[gb257]? = some (.cells #[.int .i64 0, .int .i64 0, .int .i64 0, .int .i64 0, .int .i64 0] 48 (0, 0))) := ⟨by rw [← hq_]; exact (bV BK257)⟩; replace HB : Aside0 (Below w.heap.size w w10) := ⟨by rw [← hq_]; exact (lV2 GE256 GE257)⟩; clear hq_))))
 replace BK256 := Aside0.mk (blk_drew BK256.out)
 replace BK257 := Aside0.mk (blk_drew BK257.out)
 replace HB := Aside0.mk (below_drew1 HB.out)
 refine start_ (n := 9) (S := fun w' => w'.cell? ⟨gb256, 0, none⟩ = some (.int .i64 a0_0) ∧ w'.cell? ⟨gb256, 1, none⟩ = some (.int .i64 a0_1) ∧ w'.cell? ⟨gb256, 2, none⟩ = some (.int .i64 a0_2) ∧ w'.cell? ⟨gb256, 3, none⟩ = some (.int .i64 a0_3) ∧ w'.cell? ⟨gb256, 4, none⟩ = some (.int .i64 a0_4) ∧ w'.cell? ⟨gb256, 5, none⟩ = some (.int .i64 a0_5) ∧ w'.cell? ⟨gb256, 6, none⟩ = some (.int .i64 a0_6)) (ds := []) #[false, false, false, false, false, false, false, false, false] (by kernel_rfl) rfl rfl ⟨cz BK256 0 _, cz BK256 1 _, cz BK256 2 _, cz BK256 3 _, cz BK256 4 _, cz BK256 5 _, cz BK256 6 _⟩ (fun hHeld => ?_); refine with_tabW impl_Emitter_born.tab3 impl_Emitter_born.bits3 (fun HT_ HW_ => ?_)
 generalize w10.drew = w11 at BK256 BK257 HB hHeld ⊢
 refine pureA 0 20 (bz 9 1) rfl rfl (any_of HT_.out (by kernel_rfl)) ?_
 refine pureA 1 21 (bz 9 3) rfl rfl (any_of HT_.out (by kernel_rfl)) ?_
 refine pureA 2 22 (bz 9 7) rfl rfl (any_of HT_.out (by kernel_rfl)) ?_
 refine pureA 4 24 (bz 9 23) rfl rfl (any_of HT_.out (by kernel_rfl)) ?_
 refine pureA 7 8 (bz 9 151) rfl rfl (any_of HT_.out (by kernel_rfl)) ?_
 refine takeA 3 23 (bz 9 159) rfl rfl (take_ofW HT_.out HW_.out (by kernel_rfl)) hHeld (by rintro w' ⟨s0, s1, s2, s3, s4, s5, s6⟩; go_simp; with_reducible rfl) ?_
 refine pureA 5 25 (bz 9 191) rfl rfl (any_of HT_.out (by kernel_rfl)) ?_
 refine pureA 6 26 (bz 9 255) rfl rfl (any_of HT_.out (by kernel_rfl)) ?_
 refine pureA 8 9 (bz 9 511) rfl rfl (any_of HT_.out (by kernel_rfl)) ?_
 refine done_ (done_of HT_.out (by kernel_rfl)) ?_
 try go_wp2
 replace BK256 := Aside0.mk (blk_drew BK256.out)
 replace BK257 := Aside0.mk (blk_drew BK257.out)
 replace HB := Aside0.mk (below_drew1 HB.out)
 refine start_ (n := 18) (S := fun w' => w'.cell? ⟨gb256, 0, none⟩ = some (.int .i64 a0_0) ∧ w'.cell? ⟨gb256, 1, none⟩ = some (.int .i64 a0_1) ∧ w'.cell? ⟨gb256, 2, none⟩ = some (.int .i64 a0_2) ∧ w'.cell? ⟨gb256, 3, none⟩ = some (.int .i64 a0_3) ∧ w'.cell? ⟨gb256, 4, none⟩ = some (.int .i64 a0_4) ∧ w'.cell? ⟨gb256, 5, none⟩ = some (.int .i64 a0_5) ∧ w'.cell? ⟨gb256, 6, none⟩ = some (.int .i64 a0_6)) (ds := []) #[false, false, false, false, false, false, false, false, false, false, false, false, false, false, false, false, false, false] (by kernel_rfl) rfl rfl ⟨cz BK256 0 _, cz BK256 1 _, cz BK256 2 _, cz BK256 3 _, cz BK256 4 _, cz BK256 5 _, cz BK256 6 _⟩ (fun hHeld => ?_); refine with_tabW impl_Emitter_born.tab4 impl_Emitter_born.bits4 (fun HT_ HW_ => ?_)
 generalize w11.drew = w12 at BK256 BK257 HB hHeld ⊢
 refine pureA 0 27 (bz 18 1) rfl rfl (any_of HT_.out (by kernel_rfl)) ?_
 refine pureA 2 29 (bz 18 5) rfl rfl (any_of HT_.out (by kernel_rfl)) ?_
 refine pureA 4 31 (bz 18 21) rfl rfl (any_of HT_.out (by kernel_rfl)) ?_
 refine pureA 5 32 (bz 18 53) rfl rfl (any_of HT_.out (by kernel_rfl)) ?_
 refine pureA 8 35 (bz 18 309) rfl rfl (any_of HT_.out (by kernel_rfl)) ?_
 refine pureA 9 36 (bz 18 821) rfl rfl (any_of HT_.out (by kernel_rfl)) ?_
 refine pureA 12 39 (bz 18 4917) rfl rfl (any_of HT_.out (by kernel_rfl)) ?_
 refine pureA 15 42 (bz 18 37685) rfl rfl (any_of HT_.out (by kernel_rfl)) ?_
 refine takeA 1 28 (bz 18 37687) rfl rfl (take_ofW HT_.out HW_.out (by kernel_rfl)) hHeld (by rintro w' ⟨s0, s1, s2, s3, s4, s5, s6⟩; go_simp; with_reducible rfl) ?_
 refine takeA 3 30 (bz 18 37695) rfl rfl (take_ofW HT_.out HW_.out (by kernel_rfl)) hHeld (by rintro w' ⟨s0, s1, s2, s3, s4, s5, s6⟩; go_simp; with_reducible rfl) ?_
 refine takeA 13 40 (bz 18 45887) rfl rfl (take_ofW HT_.out HW_.out (by kernel_rfl)) hHeld (by rintro w' ⟨s0, s1, s2, s3, s4, s5, s6⟩; go_simp; with_reducible rfl) ?_
 refine one_ (i := 6) (N := some 33) (bz 18 45951) rfl rfl (one_of HT_.out (by kernel_rfl)) (by decide) (fun K hK => ?_)
 refine goes_ Try.func59 (by kernel_rfl) rfl #[.int .i64 (Int.tmod t259 4096)] (by rfl) rfl rfl aE ?_
 with_reducible refine (impl_CosOf.calls (Int.tmod t259 4096) t262 _ A5.out).mono ?_
 rintro e w13 ⟨rfl, hb⟩
 refine ⟨_, rfl, ?_⟩
 replace BK256 := bB (bV BK256) hb
 replace BK257 := bB (bV BK257) hb
 replace HB := bH (lV2 GE256 GE257) hb
 (try clear hb)
 (try clear hb2)
 (try clear hk)
 (try clear hi)
 refine hK.out _ _ ⟨cz BK256 0 _, cz BK256 1 _, cz BK256 2 _, cz BK256 3 _, cz BK256 4 _, cz BK256 5 _, cz BK256 6 _⟩ (fun hHeld => ?_)
 clear hK K
 refine norm_ (a' := ?_) ?_ ?_
 rotate_left
 ·show Act.put _ (some 33) _ = _
  simp only [Act.put, List.setIfInBounds_toArray, List.set_cons_zero, List.set_cons_succ, i64_w, i32_w]
  rfl
 refine one_ (i := 7) (N := some 34) (bz 18 46079) rfl rfl (one_of HT_.out (by kernel_rfl)) (by decide) (fun K hK => ?_)
 refine goes_ Try.func58 (by kernel_rfl) rfl #[.int .i64 (wrap64 (Int.tdiv (wrap64 (a0_5 * t261)) 32768)), .int .i64 t262] (by rfl) rfl rfl aE ?_
 with_reducible refine (impl_FixMul.calls k (wrap64 (Int.tdiv (wrap64 (a0_5 * t261)) 32768)) t262 t263 _ A6.out).mono ?_
 rintro e w14 ⟨rfl, hb⟩
 refine ⟨_, rfl, ?_⟩
 replace BK256 := bB (bV BK256) hb
 replace BK257 := bB (bV BK257) hb
 replace HB := bH (lV2 GE256 GE257) hb
 (try clear hb)
 (try clear hb2)
 (try clear hk)
 (try clear hi)
 refine hK.out _ _ ⟨cz BK256 0 _, cz BK256 1 _, cz BK256 2 _, cz BK256 3 _, cz BK256 4 _, cz BK256 5 _, cz BK256 6 _⟩ (fun hHeld => ?_)
 clear hK K
 refine norm_ (a' := ?_) ?_ ?_
 rotate_left
 ·show Act.put _ (some 34) _ = _
  simp only [Act.put, List.setIfInBounds_toArray, List.set_cons_zero, List.set_cons_succ, i64_w, i32_w]
  rfl
 refine one_ (i := 10) (N := some 37) (bz 18 47103) rfl rfl (one_of HT_.out (by kernel_rfl)) (by decide) (fun K hK => ?_)
 refine goes_ Try.func60 (by kernel_rfl) rfl #[.int .i64 (Int.tmod t259 4096)] (by rfl) rfl rfl aE ?_
 with_reducible refine (impl_SinOf.calls (Int.tmod t259 4096) t264 _ A7.out).mono ?_
 rintro e w15 ⟨rfl, hb⟩
 refine ⟨_, rfl, ?_⟩
 replace BK256 := bB (bV BK256) hb
 replace BK257 := bB (bV BK257) hb
 replace HB := bH (lV2 GE256 GE257) hb
 (try clear hb)
 (try clear hb2)
 (try clear hk)
 (try clear hi)
 refine hK.out _ _ ⟨cz BK256 0 _, cz BK256 1 _, cz BK256 2 _, cz BK256 3 _, cz BK256 4 _, cz BK256 5 _, cz BK256 6 _⟩ (fun hHeld => ?_)
 clear hK K
 refine norm_ (a' := ?_) ?_ ?_
 rotate_left
 ·show Act.put _ (some 37) _ = _
  simp only [Act.put, List.setIfInBounds_toArray, List.set_cons_zero, List.set_cons_succ, i64_w, i32_w]
  rfl
 refine one_ (i := 11) (N := some 38) (bz 18 49151) rfl rfl (one_of HT_.out (by kernel_rfl)) (by decide) (fun K hK => ?_)
 refine goes_ Try.func58 (by kernel_rfl) rfl #[.int .i64 (wrap64 (Int.tdiv (wrap64 (a0_5 * t261)) 32768)), .int .i64 t264] (by rfl) rfl rfl aE ?_
 with_reducible refine (impl_FixMul.calls k (wrap64 (Int.tdiv (wrap64 (a0_5 * t261)) 32768)) t264 t265 _ A8.out).mono ?_
 rintro e w16 ⟨rfl, hb⟩
 refine ⟨_, rfl, ?_⟩
 replace BK256 := bB (bV BK256) hb
 replace BK257 := bB (bV BK257) hb
 replace HB := bH (lV2 GE256 GE257) hb
 (try clear hb)
 (try clear hb2)
 (try clear hk)
 (try clear hi)
 refine hK.out _ _ ⟨cz BK256 0 _, cz BK256 1 _, cz BK256 2 _, cz BK256 3 _, cz BK256 4 _, cz BK256 5 _, cz BK256 6 _⟩ (fun hHeld => ?_)
 clear hK K
 refine norm_ (a' := ?_) ?_ ?_
 rotate_left
 ·show Act.put _ (some 38) _ = _
  simp only [Act.put, List.setIfInBounds_toArray, List.set_cons_zero, List.set_cons_succ, i64_w, i32_w]
  rfl
 refine pureA 14 41 (bz 18 65535) rfl rfl (any_of HT_.out (by kernel_rfl)) ?_
 refine one_ (i := 16) (N := none) (bz 18 131071) rfl rfl (one_of HT_.out (by kernel_rfl)) (by decide) (fun K hK => ?_)
 have hs17 : w16.cell? ⟨gb257, 0, none⟩ = some (.int .i64 0) := (blk_cell BK257.out 0).trans rfl
 have hfs17 := blk_frozen BK257.out 0
 have hns17_0 := NB256_257.out
 have hms17_0 := NB257_256.out
 have hs18 : w16.cell? ⟨gb257, 1, none⟩ = some (.int .i64 0) := (blk_cell BK257.out 1).trans rfl
 have hfs18 := blk_frozen BK257.out 1
 have hns18_0 := NB256_257.out
 have hms18_0 := NB257_256.out
 have hs19 : w16.cell? ⟨gb257, 2, none⟩ = some (.int .i64 0) := (blk_cell BK257.out 2).trans rfl
 have hfs19 := blk_frozen BK257.out 2
 have hns19_0 := NB256_257.out
 have hms19_0 := NB257_256.out
 have hs20 : w16.cell? ⟨gb257, 3, none⟩ = some (.int .i64 0) := (blk_cell BK257.out 3).trans rfl
 have hfs20 := blk_frozen BK257.out 3
 have hns20_0 := NB256_257.out
 have hms20_0 := NB257_256.out
 have hs21 : w16.cell? ⟨gb257, 4, none⟩ = some (.int .i64 0) := (blk_cell BK257.out 4).trans rfl
 have hfs21 := blk_frozen BK257.out 4
 have hns21_0 := NB256_257.out
 have hms21_0 := NB257_256.out
 refine skip_ (w1 := ?_) (by rfl) rfl ?_ ?_
 rotate_left
 ·go_simp
  rfl
 refine hK.out _ _ ⟨((cell_far (p := ⟨gb257, _, none⟩) NB256_257.out _).trans (((cell_far (p := ⟨gb257, _, none⟩) NB256_257.out _).trans (((cell_far (p := ⟨gb257, _, none⟩) NB256_257.out _).trans (((cell_far (p := ⟨gb257, _, none⟩) NB256_257.out _).trans (((cell_far (p := ⟨gb257, _, none⟩) NB256_257.out _).trans (hHeld.1)))))))))), ((cell_far (p := ⟨gb257, _, none⟩) NB256_257.out _).trans (((cell_far (p := ⟨gb257, _, none⟩) NB256_257.out _).trans (((cell_far (p := ⟨gb257, _, none⟩) NB256_257.out _).trans (((cell_far (p := ⟨gb257, _, none⟩) NB256_257.out _).trans (((cell_far (p := ⟨gb257, _, none⟩) NB256_257.out _).trans (hHeld.2.1)))))))))), ((cell_far (p := ⟨gb257, _, none⟩) NB256_257.out _).trans (((cell_far (p := ⟨gb257, _, none⟩) NB256_257.out _).trans (((cell_far (p := ⟨gb257, _, none⟩) NB256_257.out _).trans (((cell_far (p := ⟨gb257, _, none⟩) NB256_257.out _).trans (((cell_far (p := ⟨gb257, _, none⟩) NB256_257.out _).trans (hHeld.2.2.1)))))))))), ((cell_far (p := ⟨gb257, _, none⟩) NB256_257.out _).trans (((cell_far (p := ⟨gb257, _, none⟩) NB256_257.out _).trans (((cell_far (p := ⟨gb257, _, none⟩) NB256_257.out _).trans (((cell_far (p := ⟨gb257, _, none⟩) NB256_257.out _).trans (((cell_far (p := ⟨gb257, _, none⟩) NB256_257.out _).trans (hHeld.2.2.2.1)))))))))), ((cell_far (p := ⟨gb257, _, none⟩) NB256_257.out _).trans (((cell_far (p := ⟨gb257, _, none⟩) NB256_257.out _).trans (((cell_far (p := ⟨gb257, _, none⟩) NB256_257.out _).trans (((cell_far (p := ⟨gb257, _, none⟩) NB256_257.out _).trans (((cell_far (p := ⟨gb257, _, none⟩) NB256_257.out _).trans (hHeld.2.2.2.2.1)))))))))), ((cell_far (p := ⟨gb257, _, none⟩) NB256_257.out _).trans (((cell_far (p := ⟨gb257, _, none⟩) NB256_257.out _).trans (((cell_far (p := ⟨gb257, _, none⟩) NB256_257.out _).trans (((cell_far (p := ⟨gb257, _, none⟩) NB256_257.out _).trans (((cell_far (p := ⟨gb257, _, none⟩) NB256_257.out _).trans (hHeld.2.2.2.2.2.1)))))))))), ((cell_far (p := ⟨gb257, _, none⟩) NB256_257.out _).trans (((cell_far (p := ⟨gb257, _, none⟩) NB256_257.out _).trans (((cell_far (p := ⟨gb257, _, none⟩) NB256_257.out _).trans (((cell_far (p := ⟨gb257, _, none⟩) NB256_257.out _).trans (((cell_far (p := ⟨gb257, _, none⟩) NB256_257.out _).trans (hHeld.2.2.2.2.2.2))))))))))⟩ (fun hHeld => ?_)
 clear hK K
 refine pureA 17 5 (bz 18 262143) rfl rfl (any_of HT_.out (by kernel_rfl)) ?_
 refine done_ (done_of HT_.out (by kernel_rfl)) ?_
 try go_wp2
 refine bodyPost_ret (results_ct rfl _ _ gb257 48 #[.int .i64 a0_0, .int .i64 a0_1, .int .i64 t263, .int .i64 t265, .int .i64 a0_4] (0, 0) _ rfl (by refine bU ?_; refine blk_put (cs := #[.int .i64 a0_0, .int .i64 a0_1, .int .i64 t263, .int .i64 t265, .int .i64 0]) ?_ 4 _ rfl; refine bU ?_; refine blk_put (cs := #[.int .i64 a0_0, .int .i64 a0_1, .int .i64 t263, .int .i64 0, .int .i64 0]) ?_ 3 _ rfl; refine bU ?_; refine blk_put (cs := #[.int .i64 a0_0, .int .i64 a0_1, .int .i64 0, .int .i64 0, .int .i64 0]) ?_ 2 _ rfl; refine bU ?_; refine blk_put (cs := #[.int .i64 a0_0, .int .i64 0, .int .i64 0, .int .i64 0, .int .i64 0]) ?_ 1 _ rfl; refine bU ?_; refine blk_put (cs := #[.int .i64 0, .int .i64 0, .int .i64 0, .int .i64 0, .int .i64 0]) ?_ 0 _ rfl; refine bU ?_; exact BK257.out) Try.underlying48 rfl (by kernel_rfl)) rfl ?_
 exact ⟨eE, lV2 GE256 GE257⟩
end Go.Proofs.Ythgfobcckoedaaa.PFnExactSparksAt
namespace Go.Proofs.Ythgfobcckoedaaa.PFnExactSparksAt
open Go.RowKit Go.Proofs.YthgfobcckoedaaaW.PrintWords Go.Proofs.YthgfobcckoedaaaW.PrintLast Go.Proofs.YthgfobcckoedaaaW.PrintMore
attribute [local go_sem] max2_int min2_int max_two min_two max_three min_three max_four min_four   -- for this text's walks alone
set_option linter.unusedVariables false
set_option linter.unusedSimpArgs false
mutual
def impl_Emitter_step.l0 : Nat → List (S48) → Int → Int → Int → Int → Int → Int → Int → Int → Int → Int → Int → List (S48) → Int → Int → List (S48) → Option (Int × Int × (List (S48)) × Bool)
 | 0, _, _, _, _, _, _, _, _, _, _, _, _, _, _, _, _ => none
 | k + 1, x19, x20, x21, x267000, x267001, x267002, x267003, x267004, x267005, x267006, x268000, x268001, x268002, x270000, x270001, x270002 => if x21 < x20 then (if 0 ≤ x21 then (if x21 < (x19.length : Int) then (if (wrap64 (((rd_T48 x19 x21).f4) - 1)) > 0 then (if x270002.length < 3518437208883 then (impl_Emitter_step.l0 k x19 x20 (wrap64 (x21 + 1)) x267000 x267001 x267002 x267003 x267004 x267005 x267006 x268000 x268001 x268002 x270000 x270001 (x270002 ++ [(⟨wrap64 (((rd_T48 x19 x21).f0) + ((rd_T48 x19 x21).f2)), wrap64 (((rd_T48 x19 x21).f1) + ((rd_T48 x19 x21).f3)), (rd_T48 x19 x21).f2, wrap64 (((rd_T48 x19 x21).f3) - x267006), wrap64 (((rd_T48 x19 x21).f4) - 1)⟩ : S48)])) else (none)) else (impl_Emitter_step.l0 k x19 x20 (wrap64 (x21 + 1)) x267000 x267001 x267002 x267003 x267004 x267005 x267006 x268000 x268001 x268002 x270000 x270001 x270002)) else (none)) else (none)) else (if x267002 = 0 then (none) else (if (Int.tmod x268001 x267002) = 0 then (impl_Emitter_step.l1 k 0 x267000 x267001 x267002 x267003 x267004 x267005 x267006 x270000 x270001 x270002) else ((impl_GoodCloud.f k x270000 x270001 x270002).bind fun t287 => (some (x270000, x270001, x270002, t287)))))
def impl_Emitter_step.l1 : Nat → Int → Int → Int → Int → Int → Int → Int → Int → Int → Int → List (S48) → Option (Int × Int × (List (S48)) × Bool)
 | 0, _, _, _, _, _, _, _, _, _, _, _ => none
 | k + 1, x9, x267000, x267001, x267002, x267003, x267004, x267005, x267006, x270000, x270001, x270002 => if x9 < x267003 then (if (x270002.length : Int) < 60 then ((impl_Emitter_born.f k x267000 x267001 x267002 x267003 x267004 x267005 x267006 x270000).bind fun bt275 => (if x270002.length < 3518437208883 then (impl_Emitter_step.l1 k (wrap64 (x9 + 1)) x267000 x267001 x267002 x267003 x267004 x267005 x267006 bt275.2.2.2.2.2 x270001 (x270002 ++ [(⟨bt275.1, bt275.2.1, bt275.2.2.1, bt275.2.2.2.1, bt275.2.2.2.2.1⟩ : S48)])) else (none))) else ((impl_GoodCloud.f k x270000 x270001 x270002).bind fun t285 => (some (x270000, x270001, x270002, t285)))) else ((impl_GoodCloud.f k x270000 x270001 x270002).bind fun t286 => (some (x270000, x270001, x270002, t286)))
end
def impl_Emitter_step.f (k : Nat) (a0_0 : Int) (a0_1 : Int) (a0_2 : Int) (a0_3 : Int) (a0_4 : Int) (a0_5 : Int) (a0_6 : Int) (a1_0 : Int) (a1_1 : Int) (l1_2 : List (S48)) : Option (Int × Int × (List (S48)) × Bool) := impl_Emitter_step.l0 k l1_2 (l1_2.length : Int) 0 a0_0 a0_1 a0_2 a0_3 a0_4 a0_5 a0_6 a1_0 a1_1 l1_2 a1_0 (wrap64 (a1_1 + 1)) ([] : List (S48))
theorem impl_Emitter_step.mono_l : ∀ k, (∀ y0 y1 y2 y3 y4 y5 y6 y7 y8 y9 y10 y11 y12 y13 y14 y15, LeO (impl_Emitter_step.l0 k y0 y1 y2 y3 y4 y5 y6 y7 y8 y9 y10 y11 y12 y13 y14 y15) (impl_Emitter_step.l0 (k + 1) y0 y1 y2 y3 y4 y5 y6 y7 y8 y9 y10 y11 y12 y13 y14 y15)) ∧ (∀ y0 y1 y2 y3 y4 y5 y6 y7 y8 y9 y10, LeO (impl_Emitter_step.l1 k y0 y1 y2 y3 y4 y5 y6 y7 y8 y9 y10) (impl_Emitter_step.l1 (k + 1) y0 y1 y2 y3 y4 y5 y6 y7 y8 y9 y10))
 | 0 => ⟨fun _ _ _ _ _ _ _ _ _ _ _ _ _ _ _ _ r h => by simp [impl_Emitter_step.l0] at h, fun _ _ _ _ _ _ _ _ _ _ _ r h => by simp [impl_Emitter_step.l1] at h⟩
 | k + 1 => by
  obtain ⟨ih0, ih1⟩ := impl_Emitter_step.mono_l k
  refine ⟨?_, ?_⟩
  ·intro y0 y1 y2 y3 y4 y5 y6 y7 y8 y9 y10 y11 y12 y13 y14 y15
   unfold impl_Emitter_step.l0
   repeat' first
   | (with_reducible exact ih0 _ _ _ _ _ _ _ _ _ _ _ _ _ _ _ _)
   | (with_reducible exact ih1 _ _ _ _ _ _ _ _ _ _ _)
   | (with_reducible exact impl_Emitter_born.mono _ _ _ _ _ _ _ _ _)
   | (with_reducible exact impl_GoodCloud.mono _ _ _ _)
   | (with_reducible exact LeO.refl _)
   | (with_reducible exact LeO.none _)
   | (with_reducible refine LeO.ite ?_ ?_)
   | (with_reducible refine LeO.bind ?_ (fun _ => ?_))
   | exact ih0 _ _ _ _ _ _ _ _ _ _ _ _ _ _ _ _
   | exact ih1 _ _ _ _ _ _ _ _ _ _ _
   | exact impl_Emitter_born.mono _ _ _ _ _ _ _ _ _
   | exact impl_GoodCloud.mono _ _ _ _
   | exact LeO.none _
   | refine LeO.ite ?_ ?_
   | refine LeO.bind ?_ (fun _ => ?_)
  ·intro y0 y1 y2 y3 y4 y5 y6 y7 y8 y9 y10
   unfold impl_Emitter_step.l1
   repeat' first
   | (with_reducible exact ih0 _ _ _ _ _ _ _ _ _ _ _ _ _ _ _ _)
   | (with_reducible exact ih1 _ _ _ _ _ _ _ _ _ _ _)
   | (with_reducible exact impl_Emitter_born.mono _ _ _ _ _ _ _ _ _)
   | (with_reducible exact impl_GoodCloud.mono _ _ _ _)
   | (with_reducible exact LeO.refl _)
   | (with_reducible exact LeO.none _)
   | (with_reducible refine LeO.ite ?_ ?_)
   | (with_reducible refine LeO.bind ?_ (fun _ => ?_))
   | exact ih0 _ _ _ _ _ _ _ _ _ _ _ _ _ _ _ _
   | exact ih1 _ _ _ _ _ _ _ _ _ _ _
   | exact impl_Emitter_born.mono _ _ _ _ _ _ _ _ _
   | exact impl_GoodCloud.mono _ _ _ _
   | exact LeO.none _
   | refine LeO.ite ?_ ?_
   | refine LeO.bind ?_ (fun _ => ?_)
theorem impl_Emitter_step.mono : ∀ a0 a1 a2 a3 a4 a5 a6 a7 a8 a9 k, LeO (impl_Emitter_step.f k a0 a1 a2 a3 a4 a5 a6 a7 a8 a9) (impl_Emitter_step.f (k + 1) a0 a1 a2 a3 a4 a5 a6 a7 a8 a9) := by
 intro a0 a1 a2 a3 a4 a5 a6 a7 a8 a9 k
 obtain ⟨ih0, ih1⟩ := impl_Emitter_step.mono_l k
 unfold impl_Emitter_step.f
 repeat' first
   | (with_reducible exact ih0 _ _ _ _ _ _ _ _ _ _ _ _ _ _ _ _)
   | (with_reducible exact ih1 _ _ _ _ _ _ _ _ _ _ _)
   | (with_reducible exact impl_Emitter_born.mono _ _ _ _ _ _ _ _ _)
   | (with_reducible exact impl_GoodCloud.mono _ _ _ _)
   | (with_reducible exact LeO.refl _)
   | (with_reducible exact LeO.none _)
   | (with_reducible refine LeO.ite ?_ ?_)
   | (with_reducible refine LeO.bind ?_ (fun _ => ?_))
   | exact ih0 _ _ _ _ _ _ _ _ _ _ _ _ _ _ _ _
   | exact ih1 _ _ _ _ _ _ _ _ _ _ _
   | exact impl_Emitter_born.mono _ _ _ _ _ _ _ _ _
   | exact impl_GoodCloud.mono _ _ _ _
   | exact LeO.none _
   | refine LeO.ite ?_ ?_
   | refine LeO.bind ?_ (fun _ => ?_)
set_option maxHeartbeats 8000000 in
set_option maxRecDepth 100000 in
theorem impl_Emitter_step.calls (k : Nat) (a0_0 : Int) (a0_1 : Int) (a0_2 : Int) (a0_3 : Int) (a0_4 : Int) (a0_5 : Int) (a0_6 : Int) (a1_0 : Int) (a1_1 : Int) (A1_2 : Option Addr) (c1_2 : Nat) (l1_2 : List (S48)) (r1 : Int) (r2 : Int) (r3 : List (S48)) (r4 : Bool) (w : World) (hr1_2 : Kd.C k48 w A1_2 l1_2.length l1_2) (hc1_2 : l1_2.length ≤ c1_2) (h : impl_Emitter_step.f k a0_0 a0_1 a0_2 a0_3 a0_4 a0_5 a0_6 a1_0 a1_1 l1_2 = some (r1, r2, r3, r4)) :
  Calls Try.prog 34 #[.agg #[.int .i64 a0_0, .int .i64 a0_1, .int .i64 a0_2, .int .i64 a0_3, .int .i64 a0_4, .int .i64 a0_5, .int .i64 a0_6], .agg #[.int .i64 a1_0, .int .i64 a1_1, .slice A1_2 l1_2.length c1_2]] w fun e w' => ∃ v2_ : Value, e = .returned (.tuple #[.agg #[.int .i64 r1, .int .i64 r2, v2_], .bool r4]) ∧ Kd.R k48 48 w' w.heap.size (fun _ => True) v2_ r3 ∧ Below w.heap.size w w' := by
 have hu26 := Try.underlying26
 have hu35 := Try.underlying35
 have hu48 := Try.underlying48
 have HR1_2 := Aside0.mk hr1_2
 have HC1_2 := Aside0.mk hc1_2
 clear hr1_2 hc1_2
 have HB := Aside0.mk (Below.refl w.heap.size w)
 have H : (impl_Emitter_step.l0 k l1_2 (l1_2.length : Int) 0 a0_0 a0_1 a0_2 a0_3 a0_4 a0_5 a0_6 a1_0 a1_1 l1_2 a1_0 (wrap64 (a1_1 + 1)) ([] : List (S48))) = some (r1, r2, r3, r4) := h
 clear h
 have H' := Aside0.mk H
 clear H
 go_enter Try.func34, Try.ntmps34
 go_wp2_with (first | ((with_reducible refine gate_dst (N := 2) rfl ?_); (try (refine gate_guard (by rfl) ?_; dsimp only)); refine box_event rfl (N := 2) rfl (cs := #[.int .i64 a0_0, .int .i64 a0_1, .int .i64 a0_2, .int .i64 a0_3, .int .i64 a0_4, .int .i64 a0_5, .int .i64 a0_6]) (t := 26) sE ?_; intro gb266 hg w3 hbox hb; have BK266 := Aside0.mk hbox; have GW266 := gS w hg (lU); have GE266 := gS w hg (lU); replace HB := bH (lU) hb; clear hb hbox hg) | ((with_reducible refine gate_dst (N := 3) rfl ?_); (try (refine gate_guard (by rfl) ?_; dsimp only)); refine box_event rfl (N := 3) rfl (cs := #[.int .i64 a1_0, .int .i64 a1_1, .slice A1_2 l1_2.length c1_2]) (t := 35) sE ?_; intro gb267 hg w4 hbox hb; have BK267 := Aside0.mk hbox; have GW267 := gS w hg (lV1 GE266); have GE267 := gS w hg (lV1 GE266); replace HB := bH (lV1 GE266) hb; have NB266_267 := nL hg (bV BK266); have NB267_266 := nG hg (bV BK266); replace BK266 := bB (bV BK266) hb; clear hb hbox hg) | ((with_reducible refine gate_dst (N := 4) rfl ?_); (try (refine gate_guard (by rfl) ?_; dsimp only)); refine box_event rfl (N := 4) rfl (cs := #[.int .i64 0, .int .i64 0, .slice none 0 0]) (t := 35) sE ?_; intro gb268 hg w5 hbox hb; have BK268 := Aside0.mk hbox; have GW268 := gS w hg (lV2 GE266 GE267); have GE268 := gS w hg (lV2 GE266 GE267); replace HB := bH (lV2 GE266 GE267) hb; have NB266_268 := nL hg (bV BK266); have NB268_266 := nG hg (bV BK266); replace BK266 := bB (bV BK266) hb; have NB267_268 := nL hg (bV BK267); have NB268_267 := nG hg (bV BK267); replace BK267 := bB (bV BK267) hb; clear hb hbox hg; have hnb6 := NB267_266.out; have hnc6 := NB266_267.out; have hnb7 := NB267_268.out; have hnc7 := NB268_267.out; have hcz8_0 := cz BK267 0 (.int .i64 a1_0); have hcz8_1 := cz BK267 1 (.int .i64 a1_1); have hcz8_2 := cz BK267 2 (.slice A1_2 l1_2.length c1_2); have hfz8_0 := fz BK267 0; have hfz8_1 := fz BK267 1; have hfz8_2 := fz BK267 2) | ((with_reducible refine gate_dst (N := 6) rfl ?_); (try (refine gate_guard (by rfl) ?_; dsimp only)); refine box_event rfl (N := 6) rfl (cs := #[.int .i64 0, .int .i64 0, .slice none 0 0]) (t := 35) sE ?_; intro gb269 hg w9 hbox hb; have BK269 := Aside0.mk hbox; have GW269 := gS w hg (lV3 GE266 GE267 GE268); have GE269 := gS w hg (lV3 GE266 GE267 GE268); replace HB := bH (lV3 GE266 GE267 GE268) hb; have NB266_269 := nL hg (bV BK266); have NB269_266 := nG hg (bV BK266); replace BK266 := bB (bV BK266) hb; have NB267_269 := nL hg (bV BK267); have NB269_267 := nG hg (bV BK267); replace BK267 := bB (bV BK267) hb; have NB268_269 := nL hg (bV BK268); have NB269_268 := nG hg (bV BK268); replace BK268 := bB (bV BK268) hb; clear hb hbox hg; have hnb10 := NB269_266.out; have hnc10 := NB266_269.out; have hnb11 := NB269_267.out; have hnc11 := NB267_269.out; have hnb12 := NB269_268.out; have hnc12 := NB268_269.out; have hcz13_0 := cz BK269 0 (.int .i64 0); have hcz13_1 := cz BK269 1 (.int .i64 0); have hcz13_2 := cz BK269 2 (.slice none 0 0); have hfz13_0 := fz BK269 0; have hfz13_1 := fz BK269 1; have hfz13_2 := fz BK269 2) | ((with_reducible refine gate_store (t := 35) (p := 6) rfl ?_); refine store_event (t := 35) (p := 6) (v := ?vo_w14) (w1 := (((w9.setCell ⟨gb269, 0, none⟩ (.int .i64 a1_0)).setCell ⟨gb269, 1, none⟩ (.int .i64 (wrap64 (a1_1 + 1)))).setCell ⟨gb269, 2, none⟩ (.slice none 0 0))) ?hg ?ho ?hn ?hr ?_; (case ho => rfl); (case hg => rfl); (case hn => rfl); (case hr => first | (go_simp; done) | (go_simp; rfl) | (have hq0_ := (blk_cell BK269.out 0).trans (show _ = some _ from rfl); have hf0_ := blk_frozen BK269.out 0; have hq1_ := (blk_cell BK269.out 1).trans (show _ = some _ from rfl); have hf1_ := blk_frozen BK269.out 1; have hq2_ := (blk_cell BK269.out 2).trans (show _ = some _ from rfl); have hf2_ := blk_frozen BK269.out 2; first | (go_simp; done) | (go_simp; rfl))); intro w14 hw; replace BK266 : Aside0 (w14.heap[gb266]? = some (.cells #[.int .i64 a0_0, .int .i64 a0_1, .int .i64 a0_2, .int .i64 a0_3, .int .i64 a0_4, .int .i64 a0_5, .int .i64 a0_6] 26 (0, 0))) := ⟨(by rw [hw]; exact (bG NB266_269 BK266))⟩; replace BK267 : Aside0 (w14.heap[gb267]? = some (.cells #[.int .i64 a1_0, .int .i64 a1_1, .slice A1_2 l1_2.length c1_2] 35 (0, 0))) := ⟨(by rw [hw]; exact (bG NB267_269 BK267))⟩; replace BK268 : Aside0 (w14.heap[gb268]? = some (.cells #[.int .i64 0, .int .i64 0, .slice none 0 0] 35 (0, 0))) := ⟨(by rw [hw]; exact (bG NB268_269 BK268))⟩; replace BK269 : Aside0 (w14.heap[gb269]? = some (.cells #[.int .i64 a1_0, .int .i64 (wrap64 (a1_1 + 1)), .slice none 0 0] 35 (0, 0))) := ⟨(by rw [hw]; exact (by refine bU ?_; refine blk_put (cs := #[.int .i64 a1_0, .int .i64 (wrap64 (a1_1 + 1)), .slice none 0 0]) ?_ 2 _ rfl; refine bU ?_; refine blk_put (cs := #[.int .i64 a1_0, .int .i64 0, .slice none 0 0]) ?_ 1 _ rfl; refine bU ?_; refine blk_put (cs := #[.int .i64 0, .int .i64 0, .slice none 0 0]) ?_ 0 _ rfl; refine bU ?_; exact BK269.out))⟩; replace HB : Aside0 (Below w.heap.size w w14) := ⟨(by rw [hw]; exact (lV4 GE266 GE267 GE268 GE269))⟩; clear hw; have hcz15_0 := cz BK267 0 (.int .i64 a1_0); have hcz15_1 := cz BK267 1 (.int .i64 a1_1); have hcz15_2 := cz BK267 2 (.slice A1_2 l1_2.length c1_2); have hfz15_0 := fz BK267 0; have hfz15_1 := fz BK267 1; have hfz15_2 := fz BK267 2))
 (try simp only [Act.put, List.setIfInBounds_toArray, List.set_cons_zero, List.set_cons_succ])
 go_loopg [21] k (fun kq v21 w' => ∃ (x21_1 : Int) (x270002_1 : List (S48)) (u270002 : Value), v21 = .int .i64 x21_1 ∧ Aside0 (impl_Emitter_step.l0 kq l1_2 (l1_2.length : Int) x21_1 a0_0 a0_1 a0_2 a0_3 a0_4 a0_5 a0_6 a1_0 a1_1 l1_2 a1_0 (wrap64 (a1_1 + 1)) x270002_1 = some (r1, r2, r3, r4)) ∧ Aside0 (kq ≤ k) ∧ Aside0 (Kd.R k48 48 w' w.heap.size (fun _ => True) u270002 x270002_1) ∧ Aside0 (w'.heap[gb266]? = some (.cells #[.int .i64 a0_0, .int .i64 a0_1, .int .i64 a0_2, .int .i64 a0_3, .int .i64 a0_4, .int .i64 a0_5, .int .i64 a0_6] 26 (0, 0))) ∧ Aside0 (w'.heap[gb267]? = some (.cells #[.int .i64 a1_0, .int .i64 a1_1, (.slice A1_2 l1_2.length c1_2)] 35 (0, 0))) ∧ Aside0 (w'.heap[gb268]? = some (.cells #[.int .i64 0, .int .i64 0, (.slice none 0 0)] 35 (0, 0))) ∧ Aside0 (w'.heap[gb269]? = some (.cells #[.int .i64 a1_0, .int .i64 (wrap64 (a1_1 + 1)), u270002] 35 (0, 0))) ∧ Aside0 (Below w.heap.size w w'))
 case atStart => exact ⟨(0), (([] : List (S48))), (.slice none 0 0), tE, H', ⟨Nat.le_refl _⟩, ⟨by first | exact Kd.R_nil _ _ _ _ _ | exact Kd.N_nil _ _ _ _ _ | exact Kd.V_nil _ _ _ _ _ | exact Kd.Q_nil _ _ _ _ _ | exact Kd.S_nil _ _ _ _ _⟩, ⟨by refine bU ?_; exact BK266.out⟩, ⟨by refine bU ?_; exact BK267.out⟩, ⟨by refine bU ?_; exact BK268.out⟩, ⟨by refine bU ?_; exact BK269.out⟩, ⟨by repeat (first | (with_reducible first | exact HB.out | apply below_alloc | apply pw_below_drewN | apply below_drew1 | refine below_set ?_ GE266.out | refine below_set ?_ GE267.out | refine below_set ?_ GE268.out | refine below_set ?_ GE269.out) | exact HB.out)⟩⟩
 case round =>
  clear H'
  try clear c1
  try clear q1
  try clear p2
  try clear q2
  try clear hf2
  try clear c3
  try clear c6
  try clear p6
  try clear c7
  try clear c10
  try clear c11
  try clear c12
  try clear hcz13_0
  try clear hcz13_1
  try clear hcz13_2
  try clear hcz15_0
  try clear hcz15_1
  try clear hcz15_2
  try clear hcz8_0
  try clear hcz8_1
  try clear hcz8_2
  try clear hfz13_0
  try clear hfz13_1
  try clear hfz13_2
  try clear hfz15_0
  try clear hfz15_1
  try clear hfz15_2
  try clear hfz8_0
  try clear hfz8_1
  try clear hfz8_2
  obtain ⟨x21_1, x270002_1, u270002, rfl, HA, HK1, HO_270002, BK266, BK267, BK268, BK269, HB⟩ := hrel
  cases gk with
  | zero => exact absurd HA.out (by simp [impl_Emitter_step.l0])
  | succ k1 =>
   have H := HA.out
   clear HA
   simp only [impl_Emitter_step.l0] at H
   by_cases c16 : x21_1 < (l1_2.length : Int)
   ·rw [if_pos c16] at H
    have c16b0 : decide (x21_1 < (l1_2.length : Int)) = true := decide_eq_true c16
    clear c16
    by_cases c17 : 0 ≤ x21_1
    ·rw [if_pos c17] at H
     have c17b0 : decide (0 ≤ x21_1) = true := decide_eq_true c17
     clear c17
     by_cases c18 : x21_1 < (l1_2.length : Int)
     ·rw [if_pos c18] at H
      have c18b0 : decide (x21_1 < (l1_2.length : Int)) = true := decide_eq_true c18
      clear c18
      by_cases c19 : (wrap64 (((rd_T48 l1_2 x21_1).f4) - 1)) > 0
      ·rw [if_pos c19] at H
       have c19b0 : decide (0 < (wrap64 (((rd_T48 l1_2 x21_1).f4) - 1))) = true := decide_eq_true c19
       clear c19
       by_cases c20 : x270002_1.length < 3518437208883
       ·rw [if_pos c20] at H
        have LMc20 := Aside0.mk c20
        clear c20
        obtain ⟨y272, hy272⟩ : ∃ y_ : List (S48), y_ = (x270002_1 ++ [(⟨wrap64 (((rd_T48 l1_2 x21_1).f0) + ((rd_T48 l1_2 x21_1).f2)), wrap64 (((rd_T48 l1_2 x21_1).f1) + ((rd_T48 l1_2 x21_1).f3)), (rd_T48 l1_2 x21_1).f2, wrap64 (((rd_T48 l1_2 x21_1).f3) - a0_6), wrap64 (((rd_T48 l1_2 x21_1).f4) - 1)⟩ : S48)]) := ⟨_, rfl⟩
        replace H : (impl_Emitter_step.l0 k1 l1_2 (l1_2.length : Int) (wrap64 (x21_1 + 1)) a0_0 a0_1 a0_2 a0_3 a0_4 a0_5 a0_6 a1_0 a1_1 l1_2 a1_0 (wrap64 (a1_1 + 1)) y272) = some (r1, r2, r3, r4) := by first | (rw [hy272]; with_reducible exact H) | (have H2_ := (Option.bind_some _ _).symm.trans H; rw [hy272]; with_reducible exact H2_) | (have H2_ := (Option.bind_some _ _).symm.trans H; with_reducible exact H2_) | with_reducible exact H | (rw [hy272]; exact H) | exact H
        have Ny272 := Aside0.mk hy272
        clear hy272
        have H' := Aside0.mk H
        clear H
        have p270 : 0 ≤ (x21_1 : Int) := of_decide_eq_true hE
        have q270 : x21_1 < (l1_2.length : Int) := of_decide_eq_true hE
        obtain ⟨ad270, e270, hx270_0, hx270_1, hx270_2, hx270_3, hx270_4⟩ := at_T48 HR1_2.out x21_1 p270 q270
        cases e270
        replace hx270_0 := (HB.out.cell (World.block_lt_of_cell? w _ hx270_0)).trans hx270_0
        replace hx270_1 := (HB.out.cell (World.block_lt_of_cell? w _ hx270_1)).trans hx270_1
        replace hx270_2 := (HB.out.cell (World.block_lt_of_cell? w _ hx270_2)).trans hx270_2
        replace hx270_3 := (HB.out.cell (World.block_lt_of_cell? w _ hx270_3)).trans hx270_3
        replace hx270_4 := (HB.out.cell (World.block_lt_of_cell? w _ hx270_4)).trans hx270_4
        replace p270 := eq_true p270
        replace q270 := eq_true q270
        try go_wp2_with (first | ((with_reducible refine gate_dst (N := 8) rfl ?_); (try (refine gate_guard (by rfl) ?_; dsimp only)); refine box_event rfl (N := 8) rfl (cs := #[.int .i64 0, .int .i64 0, .int .i64 0, .int .i64 0, .int .i64 0]) (t := 48) sE ?_; intro gb271 hg w21 hbox hb; replace HO_270002 := Aside0.mk (Kd.R_below (Kd.R_elderB (rU HO_270002.out) gb271 (Nat.le_of_eq hg.symm)) hb); have BK271 := Aside0.mk hbox; have GW271 := gS w hg (lV4 GE266 GE267 GE268 GE269); have GE271 := gS w hg (lV4 GE266 GE267 GE268 GE269); replace HB := bH (lV4 GE266 GE267 GE268 GE269) hb; have NB266_271 := nL hg (bV BK266); have NB271_266 := nG hg (bV BK266); replace BK266 := bB (bV BK266) hb; have NB267_271 := nL hg (bV BK267); have NB271_267 := nG hg (bV BK267); replace BK267 := bB (bV BK267) hb; have NB268_271 := nL hg (bV BK268); have NB271_268 := nG hg (bV BK268); replace BK268 := bB (bV BK268) hb; have NB269_271 := nL hg (bV BK269); have NB271_269 := nG hg (bV BK269); replace BK269 := bB (bV BK269) hb; clear hb hbox hg; have hnb22 := NB271_266.out; have hnc22 := NB266_271.out; have hnb23 := NB271_267.out; have hnc23 := NB267_271.out; have hnb24 := NB271_268.out; have hnc24 := NB268_271.out; have hnb25 := NB271_269.out; have hnc25 := NB269_271.out; have hcz26_0 := cz BK271 0 (.int .i64 0); have hcz26_1 := cz BK271 1 (.int .i64 0); have hcz26_2 := cz BK271 2 (.int .i64 0); have hcz26_3 := cz BK271 3 (.int .i64 0); have hcz26_4 := cz BK271 4 (.int .i64 0); have hfz26_0 := fz BK271 0; have hfz26_1 := fz BK271 1; have hfz26_2 := fz BK271 2; have hfz26_3 := fz BK271 3; have hfz26_4 := fz BK271 4) | ((with_reducible refine gate_store (t := 48) (p := 8) rfl ?_); refine store_event (t := 48) (p := 8) (v := ?vo_w27) (w1 := (((((w21.setCell ⟨gb271, 0, none⟩ (.int .i64 ((rd_T48 l1_2 x21_1).f0))).setCell ⟨gb271, 1, none⟩ (.int .i64 ((rd_T48 l1_2 x21_1).f1))).setCell ⟨gb271, 2, none⟩ (.int .i64 ((rd_T48 l1_2 x21_1).f2))).setCell ⟨gb271, 3, none⟩ (.int .i64 ((rd_T48 l1_2 x21_1).f3))).setCell ⟨gb271, 4, none⟩ (.int .i64 ((rd_T48 l1_2 x21_1).f4)))) ?hg ?ho ?hn ?hr ?_; (case ho => rfl); (case hg => rfl); (case hn => rfl); (case hr => first | (go_simp; done) | (go_simp; rfl) | (have hq0_ := (blk_cell BK271.out 0).trans (show _ = some _ from rfl); have hf0_ := blk_frozen BK271.out 0; have hq1_ := (blk_cell BK271.out 1).trans (show _ = some _ from rfl); have hf1_ := blk_frozen BK271.out 1; have hq2_ := (blk_cell BK271.out 2).trans (show _ = some _ from rfl); have hf2_ := blk_frozen BK271.out 2; have hq3_ := (blk_cell BK271.out 3).trans (show _ = some _ from rfl); have hf3_ := blk_frozen BK271.out 3; have hq4_ := (blk_cell BK271.out 4).trans (show _ = some _ from rfl); have hf4_ := blk_frozen BK271.out 4; first | (go_simp; done) | (go_simp; rfl))); intro w27 hw; replace HO_270002 : Aside0 (Kd.R k48 48 w27 w.heap.size (fun k_ => k_ ≠ gb271) u270002 x270002_1) := ⟨(by rw [hw]; exact (by (with_reducible repeat (first | apply Kd.R_alloc | apply Kd.R_drewN | apply Kd.R_drew)); exact Kd.R_mono (Kd.R_far (p := ⟨gb271, 4, none⟩) (Kd.R_far (p := ⟨gb271, 3, none⟩) (Kd.R_far (p := ⟨gb271, 2, none⟩) (Kd.R_far (p := ⟨gb271, 1, none⟩) (Kd.R_far (p := ⟨gb271, 0, none⟩) (Kd.R_mono HO_270002.out (fun k_ hk => (⟨hk, hk.2⟩ : _ ∧ k_ ≠ gb271))) (fun _ hk => hk.2) (.int .i64 ((rd_T48 l1_2 x21_1).f0))) (fun _ hk => hk.2) (.int .i64 ((rd_T48 l1_2 x21_1).f1))) (fun _ hk => hk.2) (.int .i64 ((rd_T48 l1_2 x21_1).f2))) (fun _ hk => hk.2) (.int .i64 ((rd_T48 l1_2 x21_1).f3))) (fun _ hk => hk.2) (.int .i64 ((rd_T48 l1_2 x21_1).f4))) (fun _ hk => hk.1.2)))⟩; replace BK266 : Aside0 (w27.heap[gb266]? = some (.cells #[.int .i64 a0_0, .int .i64 a0_1, .int .i64 a0_2, .int .i64 a0_3, .int .i64 a0_4, .int .i64 a0_5, .int .i64 a0_6] 26 (0, 0))) := ⟨(by rw [hw]; exact (bG NB266_271 BK266))⟩; replace BK267 : Aside0 (w27.heap[gb267]? = some (.cells #[.int .i64 a1_0, .int .i64 a1_1, .slice (some ad270) l1_2.length c1_2] 35 (0, 0))) := ⟨(by rw [hw]; exact (bG NB267_271 BK267))⟩; replace BK268 : Aside0 (w27.heap[gb268]? = some (.cells #[.int .i64 0, .int .i64 0, .slice none 0 0] 35 (0, 0))) := ⟨(by rw [hw]; exact (bG NB268_271 BK268))⟩; replace BK269 : Aside0 (w27.heap[gb269]? = some (.cells #[.int .i64 a1_0, .int .i64 (wrap64 (a1_1 + 1)), u270002] 35 (0, 0))) := ⟨(by rw [hw]; exact (bG NB269_271 BK269))⟩; replace BK271 : Aside0 (w27.heap[gb271]? = some (.cells #[.int .i64 ((rd_T48 l1_2 x21_1).f0), .int .i64 ((rd_T48 l1_2 x21_1).f1), .int .i64 ((rd_T48 l1_2 x21_1).f2), .int .i64 ((rd_T48 l1_2 x21_1).f3), .int .i64 ((rd_T48 l1_2 x21_1).f4)] 48 (0, 0))) := ⟨(by rw [hw]; exact (by refine bU ?_; refine blk_put (cs := #[.int .i64 ((rd_T48 l1_2 x21_1).f0), .int .i64 ((rd_T48 l1_2 x21_1).f1), .int .i64 ((rd_T48 l1_2 x21_1).f2), .int .i64 ((rd_T48 l1_2 x21_1).f3), .int .i64 0]) ?_ 4 _ rfl; refine bU ?_; refine blk_put (cs := #[.int .i64 ((rd_T48 l1_2 x21_1).f0), .int .i64 ((rd_T48 l1_2 x21_1).f1), .int .i64 ((rd_T48 l1_2 x21_1).f2), .int .i64 0, .int .i64 0]) ?_ 3 _ rfl; refine bU ?_; refine blk_put (cs := #[.int .i64 ((rd_T48 l1_2 x21_1).f0), .int .i64 ((rd_T48 l1_2 x21_1).f1), .int .i64 0, .int .i64 0, .int .i64 0]) ?_ 2 _ rfl; refine bU ?_; refine blk_put (cs := #[.int .i64 ((rd_T48 l1_2 x21_1).f0), .int .i64 0, .int .i64 0, .int .i64 0, .int .i64 0]) ?_ 1 _ rfl; refine bU ?_; refine blk_put (cs := #[.int .i64 0, .int .i64 0, .int .i64 0, .int .i64 0, .int .i64 0]) ?_ 0 _ rfl; refine bU ?_; exact BK271.out))⟩; replace HB : Aside0 (Below w.heap.size w w27) := ⟨(by rw [hw]; exact (lV5 GE266 GE267 GE268 GE269 GE271))⟩; clear hw; have hcz28_0 := cz BK271 0 (.int .i64 ((rd_T48 l1_2 x21_1).f0)); have hcz28_1 := cz BK271 1 (.int .i64 ((rd_T48 l1_2 x21_1).f1)); have hcz28_2 := cz BK271 2 (.int .i64 ((rd_T48 l1_2 x21_1).f2)); have hcz28_3 := cz BK271 3 (.int .i64 ((rd_T48 l1_2 x21_1).f3)); have hcz28_4 := cz BK271 4 (.int .i64 ((rd_T48 l1_2 x21_1).f4)); have hfz28_0 := fz BK271 0; have hfz28_1 := fz BK271 1; have hfz28_2 := fz BK271 2; have hfz28_3 := fz BK271 3; have hfz28_4 := fz BK271 4) | ((with_reducible refine gate_store (t := 3) (p := 28) rfl ?_); refine store_event (t := 3) (p := 28) (v := ?vo_w29) (w1 := (w27.setCell ⟨gb271, 4, none⟩ (.int .i64 (wrap64 (((rd_T48 l1_2 x21_1).f4) - 1))))) ?hg ?ho ?hn ?hr ?_; (case ho => rfl); (case hg => rfl); (case hn => rfl); (case hr => first | (go_simp; done) | (go_simp; rfl) | (have hq0_ := (blk_cell BK271.out 4).trans (show _ = some _ from rfl); have hf0_ := blk_frozen BK271.out 4; first | (go_simp; done) | (go_simp; rfl))); intro w29 hw; replace HO_270002 : Aside0 (Kd.R k48 48 w29 w.heap.size (fun k_ => k_ ≠ gb271) u270002 x270002_1) := ⟨(by rw [hw]; exact (by (with_reducible repeat (first | apply Kd.R_alloc | apply Kd.R_drewN | apply Kd.R_drew)); exact Kd.R_mono (Kd.R_far (p := ⟨gb271, 4, none⟩) (Kd.R_mono HO_270002.out (fun k_ hk => (⟨hk, hk⟩ : _ ∧ k_ ≠ gb271))) (fun _ hk => hk.2) (.int .i64 (wrap64 (((rd_T48 l1_2 x21_1).f4) - 1)))) (fun _ hk => hk.1)))⟩; replace BK266 : Aside0 (w29.heap[gb266]? = some (.cells #[.int .i64 a0_0, .int .i64 a0_1, .int .i64 a0_2, .int .i64 a0_3, .int .i64 a0_4, .int .i64 a0_5, .int .i64 a0_6] 26 (0, 0))) := ⟨(by rw [hw]; exact (bG NB266_271 BK266))⟩; replace BK267 : Aside0 (w29.heap[gb267]? = some (.cells #[.int .i64 a1_0, .int .i64 a1_1, .slice (some ad270) l1_2.length c1_2] 35 (0, 0))) := ⟨(by rw [hw]; exact (bG NB267_271 BK267))⟩; replace BK268 : Aside0 (w29.heap[gb268]? = some (.cells #[.int .i64 0, .int .i64 0, .slice none 0 0] 35 (0, 0))) := ⟨(by rw [hw]; exact (bG NB268_271 BK268))⟩; replace BK269 : Aside0 (w29.heap[gb269]? = some (.cells #[.int .i64 a1_0, .int .i64 (wrap64 (a1_1 + 1)), u270002] 35 (0, 0))) := ⟨(by rw [hw]; exact (bG NB269_271 BK269))⟩; replace BK271 : Aside0 (w29.heap[gb271]? = some (.cells #[.int .i64 ((rd_T48 l1_2 x21_1).f0), .int .i64 ((rd_T48 l1_2 x21_1).f1), .int .i64 ((rd_T48 l1_2 x21_1).f2), .int .i64 ((rd_T48 l1_2 x21_1).f3), .int .i64 (wrap64 (((rd_T48 l1_2 x21_1).f4) - 1))] 48 (0, 0))) := ⟨(by rw [hw]; exact (by refine bU ?_; refine blk_put (cs := #[.int .i64 ((rd_T48 l1_2 x21_1).f0), .int .i64 ((rd_T48 l1_2 x21_1).f1), .int .i64 ((rd_T48 l1_2 x21_1).f2), .int .i64 ((rd_T48 l1_2 x21_1).f3), .int .i64 ((rd_T48 l1_2 x21_1).f4)]) ?_ 4 _ rfl; refine bU ?_; exact BK271.out))⟩; replace HB : Aside0 (Below w.heap.size w w29) := ⟨(by rw [hw]; exact (lV5 GE266 GE267 GE268 GE269 GE271))⟩; clear hw; have hcz30_0 := cz BK271 0 (.int .i64 ((rd_T48 l1_2 x21_1).f0)); have hcz30_1 := cz BK271 1 (.int .i64 ((rd_T48 l1_2 x21_1).f1)); have hcz30_2 := cz BK271 2 (.int .i64 ((rd_T48 l1_2 x21_1).f2)); have hcz30_3 := cz BK271 3 (.int .i64 ((rd_T48 l1_2 x21_1).f3)); have hcz30_4 := cz BK271 4 (.int .i64 (wrap64 (((rd_T48 l1_2 x21_1).f4) - 1))); have hfz30_0 := fz BK271 0; have hfz30_1 := fz BK271 1; have hfz30_2 := fz BK271 2; have hfz30_3 := fz BK271 3; have hfz30_4 := fz BK271 4))
        replace HO_270002 := Aside0.mk (Kd.R_drew HO_270002.out)
        replace BK266 := Aside0.mk (blk_drew BK266.out)
        replace BK267 := Aside0.mk (blk_drew BK267.out)
        replace BK268 := Aside0.mk (blk_drew BK268.out)
        replace BK269 := Aside0.mk (blk_drew BK269.out)
        replace BK271 := Aside0.mk (blk_drew BK271.out)
        replace HB := Aside0.mk (below_drew1 HB.out)
        refine start2_ (n := 21) (S := fun w' => w'.cell? ⟨gb271, 0, none⟩ = some (.int .i64 ((rd_T48 l1_2 x21_1).f0)) ∧ w'.cell? ⟨gb271, 1, none⟩ = some (.int .i64 ((rd_T48 l1_2 x21_1).f1)) ∧ w'.cell? ⟨gb271, 2, none⟩ = some (.int .i64 ((rd_T48 l1_2 x21_1).f2)) ∧ w'.cell? ⟨gb271, 3, none⟩ = some (.int .i64 ((rd_T48 l1_2 x21_1).f3)) ∧ w'.cell? ⟨gb271, 4, none⟩ = some (.int .i64 (wrap64 (((rd_T48 l1_2 x21_1).f4) - 1)))) (T := fun w' => w'.cell? ⟨gb266, 0, none⟩ = some (.int .i64 a0_0) ∧ w'.cell? ⟨gb266, 1, none⟩ = some (.int .i64 a0_1) ∧ w'.cell? ⟨gb266, 2, none⟩ = some (.int .i64 a0_2) ∧ w'.cell? ⟨gb266, 3, none⟩ = some (.int .i64 a0_3) ∧ w'.cell? ⟨gb266, 4, none⟩ = some (.int .i64 a0_4) ∧ w'.cell? ⟨gb266, 5, none⟩ = some (.int .i64 a0_5) ∧ w'.cell? ⟨gb266, 6, none⟩ = some (.int .i64 a0_6)) (ds := [16, 18, 20]) #[false, false, false, false, false, false, false, false, false, false, false, false, false, false, false, false, false, false, false, false, false] (by kernel_rfl) rfl rfl ⟨cz BK271 0 _, cz BK271 1 _, cz BK271 2 _, cz BK271 3 _, cz BK271 4 _⟩ ⟨cz BK266 0 _, cz BK266 1 _, cz BK266 2 _, cz BK266 3 _, cz BK266 4 _, cz BK266 5 _, cz BK266 6 _⟩ (fun hHeld => ?_)
        generalize w29.drew = w31 at HO_270002 BK266 BK267 BK268 BK269 BK271 HB hHeld ⊢
        have hT := hHeld.2
        refine pure2_ (i := 0) (N := some 32) (v := ?_) (a' := ?_) #[true, false, false, false, false, false, false, false, false, false, false, false, false, false, false, false, false, false, false, false, false] rfl rfl (by kernel_rfl) (fun _ _ _ h => h) (Or.inl ⟨by rfl, ?_⟩) ?_ ?_
        rotate_left
        ·intro w'
         go_simp
         with_reducible rfl
        rotate_left
        ·simp only [Act.put, List.setIfInBounds_toArray, List.set_cons_zero, List.set_cons_succ, i64_w, i32_w]
         rfl
        refine pure2_ (i := 2) (N := some 34) (v := ?_) (a' := ?_) #[true, false, true, false, false, false, false, false, false, false, false, false, false, false, false, false, false, false, false, false, false] rfl rfl (by kernel_rfl) (fun _ _ _ h => h) (Or.inl ⟨by rfl, ?_⟩) ?_ ?_
        rotate_left
        ·intro w'
         go_simp
         with_reducible rfl
        rotate_left
        ·simp only [Act.put, List.setIfInBounds_toArray, List.set_cons_zero, List.set_cons_succ, i64_w, i32_w]
         rfl
        refine pure2_ (i := 5) (N := some 37) (v := ?_) (a' := ?_) #[true, false, true, false, false, true, false, false, false, false, false, false, false, false, false, false, false, false, false, false, false] rfl rfl (by kernel_rfl) (fun _ _ _ h => h) (Or.inl ⟨by rfl, ?_⟩) ?_ ?_
        rotate_left
        ·intro w'
         go_simp
         with_reducible rfl
        rotate_left
        ·simp only [Act.put, List.setIfInBounds_toArray, List.set_cons_zero, List.set_cons_succ, i64_w, i32_w]
         rfl
        refine pure2_ (i := 7) (N := some 39) (v := ?_) (a' := ?_) #[true, false, true, false, false, true, false, true, false, false, false, false, false, false, false, false, false, false, false, false, false] rfl rfl (by kernel_rfl) (fun _ _ _ h => h) (Or.inl ⟨by rfl, ?_⟩) ?_ ?_
        rotate_left
        ·intro w'
         go_simp
         with_reducible rfl
        rotate_left
        ·simp only [Act.put, List.setIfInBounds_toArray, List.set_cons_zero, List.set_cons_succ, i64_w, i32_w]
         rfl
        refine pure2_ (i := 10) (N := some 42) (v := ?_) (a' := ?_) #[true, false, true, false, false, true, false, true, false, false, true, false, false, false, false, false, false, false, false, false, false] rfl rfl (by kernel_rfl) (fun _ _ _ h => h) (Or.inl ⟨by rfl, ?_⟩) ?_ ?_
        rotate_left
        ·intro w'
         go_simp
         with_reducible rfl
        rotate_left
        ·simp only [Act.put, List.setIfInBounds_toArray, List.set_cons_zero, List.set_cons_succ, i64_w, i32_w]
         rfl
        refine pure2_ (i := 12) (N := some 44) (v := ?_) (a' := ?_) #[true, false, true, false, false, true, false, true, false, false, true, false, true, false, false, false, false, false, false, false, false] rfl rfl (by kernel_rfl) (fun _ _ _ h => h) (Or.inl ⟨by rfl, ?_⟩) ?_ ?_
        rotate_left
        ·intro w'
         go_simp
         with_reducible rfl
        rotate_left
        ·simp only [Act.put, List.setIfInBounds_toArray, List.set_cons_zero, List.set_cons_succ, i64_w, i32_w]
         rfl
        refine takeS_ (i := 1) (N := some 33) (v := ?_) (a' := ?_) #[true, true, true, false, false, true, false, true, false, false, true, false, true, false, false, false, false, false, false, false, false] rfl rfl (by kernel_rfl) (fun _ _ _ h => h) (Or.inl ⟨by rfl, ?_⟩) hHeld ?_ ?_
        rotate_left
        ·rintro w' ⟨⟨s0, s1, s2, s3, s4⟩, ⟨t0, t1, t2, t3, t4, t5, t6⟩⟩
         go_simp
         with_reducible rfl
        rotate_left
        ·simp only [Act.put, List.setIfInBounds_toArray, List.set_cons_zero, List.set_cons_succ, i64_w, i32_w]
         rfl
        refine takeS_ (i := 3) (N := some 35) (v := ?_) (a' := ?_) #[true, true, true, true, false, true, false, true, false, false, true, false, true, false, false, false, false, false, false, false, false] rfl rfl (by kernel_rfl) (fun _ _ _ h => h) (Or.inl ⟨by rfl, ?_⟩) hHeld ?_ ?_
        rotate_left
        ·rintro w' ⟨⟨s0, s1, s2, s3, s4⟩, ⟨t0, t1, t2, t3, t4, t5, t6⟩⟩
         go_simp
         with_reducible rfl
        rotate_left
        ·simp only [Act.put, List.setIfInBounds_toArray, List.set_cons_zero, List.set_cons_succ, i64_w, i32_w]
         rfl
        refine pure2_ (i := 4) (N := some 36) (v := ?_) (a' := ?_) #[true, true, true, true, true, true, false, true, false, false, true, false, true, false, false, false, false, false, false, false, false] rfl rfl (by kernel_rfl) (fun _ _ _ h => h) (Or.inl ⟨by rfl, ?_⟩) ?_ ?_
        rotate_left
        ·intro w'
         go_simp
         with_reducible rfl
        rotate_left
        ·simp only [Act.put, List.setIfInBounds_toArray, List.set_cons_zero, List.set_cons_succ, i64_w, i32_w]
         rfl
        refine takeS_ (i := 6) (N := some 38) (v := ?_) (a' := ?_) #[true, true, true, true, true, true, true, true, false, false, true, false, true, false, false, false, false, false, false, false, false] rfl rfl (by kernel_rfl) (fun _ _ _ h => h) (Or.inl ⟨by rfl, ?_⟩) hHeld ?_ ?_
        rotate_left
        ·rintro w' ⟨⟨s0, s1, s2, s3, s4⟩, ⟨t0, t1, t2, t3, t4, t5, t6⟩⟩
         go_simp
         with_reducible rfl
        rotate_left
        ·simp only [Act.put, List.setIfInBounds_toArray, List.set_cons_zero, List.set_cons_succ, i64_w, i32_w]
         rfl
        refine takeS_ (i := 8) (N := some 40) (v := ?_) (a' := ?_) #[true, true, true, true, true, true, true, true, true, false, true, false, true, false, false, false, false, false, false, false, false] rfl rfl (by kernel_rfl) (fun _ _ _ h => h) (Or.inl ⟨by rfl, ?_⟩) hHeld ?_ ?_
        rotate_left
        ·rintro w' ⟨⟨s0, s1, s2, s3, s4⟩, ⟨t0, t1, t2, t3, t4, t5, t6⟩⟩
         go_simp
         with_reducible rfl
        rotate_left
        ·simp only [Act.put, List.setIfInBounds_toArray, List.set_cons_zero, List.set_cons_succ, i64_w, i32_w]
         rfl
        refine pure2_ (i := 9) (N := some 41) (v := ?_) (a' := ?_) #[true, true, true, true, true, true, true, true, true, true, true, false, true, false, false, false, false, false, false, false, false] rfl rfl (by kernel_rfl) (fun _ _ _ h => h) (Or.inl ⟨by rfl, ?_⟩) ?_ ?_
        rotate_left
        ·intro w'
         go_simp
         with_reducible rfl
        rotate_left
        ·simp only [Act.put, List.setIfInBounds_toArray, List.set_cons_zero, List.set_cons_succ, i64_w, i32_w]
         rfl
        refine takeS_ (i := 11) (N := some 43) (v := ?_) (a' := ?_) #[true, true, true, true, true, true, true, true, true, true, true, true, true, false, false, false, false, false, false, false, false] rfl rfl (by kernel_rfl) (fun _ _ _ h => h) (Or.inl ⟨by rfl, ?_⟩) hHeld ?_ ?_
        rotate_left
        ·rintro w' ⟨⟨s0, s1, s2, s3, s4⟩, ⟨t0, t1, t2, t3, t4, t5, t6⟩⟩
         go_simp
         with_reducible rfl
        rotate_left
        ·simp only [Act.put, List.setIfInBounds_toArray, List.set_cons_zero, List.set_cons_succ, i64_w, i32_w]
         rfl
        refine pure2_ (i := 15) (N := some 47) (v := ?_) (a' := ?_) #[true, true, true, true, true, true, true, true, true, true, true, true, true, false, false, true, false, false, false, false, false] rfl rfl (by kernel_rfl) (fun _ _ _ h => h) (Or.inl ⟨by rfl, ?_⟩) ?_ ?_
        rotate_left
        ·intro w'
         go_simp
         with_reducible rfl
        rotate_left
        ·simp only [Act.put, List.setIfInBounds_toArray, List.set_cons_zero, List.set_cons_succ, i64_w, i32_w]
         rfl
        refine takeT_ (i := 13) (N := some 45) (v := ?_) (a' := ?_) #[true, true, true, true, true, true, true, true, true, true, true, true, true, true, false, true, false, false, false, false, false] rfl rfl (by kernel_rfl) (fun _ _ _ h => h) (Or.inl ⟨by rfl, ?_⟩) hT ?_ ?_
        rotate_left
        ·rintro w' ⟨t0, t1, t2, t3, t4, t5, t6⟩
         go_simp
         with_reducible rfl
        rotate_left
        ·simp only [Act.put, List.setIfInBounds_toArray, List.set_cons_zero, List.set_cons_succ, i64_w, i32_w]
         rfl
        refine pure2_ (i := 14) (N := some 46) (v := ?_) (a' := ?_) #[true, true, true, true, true, true, true, true, true, true, true, true, true, true, true, true, false, false, false, false, false] rfl rfl (by kernel_rfl) (fun _ _ _ h => h) (Or.inl ⟨by rfl, ?_⟩) ?_ ?_
        rotate_left
        ·intro w'
         go_simp
         with_reducible rfl
        rotate_left
        ·simp only [Act.put, List.setIfInBounds_toArray, List.set_cons_zero, List.set_cons_succ, i64_w, i32_w]
         rfl
        refine last2_ (i := 16) (N := none) #[true, true, true, true, true, true, true, true, true, true, true, true, true, true, true, true, true, false, false, false, false] rfl rfl (by kernel_rfl) (by decide) (fun K hK => ?_)
        have hs32 : w31.cell? ⟨gb271, 0, none⟩ = some (.int .i64 ((rd_T48 l1_2 x21_1).f0)) := (blk_cell BK271.out 0).trans rfl
        have hfs32 := blk_frozen BK271.out 0
        have hns32_0 := NB266_271.out
        have hns32_1 := NB267_271.out
        have hns32_2 := NB268_271.out
        have hns32_3 := NB269_271.out
        have hms32_0 := NB271_266.out
        have hms32_1 := NB271_267.out
        have hms32_2 := NB271_268.out
        have hms32_3 := NB271_269.out
        refine skip_ (w1 := ?_) (by rfl) rfl ?_ ?_
        rotate_left
        ·go_simp
         rfl
        refine hK.out _ _ ⟨((cell_far (p := ⟨gb271, _, none⟩) NB266_271.out _).trans (hT.1)), ((cell_far (p := ⟨gb271, _, none⟩) NB266_271.out _).trans (hT.2.1)), ((cell_far (p := ⟨gb271, _, none⟩) NB266_271.out _).trans (hT.2.2.1)), ((cell_far (p := ⟨gb271, _, none⟩) NB266_271.out _).trans (hT.2.2.2.1)), ((cell_far (p := ⟨gb271, _, none⟩) NB266_271.out _).trans (hT.2.2.2.2.1)), ((cell_far (p := ⟨gb271, _, none⟩) NB266_271.out _).trans (hT.2.2.2.2.2.1)), ((cell_far (p := ⟨gb271, _, none⟩) NB266_271.out _).trans (hT.2.2.2.2.2.2))⟩ (fun hT => ?_)
        clear hK K
        refine pure2_ (i := 17) (N := some 48) (v := ?_) (a' := ?_) #[true, true, true, true, true, true, true, true, true, true, true, true, true, true, true, true, true, true, false, false, false] rfl rfl (by kernel_rfl) (fun _ _ _ h => h) (Or.inl ⟨by rfl, ?_⟩) ?_ ?_
        rotate_left
        ·intro w'
         go_simp
         with_reducible rfl
        rotate_left
        ·simp only [Act.put, List.setIfInBounds_toArray, List.set_cons_zero, List.set_cons_succ, i64_w, i32_w]
         rfl
        refine last2_ (i := 18) (N := none) #[true, true, true, true, true, true, true, true, true, true, true, true, true, true, true, true, true, true, true, false, false] rfl rfl (by kernel_rfl) (by decide) (fun K hK => ?_)
        have hs33 : w31.cell? ⟨gb271, 1, none⟩ = some (.int .i64 ((rd_T48 l1_2 x21_1).f1)) := (blk_cell BK271.out 1).trans rfl
        have hfs33 := blk_frozen BK271.out 1
        have hns33_0 := NB266_271.out
        have hns33_1 := NB267_271.out
        have hns33_2 := NB268_271.out
        have hns33_3 := NB269_271.out
        have hms33_0 := NB271_266.out
        have hms33_1 := NB271_267.out
        have hms33_2 := NB271_268.out
        have hms33_3 := NB271_269.out
        refine skip_ (w1 := ?_) (by rfl) rfl ?_ ?_
        rotate_left
        ·go_simp
         rfl
        refine hK.out _ _ ⟨((cell_far (p := ⟨gb271, _, none⟩) NB266_271.out _).trans (hT.1)), ((cell_far (p := ⟨gb271, _, none⟩) NB266_271.out _).trans (hT.2.1)), ((cell_far (p := ⟨gb271, _, none⟩) NB266_271.out _).trans (hT.2.2.1)), ((cell_far (p := ⟨gb271, _, none⟩) NB266_271.out _).trans (hT.2.2.2.1)), ((cell_far (p := ⟨gb271, _, none⟩) NB266_271.out _).trans (hT.2.2.2.2.1)), ((cell_far (p := ⟨gb271, _, none⟩) NB266_271.out _).trans (hT.2.2.2.2.2.1)), ((cell_far (p := ⟨gb271, _, none⟩) NB266_271.out _).trans (hT.2.2.2.2.2.2))⟩ (fun hT => ?_)
        clear hK K
        refine pure2_ (i := 19) (N := some 49) (v := ?_) (a' := ?_) #[true, true, true, true, true, true, true, true, true, true, true, true, true, true, true, true, true, true, true, true, false] rfl rfl (by kernel_rfl) (fun _ _ _ h => h) (Or.inl ⟨by rfl, ?_⟩) ?_ ?_
        rotate_left
        ·intro w'
         go_simp
         with_reducible rfl
        rotate_left
        ·simp only [Act.put, List.setIfInBounds_toArray, List.set_cons_zero, List.set_cons_succ, i64_w, i32_w]
         rfl
        refine last2_ (i := 20) (N := none) #[true, true, true, true, true, true, true, true, true, true, true, true, true, true, true, true, true, true, true, true, true] rfl rfl (by kernel_rfl) (by decide) (fun K hK => ?_)
        have hs34 : w31.cell? ⟨gb271, 3, none⟩ = some (.int .i64 ((rd_T48 l1_2 x21_1).f3)) := (blk_cell BK271.out 3).trans rfl
        have hfs34 := blk_frozen BK271.out 3
        have hns34_0 := NB266_271.out
        have hns34_1 := NB267_271.out
        have hns34_2 := NB268_271.out
        have hns34_3 := NB269_271.out
        have hms34_0 := NB271_266.out
        have hms34_1 := NB271_267.out
        have hms34_2 := NB271_268.out
        have hms34_3 := NB271_269.out
        refine skip_ (w1 := ?_) (by rfl) rfl ?_ ?_
        rotate_left
        ·go_simp
         rfl
        refine hK.out _ _ ⟨((cell_far (p := ⟨gb271, _, none⟩) NB266_271.out _).trans (hT.1)), ((cell_far (p := ⟨gb271, _, none⟩) NB266_271.out _).trans (hT.2.1)), ((cell_far (p := ⟨gb271, _, none⟩) NB266_271.out _).trans (hT.2.2.1)), ((cell_far (p := ⟨gb271, _, none⟩) NB266_271.out _).trans (hT.2.2.2.1)), ((cell_far (p := ⟨gb271, _, none⟩) NB266_271.out _).trans (hT.2.2.2.2.1)), ((cell_far (p := ⟨gb271, _, none⟩) NB266_271.out _).trans (hT.2.2.2.2.2.1)), ((cell_far (p := ⟨gb271, _, none⟩) NB266_271.out _).trans (hT.2.2.2.2.2.2))⟩ (fun hT => ?_)
        clear hK K
        refine done2_ (by kernel_rfl) ?_
        have hnb35 := NB269_266.out
        have hnc35 := NB266_269.out
        have hnb36 := NB269_267.out
        have hnc36 := NB267_269.out
        have hnb37 := NB269_268.out
        have hnc37 := NB268_269.out
        have hcz38_0 := cz BK269 0 (.int .i64 a1_0)
        have hcz38_1 := cz BK269 1 (.int .i64 (wrap64 (a1_1 + 1)))
        have hcz38_2 := cz BK269 2 (u270002)
        have hfz38_0 := fz BK269 0
        have hfz38_1 := fz BK269 1
        have hfz38_2 := fz BK269 2
        have hcz39_0 := cz BK271 0 (.int .i64 ((rd_T48 l1_2 x21_1).f0))
        have hcz39_1 := cz BK271 1 (.int .i64 ((rd_T48 l1_2 x21_1).f1))
        have hcz39_2 := cz BK271 2 (.int .i64 ((rd_T48 l1_2 x21_1).f2))
        have hcz39_3 := cz BK271 3 (.int .i64 ((rd_T48 l1_2 x21_1).f3))
        have hcz39_4 := cz BK271 4 (.int .i64 (wrap64 (((rd_T48 l1_2 x21_1).f4) - 1)))
        have hfz39_0 := fz BK271 0
        have hfz39_1 := fz BK271 1
        have hfz39_2 := fz BK271 2
        have hfz39_3 := fz BK271 3
        have hfz39_4 := fz BK271 4
        try go_wp2_with (first | ((with_reducible refine gate_builtin (b := .append) (xs := #[.tmp 51, .tmp 53]) rfl ?_); (try (refine gate_guard (by rfl) ?_; dsimp only)); at_builtin; refine Kd.R_append k48 (w0 := w) w.heap.size rfl (.tmp 51) (.tmp 53) 33 48 (.agg #[(.int .i64 0), (.int .i64 0), (.int .i64 0), (.int .i64 0), (.int .i64 0)]) 40 rfl Try.underlying33 info48 rfl (by decide) (by omega) u270002 x270002_1 (⟨wrap64 (((rd_T48 l1_2 x21_1).f0) + ((rd_T48 l1_2 x21_1).f2)), wrap64 (((rd_T48 l1_2 x21_1).f1) + ((rd_T48 l1_2 x21_1).f3)), (rd_T48 l1_2 x21_1).f2, wrap64 (((rd_T48 l1_2 x21_1).f3) - a0_6), wrap64 (((rd_T48 l1_2 x21_1).f4) - 1)⟩ : S48) [.int .i64 (wrap64 (((rd_T48 l1_2 x21_1).f0) + ((rd_T48 l1_2 x21_1).f2))), .int .i64 (wrap64 (((rd_T48 l1_2 x21_1).f1) + ((rd_T48 l1_2 x21_1).f3))), .int .i64 ((rd_T48 l1_2 x21_1).f2), .int .i64 (wrap64 (((rd_T48 l1_2 x21_1).f3) - a0_6)), .int .i64 (wrap64 (((rd_T48 l1_2 x21_1).f4) - 1))] (fun k_ => k_ ≠ gb271) (fun _ => False) rfl (by first | (go_simp; done) | (go_simp; rfl)) ?aP (fun _ hk => hk.elim) ?aF ?aO ?aB ?aS ?aL ?_; (case aP => exact k48_mkM _ _ _ (⟨wrap64 (((rd_T48 l1_2 x21_1).f0) + ((rd_T48 l1_2 x21_1).f2)), wrap64 (((rd_T48 l1_2 x21_1).f1) + ((rd_T48 l1_2 x21_1).f3)), (rd_T48 l1_2 x21_1).f2, wrap64 (((rd_T48 l1_2 x21_1).f3) - a0_6), wrap64 (((rd_T48 l1_2 x21_1).f4) - 1)⟩ : S48)); (case aB => exact (lV5 GE266 GE267 GE268 GE269 GE271)); (case aF => exact (fun k_ hk => Kd.freshB (g := gb271) (o := .cells #[.int .i64 (wrap64 (((rd_T48 l1_2 x21_1).f0) + ((rd_T48 l1_2 x21_1).f2))), .int .i64 (wrap64 (((rd_T48 l1_2 x21_1).f1) + ((rd_T48 l1_2 x21_1).f3))), .int .i64 ((rd_T48 l1_2 x21_1).f2), .int .i64 (wrap64 (((rd_T48 l1_2 x21_1).f3) - a0_6)), .int .i64 (wrap64 (((rd_T48 l1_2 x21_1).f4) - 1))] 48 (0, 0)) (by refine bU ?_; refine blk_put (cs := #[.int .i64 (wrap64 (((rd_T48 l1_2 x21_1).f0) + ((rd_T48 l1_2 x21_1).f2))), .int .i64 (wrap64 (((rd_T48 l1_2 x21_1).f1) + ((rd_T48 l1_2 x21_1).f3))), .int .i64 ((rd_T48 l1_2 x21_1).f2), .int .i64 ((rd_T48 l1_2 x21_1).f3), .int .i64 (wrap64 (((rd_T48 l1_2 x21_1).f4) - 1))]) ?_ 3 _ rfl; refine bU ?_; refine blk_put (cs := #[.int .i64 (wrap64 (((rd_T48 l1_2 x21_1).f0) + ((rd_T48 l1_2 x21_1).f2))), .int .i64 ((rd_T48 l1_2 x21_1).f1), .int .i64 ((rd_T48 l1_2 x21_1).f2), .int .i64 ((rd_T48 l1_2 x21_1).f3), .int .i64 (wrap64 (((rd_T48 l1_2 x21_1).f4) - 1))]) ?_ 1 _ rfl; refine bU ?_; refine blk_put (cs := #[.int .i64 ((rd_T48 l1_2 x21_1).f0), .int .i64 ((rd_T48 l1_2 x21_1).f1), .int .i64 ((rd_T48 l1_2 x21_1).f2), .int .i64 ((rd_T48 l1_2 x21_1).f3), .int .i64 (wrap64 (((rd_T48 l1_2 x21_1).f4) - 1))]) ?_ 0 _ rfl; refine bU ?_; exact BK271.out) k_ hk)); (case aO => exact (by (with_reducible repeat (first | apply Kd.R_alloc | apply Kd.R_drewN | apply Kd.R_drew)); exact Kd.R_mono (Kd.R_far (p := ⟨gb271, 3, none⟩) (Kd.R_far (p := ⟨gb271, 1, none⟩) (Kd.R_far (p := ⟨gb271, 0, none⟩) (Kd.R_mono HO_270002.out (fun k_ hk => (⟨hk, hk⟩ : _ ∧ k_ ≠ gb271))) (fun _ hk => hk.2) (.int .i64 (wrap64 (((rd_T48 l1_2 x21_1).f0) + ((rd_T48 l1_2 x21_1).f2))))) (fun _ hk => hk.2) (.int .i64 (wrap64 (((rd_T48 l1_2 x21_1).f1) + ((rd_T48 l1_2 x21_1).f3))))) (fun _ hk => hk.2) (.int .i64 (wrap64 (((rd_T48 l1_2 x21_1).f3) - a0_6)))) (fun _ hk => hk.1))); (case aS => exact (below_size (lV5 GE266 GE267 GE268 GE269 GE271))); (case aL => have := LMc20.out; omega); intro v273 w40 ho hb hg hat; rw [← Ny272.out] at ho; replace BK266 := Aside0.mk (blk_grown (g := gb266) (o := .cells #[.int .i64 a0_0, .int .i64 a0_1, .int .i64 a0_2, .int .i64 a0_3, .int .i64 a0_4, .int .i64 a0_5, .int .i64 a0_6] 26 (0, 0)) (bG NB266_271 BK266) hg (Kd.R_ne HO_270002.out BK266.out (by decide))); replace BK267 := Aside0.mk (blk_grown (g := gb267) (o := .cells #[.int .i64 a1_0, .int .i64 a1_1, .slice (some ad270) l1_2.length c1_2] 35 (0, 0)) (bG NB267_271 BK267) hg (Kd.R_ne HO_270002.out BK267.out (by decide))); replace BK268 := Aside0.mk (blk_grown (g := gb268) (o := .cells #[.int .i64 0, .int .i64 0, .slice none 0 0] 35 (0, 0)) (bG NB268_271 BK268) hg (Kd.R_ne HO_270002.out BK268.out (by decide))); replace BK269 := Aside0.mk (blk_grown (g := gb269) (o := .cells #[.int .i64 a1_0, .int .i64 (wrap64 (a1_1 + 1)), u270002] 35 (0, 0)) (bG NB269_271 BK269) hg (Kd.R_ne HO_270002.out BK269.out (by decide))); replace BK271 := Aside0.mk (blk_grown (g := gb271) (o := .cells #[.int .i64 (wrap64 (((rd_T48 l1_2 x21_1).f0) + ((rd_T48 l1_2 x21_1).f2))), .int .i64 (wrap64 (((rd_T48 l1_2 x21_1).f1) + ((rd_T48 l1_2 x21_1).f3))), .int .i64 ((rd_T48 l1_2 x21_1).f2), .int .i64 (wrap64 (((rd_T48 l1_2 x21_1).f3) - a0_6)), .int .i64 (wrap64 (((rd_T48 l1_2 x21_1).f4) - 1))] 48 (0, 0)) (by refine bU ?_; refine blk_put (cs := #[.int .i64 (wrap64 (((rd_T48 l1_2 x21_1).f0) + ((rd_T48 l1_2 x21_1).f2))), .int .i64 (wrap64 (((rd_T48 l1_2 x21_1).f1) + ((rd_T48 l1_2 x21_1).f3))), .int .i64 ((rd_T48 l1_2 x21_1).f2), .int .i64 ((rd_T48 l1_2 x21_1).f3), .int .i64 (wrap64 (((rd_T48 l1_2 x21_1).f4) - 1))]) ?_ 3 _ rfl; refine bU ?_; refine blk_put (cs := #[.int .i64 (wrap64 (((rd_T48 l1_2 x21_1).f0) + ((rd_T48 l1_2 x21_1).f2))), .int .i64 ((rd_T48 l1_2 x21_1).f1), .int .i64 ((rd_T48 l1_2 x21_1).f2), .int .i64 ((rd_T48 l1_2 x21_1).f3), .int .i64 (wrap64 (((rd_T48 l1_2 x21_1).f4) - 1))]) ?_ 1 _ rfl; refine bU ?_; refine blk_put (cs := #[.int .i64 ((rd_T48 l1_2 x21_1).f0), .int .i64 ((rd_T48 l1_2 x21_1).f1), .int .i64 ((rd_T48 l1_2 x21_1).f2), .int .i64 ((rd_T48 l1_2 x21_1).f3), .int .i64 (wrap64 (((rd_T48 l1_2 x21_1).f4) - 1))]) ?_ 0 _ rfl; refine bU ?_; exact BK271.out) hg (Kd.R_away HO_270002.out (fun _ hk => hk))); replace HB := Aside0.mk hb; have HO274 := Aside0.mk ho; clear HO_270002; clear ho hb hg hat; obtain ⟨Ao41, co41, eo41⟩ := Kd.R_slice HO274.out; subst eo41; have hcz42_0 := cz BK269 0 (.int .i64 a1_0); have hcz42_1 := cz BK269 1 (.int .i64 (wrap64 (a1_1 + 1))); have hcz42_2 := cz BK269 2 (u270002); have hfz42_0 := fz BK269 0; have hfz42_1 := fz BK269 1; have hfz42_2 := fz BK269 2) | ((with_reducible refine gate_store (t := 33) (p := 55) rfl ?_); refine store_event (t := 33) (p := 55) (v := ?vo_w43) (w1 := (w40.setCell ⟨gb269, 2, none⟩ (.slice Ao41 y272.length co41))) ?hg ?ho ?hn ?hr ?_; (case ho => rfl); (case hg => rfl); (case hn => rfl); (case hr => first | (go_simp; done) | (go_simp; rfl) | (have hq0_ := (blk_cell BK269.out 2).trans (show _ = some _ from rfl); have hf0_ := blk_frozen BK269.out 2; first | (go_simp; done) | (go_simp; rfl))); intro w43 hw; replace HO274 : Aside0 (Kd.R k48 48 w43 w.heap.size (fun k_ => k_ ≠ gb271) (.slice Ao41 y272.length co41) y272) := ⟨(by rw [hw]; exact (by (with_reducible repeat (first | apply Kd.R_alloc | apply Kd.R_drewN | apply Kd.R_drew)); exact Kd.R_mono (Kd.R_far (p := ⟨gb269, 2, none⟩) (Kd.R_types HO274.out BK269.out (by decide)) (fun _ hk => hk.2) (.slice Ao41 y272.length co41)) (fun _ hk => hk.1)))⟩; replace BK266 : Aside0 (w43.heap[gb266]? = some (.cells #[.int .i64 a0_0, .int .i64 a0_1, .int .i64 a0_2, .int .i64 a0_3, .int .i64 a0_4, .int .i64 a0_5, .int .i64 a0_6] 26 (0, 0))) := ⟨(by rw [hw]; exact (bG NB266_269 BK266))⟩; replace BK267 : Aside0 (w43.heap[gb267]? = some (.cells #[.int .i64 a1_0, .int .i64 a1_1, .slice (some ad270) l1_2.length c1_2] 35 (0, 0))) := ⟨(by rw [hw]; exact (bG NB267_269 BK267))⟩; replace BK268 : Aside0 (w43.heap[gb268]? = some (.cells #[.int .i64 0, .int .i64 0, .slice none 0 0] 35 (0, 0))) := ⟨(by rw [hw]; exact (bG NB268_269 BK268))⟩; replace BK269 : Aside0 (w43.heap[gb269]? = some (.cells #[.int .i64 a1_0, .int .i64 (wrap64 (a1_1 + 1)), .slice Ao41 y272.length co41] 35 (0, 0))) := ⟨(by rw [hw]; exact (by refine bU ?_; refine blk_put (cs := #[.int .i64 a1_0, .int .i64 (wrap64 (a1_1 + 1)), u270002]) ?_ 2 _ rfl; refine bU ?_; exact BK269.out))⟩; replace BK271 : Aside0 (w43.heap[gb271]? = some (.cells #[.int .i64 (wrap64 (((rd_T48 l1_2 x21_1).f0) + ((rd_T48 l1_2 x21_1).f2))), .int .i64 (wrap64 (((rd_T48 l1_2 x21_1).f1) + ((rd_T48 l1_2 x21_1).f3))), .int .i64 ((rd_T48 l1_2 x21_1).f2), .int .i64 (wrap64 (((rd_T48 l1_2 x21_1).f3) - a0_6)), .int .i64 (wrap64 (((rd_T48 l1_2 x21_1).f4) - 1))] 48 (0, 0))) := ⟨(by rw [hw]; exact (bG NB271_269 BK271))⟩; replace HB : Aside0 (Below w.heap.size w w43) := ⟨(by rw [hw]; exact (lV5 GE266 GE267 GE268 GE269 GE271))⟩; clear hw))
        go_roundg k1
        case measure => have := HK1.out; omega
        case rel => exact ⟨(wrap64 (x21_1 + 1)), (y272), (.slice Ao41 y272.length co41), tE, H', ⟨by have := HK1.out; omega⟩, ⟨by (with_reducible repeat (first | apply Kd.R_alloc | apply Kd.R_drewN | apply Kd.R_drew)); exact Kd.R_mono HO274.out (fun _ hk => trivial)⟩, ⟨by refine bU ?_; exact BK266.out⟩, ⟨by refine bU ?_; exact BK267.out⟩, ⟨by refine bU ?_; exact BK268.out⟩, ⟨by refine bU ?_; exact BK269.out⟩, ⟨by repeat (first | (with_reducible first | exact HB.out | apply below_alloc | apply pw_below_drewN | apply below_drew1 | refine below_set ?_ GE266.out | refine below_set ?_ GE267.out | refine below_set ?_ GE268.out | refine below_set ?_ GE269.out | refine below_set ?_ GE271.out) | exact HB.out)⟩⟩
       ·rw [if_neg c20] at H
        exact absurd H (by simp)
      ·rw [if_neg c19] at H
       have c19b0 : decide (0 < (wrap64 (((rd_T48 l1_2 x21_1).f4) - 1))) = false := decide_eq_false c19
       clear c19
       have H' := Aside0.mk H
       clear H
       have p270 : 0 ≤ (x21_1 : Int) := of_decide_eq_true hE
       have q270 : x21_1 < (l1_2.length : Int) := of_decide_eq_true hE
       obtain ⟨ad270, e270, hx270_0, hx270_1, hx270_2, hx270_3, hx270_4⟩ := at_T48 HR1_2.out x21_1 p270 q270
       cases e270
       replace hx270_0 := (HB.out.cell (World.block_lt_of_cell? w _ hx270_0)).trans hx270_0
       replace hx270_1 := (HB.out.cell (World.block_lt_of_cell? w _ hx270_1)).trans hx270_1
       replace hx270_2 := (HB.out.cell (World.block_lt_of_cell? w _ hx270_2)).trans hx270_2
       replace hx270_3 := (HB.out.cell (World.block_lt_of_cell? w _ hx270_3)).trans hx270_3
       replace hx270_4 := (HB.out.cell (World.block_lt_of_cell? w _ hx270_4)).trans hx270_4
       replace p270 := eq_true p270
       replace q270 := eq_true q270
       go_wp2_with (first | ((with_reducible refine gate_dst (N := 8) rfl ?_); (try (refine gate_guard (by rfl) ?_; dsimp only)); refine box_event rfl (N := 8) rfl (cs := #[.int .i64 0, .int .i64 0, .int .i64 0, .int .i64 0, .int .i64 0]) (t := 48) sE ?_; intro gb271 hg w44 hbox hb; replace HO_270002 := Aside0.mk (Kd.R_below (Kd.R_elderB (rU HO_270002.out) gb271 (Nat.le_of_eq hg.symm)) hb); have BK271 := Aside0.mk hbox; have GW271 := gS w hg (lV4 GE266 GE267 GE268 GE269); have GE271 := gS w hg (lV4 GE266 GE267 GE268 GE269); replace HB := bH (lV4 GE266 GE267 GE268 GE269) hb; have NB266_271 := nL hg (bV BK266); have NB271_266 := nG hg (bV BK266); replace BK266 := bB (bV BK266) hb; have NB267_271 := nL hg (bV BK267); have NB271_267 := nG hg (bV BK267); replace BK267 := bB (bV BK267) hb; have NB268_271 := nL hg (bV BK268); have NB271_268 := nG hg (bV BK268); replace BK268 := bB (bV BK268) hb; have NB269_271 := nL hg (bV BK269); have NB271_269 := nG hg (bV BK269); replace BK269 := bB (bV BK269) hb; clear hb hbox hg; have hnb45 := NB271_266.out; have hnc45 := NB266_271.out; have hnb46 := NB271_267.out; have hnc46 := NB267_271.out; have hnb47 := NB271_268.out; have hnc47 := NB268_271.out; have hnb48 := NB271_269.out; have hnc48 := NB269_271.out; have hcz49_0 := cz BK271 0 (.int .i64 0); have hcz49_1 := cz BK271 1 (.int .i64 0); have hcz49_2 := cz BK271 2 (.int .i64 0); have hcz49_3 := cz BK271 3 (.int .i64 0); have hcz49_4 := cz BK271 4 (.int .i64 0); have hfz49_0 := fz BK271 0; have hfz49_1 := fz BK271 1; have hfz49_2 := fz BK271 2; have hfz49_3 := fz BK271 3; have hfz49_4 := fz BK271 4) | ((with_reducible refine gate_store (t := 48) (p := 8) rfl ?_); refine store_event (t := 48) (p := 8) (v := ?vo_w50) (w1 := (((((w44.setCell ⟨gb271, 0, none⟩ (.int .i64 ((rd_T48 l1_2 x21_1).f0))).setCell ⟨gb271, 1, none⟩ (.int .i64 ((rd_T48 l1_2 x21_1).f1))).setCell ⟨gb271, 2, none⟩ (.int .i64 ((rd_T48 l1_2 x21_1).f2))).setCell ⟨gb271, 3, none⟩ (.int .i64 ((rd_T48 l1_2 x21_1).f3))).setCell ⟨gb271, 4, none⟩ (.int .i64 ((rd_T48 l1_2 x21_1).f4)))) ?hg ?ho ?hn ?hr ?_; (case ho => rfl); (case hg => rfl); (case hn => rfl); (case hr => first | (go_simp; done) | (go_simp; rfl) | (have hq0_ := (blk_cell BK271.out 0).trans (show _ = some _ from rfl); have hf0_ := blk_frozen BK271.out 0; have hq1_ := (blk_cell BK271.out 1).trans (show _ = some _ from rfl); have hf1_ := blk_frozen BK271.out 1; have hq2_ := (blk_cell BK271.out 2).trans (show _ = some _ from rfl); have hf2_ := blk_frozen BK271.out 2; have hq3_ := (blk_cell BK271.out 3).trans (show _ = some _ from rfl); have hf3_ := blk_frozen BK271.out 3; have hq4_ := (blk_cell BK271.out 4).trans (show _ = some _ from rfl); have hf4_ := blk_frozen BK271.out 4; first | (go_simp; done) | (go_simp; rfl))); intro w50 hw; replace HO_270002 : Aside0 (Kd.R k48 48 w50 w.heap.size (fun k_ => k_ ≠ gb271) u270002 x270002_1) := ⟨(by rw [hw]; exact (by (with_reducible repeat (first | apply Kd.R_alloc | apply Kd.R_drewN | apply Kd.R_drew)); exact Kd.R_mono (Kd.R_far (p := ⟨gb271, 4, none⟩) (Kd.R_far (p := ⟨gb271, 3, none⟩) (Kd.R_far (p := ⟨gb271, 2, none⟩) (Kd.R_far (p := ⟨gb271, 1, none⟩) (Kd.R_far (p := ⟨gb271, 0, none⟩) (Kd.R_mono HO_270002.out (fun k_ hk => (⟨hk, hk.2⟩ : _ ∧ k_ ≠ gb271))) (fun _ hk => hk.2) (.int .i64 ((rd_T48 l1_2 x21_1).f0))) (fun _ hk => hk.2) (.int .i64 ((rd_T48 l1_2 x21_1).f1))) (fun _ hk => hk.2) (.int .i64 ((rd_T48 l1_2 x21_1).f2))) (fun _ hk => hk.2) (.int .i64 ((rd_T48 l1_2 x21_1).f3))) (fun _ hk => hk.2) (.int .i64 ((rd_T48 l1_2 x21_1).f4))) (fun _ hk => hk.1.2)))⟩; replace BK266 : Aside0 (w50.heap[gb266]? = some (.cells #[.int .i64 a0_0, .int .i64 a0_1, .int .i64 a0_2, .int .i64 a0_3, .int .i64 a0_4, .int .i64 a0_5, .int .i64 a0_6] 26 (0, 0))) := ⟨(by rw [hw]; exact (bG NB266_271 BK266))⟩; replace BK267 : Aside0 (w50.heap[gb267]? = some (.cells #[.int .i64 a1_0, .int .i64 a1_1, .slice (some ad270) l1_2.length c1_2] 35 (0, 0))) := ⟨(by rw [hw]; exact (bG NB267_271 BK267))⟩; replace BK268 : Aside0 (w50.heap[gb268]? = some (.cells #[.int .i64 0, .int .i64 0, .slice none 0 0] 35 (0, 0))) := ⟨(by rw [hw]; exact (bG NB268_271 BK268))⟩; replace BK269 : Aside0 (w50.heap[gb269]? = some (.cells #[.int .i64 a1_0, .int .i64 (wrap64 (a1_1 + 1)), u270002] 35 (0, 0))) := ⟨(by rw [hw]; exact (bG NB269_271 BK269))⟩; replace BK271 : Aside0 (w50.heap[gb271]? = some (.cells #[.int .i64 ((rd_T48 l1_2 x21_1).f0), .int .i64 ((rd_T48 l1_2 x21_1).f1), .int .i64 ((rd_T48 l1_2 x21_1).f2), .int .i64 ((rd_T48 l1_2 x21_1).f3), .int .i64 ((rd_T48 l1_2 x21_1).f4)] 48 (0, 0))) := ⟨(by rw [hw]; exact (by refine bU ?_; refine blk_put (cs := #[.int .i64 ((rd_T48 l1_2 x21_1).f0), .int .i64 ((rd_T48 l1_2 x21_1).f1), .int .i64 ((rd_T48 l1_2 x21_1).f2), .int .i64 ((rd_T48 l1_2 x21_1).f3), .int .i64 0]) ?_ 4 _ rfl; refine bU ?_; refine blk_put (cs := #[.int .i64 ((rd_T48 l1_2 x21_1).f0), .int .i64 ((rd_T48 l1_2 x21_1).f1), .int .i64 ((rd_T48 l1_2 x21_1).f2), .int .i64 0, .int .i64 0]) ?_ 3 _ rfl; refine bU ?_; refine blk_put (cs := #[.int .i64 ((rd_T48 l1_2 x21_1).f0), .int .i64 ((rd_T48 l1_2 x21_1).f1), .int .i64 0, .int .i64 0, .int .i64 0]) ?_ 2 _ rfl; refine bU ?_; refine blk_put (cs := #[.int .i64 ((rd_T48 l1_2 x21_1).f0), .int .i64 0, .int .i64 0, .int .i64 0, .int .i64 0]) ?_ 1 _ rfl; refine bU ?_; refine blk_put (cs := #[.int .i64 0, .int .i64 0, .int .i64 0, .int .i64 0, .int .i64 0]) ?_ 0 _ rfl; refine bU ?_; exact BK271.out))⟩; replace HB : Aside0 (Below w.heap.size w w50) := ⟨(by rw [hw]; exact (lV5 GE266 GE267 GE268 GE269 GE271))⟩; clear hw; have hcz51_0 := cz BK271 0 (.int .i64 ((rd_T48 l1_2 x21_1).f0)); have hcz51_1 := cz BK271 1 (.int .i64 ((rd_T48 l1_2 x21_1).f1)); have hcz51_2 := cz BK271 2 (.int .i64 ((rd_T48 l1_2 x21_1).f2)); have hcz51_3 := cz BK271 3 (.int .i64 ((rd_T48 l1_2 x21_1).f3)); have hcz51_4 := cz BK271 4 (.int .i64 ((rd_T48 l1_2 x21_1).f4)); have hfz51_0 := fz BK271 0; have hfz51_1 := fz BK271 1; have hfz51_2 := fz BK271 2; have hfz51_3 := fz BK271 3; have hfz51_4 := fz BK271 4) | ((with_reducible refine gate_store (t := 3) (p := 28) rfl ?_); refine store_event (t := 3) (p := 28) (v := ?vo_w52) (w1 := (w50.setCell ⟨gb271, 4, none⟩ (.int .i64 (wrap64 (((rd_T48 l1_2 x21_1).f4) - 1))))) ?hg ?ho ?hn ?hr ?_; (case ho => rfl); (case hg => rfl); (case hn => rfl); (case hr => first | (go_simp; done) | (go_simp; rfl) | (have hq0_ := (blk_cell BK271.out 4).trans (show _ = some _ from rfl); have hf0_ := blk_frozen BK271.out 4; first | (go_simp; done) | (go_simp; rfl))); intro w52 hw; replace HO_270002 : Aside0 (Kd.R k48 48 w52 w.heap.size (fun k_ => k_ ≠ gb271) u270002 x270002_1) := ⟨(by rw [hw]; exact (by (with_reducible repeat (first | apply Kd.R_alloc | apply Kd.R_drewN | apply Kd.R_drew)); exact Kd.R_mono (Kd.R_far (p := ⟨gb271, 4, none⟩) (Kd.R_mono HO_270002.out (fun k_ hk => (⟨hk, hk⟩ : _ ∧ k_ ≠ gb271))) (fun _ hk => hk.2) (.int .i64 (wrap64 (((rd_T48 l1_2 x21_1).f4) - 1)))) (fun _ hk => hk.1)))⟩; replace BK266 : Aside0 (w52.heap[gb266]? = some (.cells #[.int .i64 a0_0, .int .i64 a0_1, .int .i64 a0_2, .int .i64 a0_3, .int .i64 a0_4, .int .i64 a0_5, .int .i64 a0_6] 26 (0, 0))) := ⟨(by rw [hw]; exact (bG NB266_271 BK266))⟩; replace BK267 : Aside0 (w52.heap[gb267]? = some (.cells #[.int .i64 a1_0, .int .i64 a1_1, .slice (some ad270) l1_2.length c1_2] 35 (0, 0))) := ⟨(by rw [hw]; exact (bG NB267_271 BK267))⟩; replace BK268 : Aside0 (w52.heap[gb268]? = some (.cells #[.int .i64 0, .int .i64 0, .slice none 0 0] 35 (0, 0))) := ⟨(by rw [hw]; exact (bG NB268_271 BK268))⟩; replace BK269 : Aside0 (w52.heap[gb269]? = some (.cells #[.int .i64 a1_0, .int .i64 (wrap64 (a1_1 + 1)), u270002] 35 (0, 0))) := ⟨(by rw [hw]; exact (bG NB269_271 BK269))⟩; replace BK271 : Aside0 (w52.heap[gb271]? = some (.cells #[.int .i64 ((rd_T48 l1_2 x21_1).f0), .int .i64 ((rd_T48 l1_2 x21_1).f1), .int .i64 ((rd_T48 l1_2 x21_1).f2), .int .i64 ((rd_T48 l1_2 x21_1).f3), .int .i64 (wrap64 (((rd_T48 l1_2 x21_1).f4) - 1))] 48 (0, 0))) := ⟨(by rw [hw]; exact (by refine bU ?_; refine blk_put (cs := #[.int .i64 ((rd_T48 l1_2 x21_1).f0), .int .i64 ((rd_T48 l1_2 x21_1).f1), .int .i64 ((rd_T48 l1_2 x21_1).f2), .int .i64 ((rd_T48 l1_2 x21_1).f3), .int .i64 ((rd_T48 l1_2 x21_1).f4)]) ?_ 4 _ rfl; refine bU ?_; exact BK271.out))⟩; replace HB : Aside0 (Below w.heap.size w w52) := ⟨(by rw [hw]; exact (lV5 GE266 GE267 GE268 GE269 GE271))⟩; clear hw; have hcz53_0 := cz BK271 0 (.int .i64 ((rd_T48 l1_2 x21_1).f0)); have hcz53_1 := cz BK271 1 (.int .i64 ((rd_T48 l1_2 x21_1).f1)); have hcz53_2 := cz BK271 2 (.int .i64 ((rd_T48 l1_2 x21_1).f2)); have hcz53_3 := cz BK271 3 (.int .i64 ((rd_T48 l1_2 x21_1).f3)); have hcz53_4 := cz BK271 4 (.int .i64 (wrap64 (((rd_T48 l1_2 x21_1).f4) - 1))); have hfz53_0 := fz BK271 0; have hfz53_1 := fz BK271 1; have hfz53_2 := fz BK271 2; have hfz53_3 := fz BK271 3; have hfz53_4 := fz BK271 4))
       go_roundg k1
       case measure => have := HK1.out; omega
       case rel => exact ⟨(wrap64 (x21_1 + 1)), (x270002_1), (u270002), tE, H', ⟨by have := HK1.out; omega⟩, ⟨by (with_reducible repeat (first | apply Kd.R_alloc | apply Kd.R_drewN | apply Kd.R_drew)); exact Kd.R_mono HO_270002.out (fun _ hk => trivial)⟩, ⟨by refine bU ?_; exact BK266.out⟩, ⟨by refine bU ?_; exact BK267.out⟩, ⟨by refine bU ?_; exact BK268.out⟩, ⟨by refine bU ?_; exact BK269.out⟩, ⟨by repeat (first | (with_reducible first | exact HB.out | apply below_alloc | apply pw_below_drewN | apply below_drew1 | refine below_set ?_ GE266.out | refine below_set ?_ GE267.out | refine below_set ?_ GE268.out | refine below_set ?_ GE269.out | refine below_set ?_ GE271.out) | exact HB.out)⟩⟩
     ·rw [if_neg c18] at H
      exact absurd H (by simp)
    ·rw [if_neg c17] at H
     exact absurd H (by simp)
   ·rw [if_neg c16] at H
    have c16b0 : decide (x21_1 < (l1_2.length : Int)) = false := decide_eq_false c16
    clear c16
    by_cases c54 : a0_2 = 0
    ·rw [if_pos c54] at H
     exact absurd H (by simp)
    ·rw [if_neg c54] at H
     have c54b0 : (a0_2 == 0) = false := beq_eq_false_iff_ne.mpr c54
     have c54b1 : (a0_2 != 0) = true := bne_iff_ne.mpr c54
     by_cases c55 : (Int.tmod a1_1 a0_2) = 0
     ·rw [if_pos c55] at H
      have c55b0 : ((Int.tmod a1_1 a0_2) == 0) = true := beq_iff_eq.mpr c55
      have c55b1 : ((Int.tmod a1_1 a0_2) != 0) = false := bne_eq_false_iff_eq.mpr c55
      clear c55
      have H' := Aside0.mk H
      clear H
      have hnb56 := NB267_266.out
      have hnc56 := NB266_267.out
      have hnb57 := NB267_268.out
      have hnc57 := NB268_267.out
      have hnb58 := NB267_269.out
      have hnc58 := NB269_267.out
      have hcz59_0 := cz BK267 0 (.int .i64 a1_0)
      have hcz59_1 := cz BK267 1 (.int .i64 a1_1)
      have hcz59_2 := cz BK267 2 (.slice A1_2 l1_2.length c1_2)
      have hfz59_0 := fz BK267 0
      have hfz59_1 := fz BK267 1
      have hfz59_2 := fz BK267 2
      have hnb60 := NB266_268.out
      have hnc60 := NB268_266.out
      have hnb61 := NB266_269.out
      have hnc61 := NB269_266.out
      have hcz62_0 := cz BK266 0 (.int .i64 a0_0)
      have hcz62_1 := cz BK266 1 (.int .i64 a0_1)
      have hcz62_2 := cz BK266 2 (.int .i64 a0_2)
      have hcz62_3 := cz BK266 3 (.int .i64 a0_3)
      have hcz62_4 := cz BK266 4 (.int .i64 a0_4)
      have hcz62_5 := cz BK266 5 (.int .i64 a0_5)
      have hcz62_6 := cz BK266 6 (.int .i64 a0_6)
      have hfz62_0 := fz BK266 0
      have hfz62_1 := fz BK266 1
      have hfz62_2 := fz BK266 2
      have hfz62_3 := fz BK266 3
      have hfz62_4 := fz BK266 4
      have hfz62_5 := fz BK266 5
      have hfz62_6 := fz BK266 6
      go_wp2
      go_loopg [9] k1 (fun kq v9 w' => ∃ (x9_2 : Int) (x270000_2 : Int) (x270002_2 : List (S48)) (u270002 : Value), v9 = .int .i64 x9_2 ∧ Aside0 (impl_Emitter_step.l1 kq x9_2 a0_0 a0_1 a0_2 a0_3 a0_4 a0_5 a0_6 x270000_2 (wrap64 (a1_1 + 1)) x270002_2 = some (r1, r2, r3, r4)) ∧ Aside0 (kq ≤ k1) ∧ Aside0 (Kd.R k48 48 w' w.heap.size (fun _ => True) u270002 x270002_2) ∧ Aside0 (w'.heap[gb266]? = some (.cells #[.int .i64 a0_0, .int .i64 a0_1, .int .i64 a0_2, .int .i64 a0_3, .int .i64 a0_4, .int .i64 a0_5, .int .i64 a0_6] 26 (0, 0))) ∧ Aside0 (w'.heap[gb267]? = some (.cells #[.int .i64 a1_0, .int .i64 a1_1, (.slice A1_2 l1_2.length c1_2)] 35 (0, 0))) ∧ Aside0 (w'.heap[gb268]? = some (.cells #[.int .i64 0, .int .i64 0, (.slice none 0 0)] 35 (0, 0))) ∧ Aside0 (w'.heap[gb269]? = some (.cells #[.int .i64 x270000_2, .int .i64 (wrap64 (a1_1 + 1)), u270002] 35 (0, 0))) ∧ Aside0 (Below w.heap.size w w'))
      case atStart => exact ⟨(0), (a1_0), (x270002_1), (u270002), tE, H', ⟨Nat.le_refl _⟩, ⟨by (with_reducible repeat (first | apply Kd.R_alloc | apply Kd.R_drewN | apply Kd.R_drew)); exact HO_270002.out⟩, ⟨by refine bU ?_; exact BK266.out⟩, ⟨by refine bU ?_; exact BK267.out⟩, ⟨by refine bU ?_; exact BK268.out⟩, ⟨by refine bU ?_; exact BK269.out⟩, ⟨by repeat (first | (with_reducible first | exact HB.out | apply below_alloc | apply pw_below_drewN | apply below_drew1 | refine below_set ?_ GE266.out | refine below_set ?_ GE267.out | refine below_set ?_ GE268.out | refine below_set ?_ GE269.out) | exact HB.out)⟩⟩
      case round =>
       clear H'
       try clear c1
       try clear q1
       try clear c2
       try clear p2
       try clear q2
       try clear hx2
       try clear hf2
       try clear c3
       try clear q3
       try clear hf3
       try clear c4
       try clear q4
       try clear hf4
       try clear c5
       try clear c6
       try clear p6
       try clear c7
       try clear c10
       try clear c11
       try clear c12
       try clear c16
       try clear c16b0
       try clear c17
       try clear c17b0
       try clear c18
       try clear c18b0
       try clear c19
       try clear c19b0
       try clear c20
       try clear c22
       try clear c23
       try clear c24
       try clear c25
       try clear p27
       try clear q27
       try clear hx27
       try clear c34
       try clear c35
       try clear c36
       try clear c37
       try clear c45
       try clear c46
       try clear c47
       try clear c48
       try clear c54
       try clear c54b0
       try clear c54b1
       try clear c55
       try clear c55b0
       try clear c55b1
       try clear c56
       try clear c57
       try clear c58
       try clear c60
       try clear c61
       try clear hcz13_0
       try clear hcz13_1
       try clear hcz13_2
       try clear hcz15_0
       try clear hcz15_1
       try clear hcz15_2
       try clear hcz26_0
       try clear hcz26_1
       try clear hcz26_2
       try clear hcz26_3
       try clear hcz26_4
       try clear hcz28_0
       try clear hcz28_1
       try clear hcz28_2
       try clear hcz28_3
       try clear hcz28_4
       try clear hcz30_0
       try clear hcz30_1
       try clear hcz30_2
       try clear hcz30_3
       try clear hcz30_4
       try clear hcz38_0
       try clear hcz38_1
       try clear hcz38_2
       try clear hcz39_0
       try clear hcz39_1
       try clear hcz39_2
       try clear hcz39_3
       try clear hcz39_4
       try clear hcz42_0
       try clear hcz42_1
       try clear hcz42_2
       try clear hcz49_0
       try clear hcz49_1
       try clear hcz49_2
       try clear hcz49_3
       try clear hcz49_4
       try clear hcz51_0
       try clear hcz51_1
       try clear hcz51_2
       try clear hcz51_3
       try clear hcz51_4
       try clear hcz53_0
       try clear hcz53_1
       try clear hcz53_2
       try clear hcz53_3
       try clear hcz53_4
       try clear hcz59_0
       try clear hcz59_1
       try clear hcz59_2
       try clear hcz62_0
       try clear hcz62_1
       try clear hcz62_2
       try clear hcz62_3
       try clear hcz62_4
       try clear hcz62_5
       try clear hcz62_6
       try clear hcz8_0
       try clear hcz8_1
       try clear hcz8_2
       try clear hfz13_0
       try clear hfz13_1
       try clear hfz13_2
       try clear hfz15_0
       try clear hfz15_1
       try clear hfz15_2
       try clear hfz26_0
       try clear hfz26_1
       try clear hfz26_2
       try clear hfz26_3
       try clear hfz26_4
       try clear hfz28_0
       try clear hfz28_1
       try clear hfz28_2
       try clear hfz28_3
       try clear hfz28_4
       try clear hfz30_0
       try clear hfz30_1
       try clear hfz30_2
       try clear hfz30_3
       try clear hfz30_4
       try clear hfz38_0
       try clear hfz38_1
       try clear hfz38_2
       try clear hfz39_0
       try clear hfz39_1
       try clear hfz39_2
       try clear hfz39_3
       try clear hfz39_4
       try clear hfz42_0
       try clear hfz42_1
       try clear hfz42_2
       try clear hfz49_0
       try clear hfz49_1
       try clear hfz49_2
       try clear hfz49_3
       try clear hfz49_4
       try clear hfz51_0
       try clear hfz51_1
       try clear hfz51_2
       try clear hfz51_3
       try clear hfz51_4
       try clear hfz53_0
       try clear hfz53_1
       try clear hfz53_2
       try clear hfz53_3
       try clear hfz53_4
       try clear hfz59_0
       try clear hfz59_1
       try clear hfz59_2
       try clear hfz62_0
       try clear hfz62_1
       try clear hfz62_2
       try clear hfz62_3
       try clear hfz62_4
       try clear hfz62_5
       try clear hfz62_6
       try clear hfz8_0
       try clear hfz8_1
       try clear hfz8_2
       try clear hx270_0
       try clear hx270_1
       try clear hx270_2
       try clear hx270_3
       try clear hx270_4
       try clear p2
       try clear p270
       try clear p6
       try clear q1
       try clear q2
       try clear q270
       obtain ⟨x9_2, x270000_2, x270002_2, u270002, rfl, HA, HK2, HO_270002, BK266, BK267, BK268, BK269, HB⟩ := hrel
       cases gk with
       | zero => exact absurd HA.out (by simp [impl_Emitter_step.l1])
       | succ k2 =>
        have H := HA.out
        clear HA
        simp only [impl_Emitter_step.l1] at H
        by_cases c63 : x9_2 < a0_3
        ·rw [if_pos c63] at H
         have c63b0 : decide (x9_2 < a0_3) = true := decide_eq_true c63
         clear c63
         by_cases c64 : (x270002_2.length : Int) < 60
         ·rw [if_pos c64] at H
          have c64b0 : decide ((x270002_2.length : Int) < 60) = true := decide_eq_true c64
          have c64b1 : decide (x270002_2.length < 60) = true := decide_eq_true (by omega)
          clear c64
          replace H := Option.bind_eq_some_iff.mp H
          obtain ⟨⟨t275, t276, t277, t278, t279, t280⟩, A650, H⟩ := H
          replace H : (if x270002_2.length < 3518437208883 then (impl_Emitter_step.l1 k2 (wrap64 (x9_2 + 1)) a0_0 a0_1 a0_2 a0_3 a0_4 a0_5 a0_6 t280 (wrap64 (a1_1 + 1)) (x270002_2 ++ [(⟨t275, t276, t277, t278, t279⟩ : S48)])) else (none)) = some (r1, r2, r3, r4) := H
          have A65 := Aside0.mk A650
          clear A650
          by_cases c66 : x270002_2.length < 3518437208883
          ·rw [if_pos c66] at H
           have LMc66 := Aside0.mk c66
           clear c66
           obtain ⟨y282, hy282⟩ : ∃ y_ : List (S48), y_ = (x270002_2 ++ [(⟨t275, t276, t277, t278, t279⟩ : S48)]) := ⟨_, rfl⟩
           replace H : (impl_Emitter_step.l1 k2 (wrap64 (x9_2 + 1)) a0_0 a0_1 a0_2 a0_3 a0_4 a0_5 a0_6 t280 (wrap64 (a1_1 + 1)) y282) = some (r1, r2, r3, r4) := by first | (rw [hy282]; with_reducible exact H) | (have H2_ := (Option.bind_some _ _).symm.trans H; rw [hy282]; with_reducible exact H2_) | (have H2_ := (Option.bind_some _ _).symm.trans H; with_reducible exact H2_) | with_reducible exact H | (rw [hy282]; exact H) | exact H
           have Ny282 := Aside0.mk hy282
           clear hy282
           have H' := Aside0.mk H
           clear H
           have hnb67 := NB266_267.out
           have hnc67 := NB267_266.out
           have hnb68 := NB266_268.out
           have hnc68 := NB268_266.out
           have hnb69 := NB266_269.out
           have hnc69 := NB269_266.out
           have hcz70_0 := cz BK266 0 (.int .i64 a0_0)
           have hcz70_1 := cz BK266 1 (.int .i64 a0_1)
           have hcz70_2 := cz BK266 2 (.int .i64 a0_2)
           have hcz70_3 := cz BK266 3 (.int .i64 a0_3)
           have hcz70_4 := cz BK266 4 (.int .i64 a0_4)
           have hcz70_5 := cz BK266 5 (.int .i64 a0_5)
           have hcz70_6 := cz BK266 6 (.int .i64 a0_6)
           have hfz70_0 := fz BK266 0
           have hfz70_1 := fz BK266 1
           have hfz70_2 := fz BK266 2
           have hfz70_3 := fz BK266 3
           have hfz70_4 := fz BK266 4
           have hfz70_5 := fz BK266 5
           have hfz70_6 := fz BK266 6
           have hnb71 := NB269_267.out
           have hnc71 := NB267_269.out
           have hnb72 := NB269_268.out
           have hnc72 := NB268_269.out
           have hcz73_0 := cz BK269 0 (.int .i64 x270000_2)
           have hcz73_1 := cz BK269 1 (.int .i64 (wrap64 (a1_1 + 1)))
           have hcz73_2 := cz BK269 2 (u270002)
           have hfz73_0 := fz BK269 0
           have hfz73_1 := fz BK269 1
           have hfz73_2 := fz BK269 2
           obtain ⟨Ao74, co74, eo74⟩ := Kd.R_slice HO_270002.out
           subst eo74
           go_wp2_with (first | ((with_reducible refine gate_callee (f := 49) rfl ?_); refine goesL_ (some 79) rfl rfl Try.func49 (by kernel_rfl) rfl #[.agg #[.int .i64 a0_0, .int .i64 a0_1, .int .i64 a0_2, .int .i64 a0_3, .int .i64 a0_4, .int .i64 a0_5, .int .i64 a0_6], .int .i64 x270000_2] rfl aE ?_; (with_reducible refine (impl_Emitter_born.calls k2 a0_0 a0_1 a0_2 a0_3 a0_4 a0_5 a0_6 x270000_2 t275 t276 t277 t278 t279 t280 _ A65.out).mono ?_); rintro e w75 ⟨rfl, hb⟩; refine ⟨_, rfl, ?_⟩; replace HO_270002 := Aside0.mk (Kd.R_below (rU HO_270002.out) hb); replace BK266 := bB (bV BK266) hb; replace BK267 := bB (bV BK267) hb; replace BK268 := bB (bV BK268) hb; replace BK269 := bB (bV BK269) hb; replace HB := bH (lV4 GE266 GE267 GE268 GE269) hb; (try clear hb)) | ((with_reducible refine gate_dst (N := 10) rfl ?_); (try (refine gate_guard (by rfl) ?_; dsimp only)); refine box_event rfl (N := 10) rfl (cs := #[.int .i64 0, .int .i64 0, .int .i64 0, .int .i64 0, .int .i64 0]) (t := 48) sE ?_; intro gb281 hg w76 hbox hb; replace HO_270002 := Aside0.mk (Kd.R_below (Kd.R_elderB (rU HO_270002.out) gb281 (Nat.le_of_eq hg.symm)) hb); have BK281 := Aside0.mk hbox; have GW281 := gS w hg (lV4 GE266 GE267 GE268 GE269); have GE281 := gS w hg (lV4 GE266 GE267 GE268 GE269); replace HB := bH (lV4 GE266 GE267 GE268 GE269) hb; have NB266_281 := nL hg (bV BK266); have NB281_266 := nG hg (bV BK266); replace BK266 := bB (bV BK266) hb; have NB267_281 := nL hg (bV BK267); have NB281_267 := nG hg (bV BK267); replace BK267 := bB (bV BK267) hb; have NB268_281 := nL hg (bV BK268); have NB281_268 := nG hg (bV BK268); replace BK268 := bB (bV BK268) hb; have NB269_281 := nL hg (bV BK269); have NB281_269 := nG hg (bV BK269); replace BK269 := bB (bV BK269) hb; clear hb hbox hg; have hnb77 := NB281_266.out; have hnc77 := NB266_281.out; have hnb78 := NB281_267.out; have hnc78 := NB267_281.out; have hnb79 := NB281_268.out; have hnc79 := NB268_281.out; have hnb80 := NB281_269.out; have hnc80 := NB269_281.out; have hcz81_0 := cz BK281 0 (.int .i64 0); have hcz81_1 := cz BK281 1 (.int .i64 0); have hcz81_2 := cz BK281 2 (.int .i64 0); have hcz81_3 := cz BK281 3 (.int .i64 0); have hcz81_4 := cz BK281 4 (.int .i64 0); have hfz81_0 := fz BK281 0; have hfz81_1 := fz BK281 1; have hfz81_2 := fz BK281 2; have hfz81_3 := fz BK281 3; have hfz81_4 := fz BK281 4) | ((with_reducible refine gate_store (t := 48) (p := 10) rfl ?_); refine store_event (t := 48) (p := 10) (v := ?vo_w82) (w1 := (((((w76.setCell ⟨gb281, 0, none⟩ (.int .i64 t275)).setCell ⟨gb281, 1, none⟩ (.int .i64 t276)).setCell ⟨gb281, 2, none⟩ (.int .i64 t277)).setCell ⟨gb281, 3, none⟩ (.int .i64 t278)).setCell ⟨gb281, 4, none⟩ (.int .i64 t279))) ?hg ?ho ?hn ?hr ?_; (case ho => rfl); (case hg => rfl); (case hn => rfl); (case hr => first | (go_simp; done) | (go_simp; rfl) | (have hq0_ := (blk_cell BK281.out 0).trans (show _ = some _ from rfl); have hf0_ := blk_frozen BK281.out 0; have hq1_ := (blk_cell BK281.out 1).trans (show _ = some _ from rfl); have hf1_ := blk_frozen BK281.out 1; have hq2_ := (blk_cell BK281.out 2).trans (show _ = some _ from rfl); have hf2_ := blk_frozen BK281.out 2; have hq3_ := (blk_cell BK281.out 3).trans (show _ = some _ from rfl); have hf3_ := blk_frozen BK281.out 3; have hq4_ := (blk_cell BK281.out 4).trans (show _ = some _ from rfl); have hf4_ := blk_frozen BK281.out 4; first | (go_simp; done) | (go_simp; rfl))); intro w82 hw; replace HO_270002 : Aside0 (Kd.R k48 48 w82 w.heap.size (fun k_ => k_ ≠ gb281) (.slice Ao74 x270002_2.length co74) x270002_2) := ⟨(by rw [hw]; exact (by (with_reducible repeat (first | apply Kd.R_alloc | apply Kd.R_drewN | apply Kd.R_drew)); exact Kd.R_mono (Kd.R_far (p := ⟨gb281, 4, none⟩) (Kd.R_far (p := ⟨gb281, 3, none⟩) (Kd.R_far (p := ⟨gb281, 2, none⟩) (Kd.R_far (p := ⟨gb281, 1, none⟩) (Kd.R_far (p := ⟨gb281, 0, none⟩) (Kd.R_mono HO_270002.out (fun k_ hk => (⟨hk, hk.2⟩ : _ ∧ k_ ≠ gb281))) (fun _ hk => hk.2) (.int .i64 t275)) (fun _ hk => hk.2) (.int .i64 t276)) (fun _ hk => hk.2) (.int .i64 t277)) (fun _ hk => hk.2) (.int .i64 t278)) (fun _ hk => hk.2) (.int .i64 t279)) (fun _ hk => hk.1.2)))⟩; replace BK266 : Aside0 (w82.heap[gb266]? = some (.cells #[.int .i64 a0_0, .int .i64 a0_1, .int .i64 a0_2, .int .i64 a0_3, .int .i64 a0_4, .int .i64 a0_5, .int .i64 a0_6] 26 (0, 0))) := ⟨(by rw [hw]; exact (bG NB266_281 BK266))⟩; replace BK267 : Aside0 (w82.heap[gb267]? = some (.cells #[.int .i64 a1_0, .int .i64 a1_1, .slice A1_2 l1_2.length c1_2] 35 (0, 0))) := ⟨(by rw [hw]; exact (bG NB267_281 BK267))⟩; replace BK268 : Aside0 (w82.heap[gb268]? = some (.cells #[.int .i64 0, .int .i64 0, .slice none 0 0] 35 (0, 0))) := ⟨(by rw [hw]; exact (bG NB268_281 BK268))⟩; replace BK269 : Aside0 (w82.heap[gb269]? = some (.cells #[.int .i64 x270000_2, .int .i64 (wrap64 (a1_1 + 1)), .slice Ao74 x270002_2.length co74] 35 (0, 0))) := ⟨(by rw [hw]; exact (bG NB269_281 BK269))⟩; replace BK281 : Aside0 (w82.heap[gb281]? = some (.cells #[.int .i64 t275, .int .i64 t276, .int .i64 t277, .int .i64 t278, .int .i64 t279] 48 (0, 0))) := ⟨(by rw [hw]; exact (by refine bU ?_; refine blk_put (cs := #[.int .i64 t275, .int .i64 t276, .int .i64 t277, .int .i64 t278, .int .i64 0]) ?_ 4 _ rfl; refine bU ?_; refine blk_put (cs := #[.int .i64 t275, .int .i64 t276, .int .i64 t277, .int .i64 0, .int .i64 0]) ?_ 3 _ rfl; refine bU ?_; refine blk_put (cs := #[.int .i64 t275, .int .i64 t276, .int .i64 0, .int .i64 0, .int .i64 0]) ?_ 2 _ rfl; refine bU ?_; refine blk_put (cs := #[.int .i64 t275, .int .i64 0, .int .i64 0, .int .i64 0, .int .i64 0]) ?_ 1 _ rfl; refine bU ?_; refine blk_put (cs := #[.int .i64 0, .int .i64 0, .int .i64 0, .int .i64 0, .int .i64 0]) ?_ 0 _ rfl; refine bU ?_; exact BK281.out))⟩; replace HB : Aside0 (Below w.heap.size w w82) := ⟨(by rw [hw]; exact (lV5 GE266 GE267 GE268 GE269 GE281))⟩; clear hw; have hcz83_0 := cz BK269 0 (.int .i64 x270000_2); have hcz83_1 := cz BK269 1 (.int .i64 (wrap64 (a1_1 + 1))); have hcz83_2 := cz BK269 2 (.slice Ao74 x270002_2.length co74); have hfz83_0 := fz BK269 0; have hfz83_1 := fz BK269 1; have hfz83_2 := fz BK269 2; have hcz84_0 := cz BK281 0 (.int .i64 t275); have hcz84_1 := cz BK281 1 (.int .i64 t276); have hcz84_2 := cz BK281 2 (.int .i64 t277); have hcz84_3 := cz BK281 3 (.int .i64 t278); have hcz84_4 := cz BK281 4 (.int .i64 t279); have hfz84_0 := fz BK281 0; have hfz84_1 := fz BK281 1; have hfz84_2 := fz BK281 2; have hfz84_3 := fz BK281 3; have hfz84_4 := fz BK281 4) | ((with_reducible refine gate_builtin (b := .append) (xs := #[.tmp 84, .tmp 86]) rfl ?_); (try (refine gate_guard (by rfl) ?_; dsimp only)); at_builtin; refine Kd.R_append k48 (w0 := w) w.heap.size rfl (.tmp 84) (.tmp 86) 33 48 (.agg #[(.int .i64 0), (.int .i64 0), (.int .i64 0), (.int .i64 0), (.int .i64 0)]) 40 rfl Try.underlying33 info48 rfl (by decide) (by omega) (.slice Ao74 x270002_2.length co74) x270002_2 (⟨t275, t276, t277, t278, t279⟩ : S48) [.int .i64 t275, .int .i64 t276, .int .i64 t277, .int .i64 t278, .int .i64 t279] (fun k_ => k_ ≠ gb281) (fun _ => False) rfl rfl ?aP (fun _ hk => hk.elim) ?aF ?aO ?aB ?aS ?aL ?_; (case aP => exact k48_mkM _ _ _ (⟨t275, t276, t277, t278, t279⟩ : S48)); (case aB => exact (lV5 GE266 GE267 GE268 GE269 GE281)); (case aF => exact (fun k_ hk => Kd.freshB (g := gb281) (o := .cells #[.int .i64 t275, .int .i64 t276, .int .i64 t277, .int .i64 t278, .int .i64 t279] 48 (0, 0)) (bV BK281) k_ hk)); (case aO => exact (rU HO_270002.out)); (case aS => exact (below_size (lV5 GE266 GE267 GE268 GE269 GE281))); (case aL => have := LMc66.out; omega); intro v283 w85 ho hb hg hat; rw [← Ny282.out] at ho; replace BK266 := Aside0.mk (blk_grown (g := gb266) (o := .cells #[.int .i64 a0_0, .int .i64 a0_1, .int .i64 a0_2, .int .i64 a0_3, .int .i64 a0_4, .int .i64 a0_5, .int .i64 a0_6] 26 (0, 0)) (bV BK266) hg (Kd.R_ne HO_270002.out BK266.out (by decide))); replace BK267 := Aside0.mk (blk_grown (g := gb267) (o := .cells #[.int .i64 a1_0, .int .i64 a1_1, .slice A1_2 l1_2.length c1_2] 35 (0, 0)) (bV BK267) hg (Kd.R_ne HO_270002.out BK267.out (by decide))); replace BK268 := Aside0.mk (blk_grown (g := gb268) (o := .cells #[.int .i64 0, .int .i64 0, .slice none 0 0] 35 (0, 0)) (bV BK268) hg (Kd.R_ne HO_270002.out BK268.out (by decide))); replace BK269 := Aside0.mk (blk_grown (g := gb269) (o := .cells #[.int .i64 x270000_2, .int .i64 (wrap64 (a1_1 + 1)), .slice Ao74 x270002_2.length co74] 35 (0, 0)) (bV BK269) hg (Kd.R_ne HO_270002.out BK269.out (by decide))); replace BK281 := Aside0.mk (blk_grown (g := gb281) (o := .cells #[.int .i64 t275, .int .i64 t276, .int .i64 t277, .int .i64 t278, .int .i64 t279] 48 (0, 0)) (bV BK281) hg (Kd.R_away HO_270002.out (fun _ hk => hk))); replace HB := Aside0.mk hb; have HO284 := Aside0.mk ho; clear HO_270002; clear ho hb hg hat; have hcz86_0 := cz BK269 0 (.int .i64 x270000_2); have hcz86_1 := cz BK269 1 (.int .i64 (wrap64 (a1_1 + 1))); have hcz86_2 := cz BK269 2 (.slice Ao74 x270002_2.length co74); have hfz86_0 := fz BK269 0; have hfz86_1 := fz BK269 1; have hfz86_2 := fz BK269 2) | ((with_reducible refine gate_store (t := 3) (p := 88) rfl ?_); refine store_event (t := 3) (p := 88) (v := ?vo_w87) (w1 := (w85.setCell ⟨gb269, 0, none⟩ (.int .i64 t280))) ?hg ?ho ?hn ?hr ?_; (case ho => rfl); (case hg => rfl); (case hn => rfl); (case hr => first | (go_simp; done) | (go_simp; rfl) | (have hq0_ := (blk_cell BK269.out 0).trans (show _ = some _ from rfl); have hf0_ := blk_frozen BK269.out 0; first | (go_simp; done) | (go_simp; rfl))); intro w87 hw; replace HO284 : Aside0 (Kd.R k48 48 w87 w.heap.size (fun k_ => k_ ≠ gb281) v283 y282) := ⟨(by rw [hw]; exact (by (with_reducible repeat (first | apply Kd.R_alloc | apply Kd.R_drewN | apply Kd.R_drew)); exact Kd.R_mono (Kd.R_far (p := ⟨gb269, 0, none⟩) (Kd.R_types HO284.out BK269.out (by decide)) (fun _ hk => hk.2) (.int .i64 t280)) (fun _ hk => hk.1)))⟩; replace BK266 : Aside0 (w87.heap[gb266]? = some (.cells #[.int .i64 a0_0, .int .i64 a0_1, .int .i64 a0_2, .int .i64 a0_3, .int .i64 a0_4, .int .i64 a0_5, .int .i64 a0_6] 26 (0, 0))) := ⟨(by rw [hw]; exact (bG NB266_269 BK266))⟩; replace BK267 : Aside0 (w87.heap[gb267]? = some (.cells #[.int .i64 a1_0, .int .i64 a1_1, .slice A1_2 l1_2.length c1_2] 35 (0, 0))) := ⟨(by rw [hw]; exact (bG NB267_269 BK267))⟩; replace BK268 : Aside0 (w87.heap[gb268]? = some (.cells #[.int .i64 0, .int .i64 0, .slice none 0 0] 35 (0, 0))) := ⟨(by rw [hw]; exact (bG NB268_269 BK268))⟩; replace BK269 : Aside0 (w87.heap[gb269]? = some (.cells #[.int .i64 t280, .int .i64 (wrap64 (a1_1 + 1)), .slice Ao74 x270002_2.length co74] 35 (0, 0))) := ⟨(by rw [hw]; exact (by refine bU ?_; refine blk_put (cs := #[.int .i64 x270000_2, .int .i64 (wrap64 (a1_1 + 1)), .slice Ao74 x270002_2.length co74]) ?_ 0 _ rfl; refine bU ?_; exact BK269.out))⟩; replace BK281 : Aside0 (w87.heap[gb281]? = some (.cells #[.int .i64 t275, .int .i64 t276, .int .i64 t277, .int .i64 t278, .int .i64 t279] 48 (0, 0))) := ⟨(by rw [hw]; exact (bG NB281_269 BK281))⟩; replace HB : Aside0 (Below w.heap.size w w87) := ⟨(by rw [hw]; exact (lV5 GE266 GE267 GE268 GE269 GE281))⟩; clear hw; obtain ⟨Ao88, co88, eo88⟩ := Kd.R_slice HO284.out; subst eo88; have hcz89_0 := cz BK269 0 (.int .i64 t280); have hcz89_1 := cz BK269 1 (.int .i64 (wrap64 (a1_1 + 1))); have hcz89_2 := cz BK269 2 (.slice Ao74 x270002_2.length co74); have hfz89_0 := fz BK269 0; have hfz89_1 := fz BK269 1; have hfz89_2 := fz BK269 2) | ((with_reducible refine gate_store (t := 33) (p := 89) rfl ?_); refine store_event (t := 33) (p := 89) (v := ?vo_w90) (w1 := (w87.setCell ⟨gb269, 2, none⟩ (.slice Ao88 y282.length co88))) ?hg ?ho ?hn ?hr ?_; (case ho => rfl); (case hg => rfl); (case hn => rfl); (case hr => first | (go_simp; done) | (go_simp; rfl) | (have hq0_ := (blk_cell BK269.out 2).trans (show _ = some _ from rfl); have hf0_ := blk_frozen BK269.out 2; first | (go_simp; done) | (go_simp; rfl))); intro w90 hw; replace HO284 : Aside0 (Kd.R k48 48 w90 w.heap.size (fun k_ => k_ ≠ gb281) (.slice Ao88 y282.length co88) y282) := ⟨(by rw [hw]; exact (by (with_reducible repeat (first | apply Kd.R_alloc | apply Kd.R_drewN | apply Kd.R_drew)); exact Kd.R_mono (Kd.R_far (p := ⟨gb269, 2, none⟩) (Kd.R_types HO284.out BK269.out (by decide)) (fun _ hk => hk.2) (.slice Ao88 y282.length co88)) (fun _ hk => hk.1)))⟩; replace BK266 : Aside0 (w90.heap[gb266]? = some (.cells #[.int .i64 a0_0, .int .i64 a0_1, .int .i64 a0_2, .int .i64 a0_3, .int .i64 a0_4, .int .i64 a0_5, .int .i64 a0_6] 26 (0, 0))) := ⟨(by rw [hw]; exact (bG NB266_269 BK266))⟩; replace BK267 : Aside0 (w90.heap[gb267]? = some (.cells #[.int .i64 a1_0, .int .i64 a1_1, .slice A1_2 l1_2.length c1_2] 35 (0, 0))) := ⟨(by rw [hw]; exact (bG NB267_269 BK267))⟩; replace BK268 : Aside0 (w90.heap[gb268]? = some (.cells #[.int .i64 0, .int .i64 0, .slice none 0 0] 35 (0, 0))) := ⟨(by rw [hw]; exact (bG NB268_269 BK268))⟩; replace BK269 : Aside0 (w90.heap[gb269]? = some (.cells #[.int .i64 t280, .int .i64 (wrap64 (a1_1 + 1)), .slice Ao88 y282.length co88] 35 (0, 0))) := ⟨(by rw [hw]; exact (by refine bU ?_; refine blk_put (cs := #[.int .i64 t280, .int .i64 (wrap64 (a1_1 + 1)), .slice Ao74 x270002_2.length co74]) ?_ 2 _ rfl; refine bU ?_; exact BK269.out))⟩; replace BK281 : Aside0 (w90.heap[gb281]? = some (.cells #[.int .i64 t275, .int .i64 t276, .int .i64 t277, .int .i64 t278, .int .i64 t279] 48 (0, 0))) := ⟨(by rw [hw]; exact (bG NB281_269 BK281))⟩; replace HB : Aside0 (Below w.heap.size w w90) := ⟨(by rw [hw]; exact (lV5 GE266 GE267 GE268 GE269 GE281))⟩; clear hw))
           go_roundg k2
           case measure => have := HK1.out; have := HK2.out; omega
           case rel => exact ⟨(wrap64 (x9_2 + 1)), (t280), (y282), (.slice Ao88 y282.length co88), tE, H', ⟨by have := HK1.out; have := HK2.out; omega⟩, ⟨by (with_reducible repeat (first | apply Kd.R_alloc | apply Kd.R_drewN | apply Kd.R_drew)); exact Kd.R_mono HO284.out (fun _ hk => trivial)⟩, ⟨by refine bU ?_; exact BK266.out⟩, ⟨by refine bU ?_; exact BK267.out⟩, ⟨by refine bU ?_; exact BK268.out⟩, ⟨by refine bU ?_; exact BK269.out⟩, ⟨by repeat (first | (with_reducible first | exact HB.out | apply below_alloc | apply pw_below_drewN | apply below_drew1 | refine below_set ?_ GE266.out | refine below_set ?_ GE267.out | refine below_set ?_ GE268.out | refine below_set ?_ GE269.out | refine below_set ?_ GE281.out) | exact HB.out)⟩⟩
          ·rw [if_neg c66] at H
           exact absurd H (by simp)
         ·rw [if_neg c64] at H
          have c64b0 : decide ((x270002_2.length : Int) < 60) = false := decide_eq_false c64
          have c64b1 : decide (x270002_2.length < 60) = false := decide_eq_false (by omega)
          clear c64
          replace H := Option.bind_eq_some_iff.mp H
          obtain ⟨t285, A910, H⟩ := H
          replace H : (some (x270000_2, (wrap64 (a1_1 + 1)), x270002_2, t285)) = some (r1, r2, r3, r4) := H
          have A91 := Aside0.mk A910
          clear A910
          simp only [Option.some.injEq, Prod.mk.injEq] at H
          obtain ⟨rfl, rfl, rfl, rfl⟩ := H
          have hnb92 := NB266_267.out
          have hnc92 := NB267_266.out
          have hnb93 := NB266_268.out
          have hnc93 := NB268_266.out
          have hnb94 := NB266_269.out
          have hnc94 := NB269_266.out
          have hcz95_0 := cz BK266 0 (.int .i64 a0_0)
          have hcz95_1 := cz BK266 1 (.int .i64 a0_1)
          have hcz95_2 := cz BK266 2 (.int .i64 a0_2)
          have hcz95_3 := cz BK266 3 (.int .i64 a0_3)
          have hcz95_4 := cz BK266 4 (.int .i64 a0_4)
          have hcz95_5 := cz BK266 5 (.int .i64 a0_5)
          have hcz95_6 := cz BK266 6 (.int .i64 a0_6)
          have hfz95_0 := fz BK266 0
          have hfz95_1 := fz BK266 1
          have hfz95_2 := fz BK266 2
          have hfz95_3 := fz BK266 3
          have hfz95_4 := fz BK266 4
          have hfz95_5 := fz BK266 5
          have hfz95_6 := fz BK266 6
          have hnb96 := NB269_267.out
          have hnc96 := NB267_269.out
          have hnb97 := NB269_268.out
          have hnc97 := NB268_269.out
          have hcz98_0 := cz BK269 0 (.int .i64 x270000_2)
          have hcz98_1 := cz BK269 1 (.int .i64 (wrap64 (a1_1 + 1)))
          have hcz98_2 := cz BK269 2 (u270002)
          have hfz98_0 := fz BK269 0
          have hfz98_1 := fz BK269 1
          have hfz98_2 := fz BK269 2
          obtain ⟨Ao99, co99, eo99⟩ := Kd.R_slice HO_270002.out
          subst eo99
          try go_wp2
          replace HO_270002 := Aside0.mk (Kd.R_drew HO_270002.out)
          replace BK266 := Aside0.mk (blk_drew BK266.out)
          replace BK267 := Aside0.mk (blk_drew BK267.out)
          replace BK268 := Aside0.mk (blk_drew BK268.out)
          replace BK269 := Aside0.mk (blk_drew BK269.out)
          replace HB := Aside0.mk (below_drew1 HB.out)
          refine start_ (n := 5) (S := fun w' => w'.cell? ⟨gb269, 0, none⟩ = some (.int .i64 x270000_2) ∧ w'.cell? ⟨gb269, 1, none⟩ = some (.int .i64 (wrap64 (a1_1 + 1))) ∧ w'.cell? ⟨gb269, 2, none⟩ = some (.slice Ao99 x270002_2.length co99)) (ds := []) #[false, false, false, false, false] (by kernel_rfl) rfl rfl ⟨cz BK269 0 _, cz BK269 1 _, cz BK269 2 _⟩ (fun hHeld => ?_)
          generalize wr.drew = w100 at HO_270002 BK266 BK267 BK268 BK269 HB hHeld ⊢
          refine take_ (i := 0) (N := some 90) (v := ?_) (a' := ?_) (bz 5 1) rfl rfl (by kernel_rfl) (fun _ _ _ h => h) (Or.inl ⟨by rfl, ?_⟩) hHeld ?_ ?_
          rotate_left
          ·rintro w' ⟨s0, s1, s2⟩
           go_simp
           with_reducible rfl
          rotate_left
          ·simp only [Act.put, List.setIfInBounds_toArray, List.set_cons_zero, List.set_cons_succ, i64_w, i32_w]
           rfl
          refine take_ (i := 1) (N := some 91) (v := ?_) (a' := ?_) (bz 5 3) rfl rfl (by kernel_rfl) (fun _ _ _ h => h) (Or.inl ⟨by rfl, ?_⟩) hHeld ?_ ?_
          rotate_left
          ·rintro w' ⟨s0, s1, s2⟩
           go_simp
           with_reducible rfl
          rotate_left
          ·simp only [Act.put, List.setIfInBounds_toArray, List.set_cons_zero, List.set_cons_succ, i64_w, i32_w]
           rfl
          refine one_ (i := 2) (N := some 92) (bz 5 7) rfl rfl (by kernel_rfl) (by decide) (fun K hK => ?_)
          refine goes_ Try.func31 (by kernel_rfl) rfl #[.agg #[.int .i64 x270000_2, .int .i64 (wrap64 (a1_1 + 1)), .slice Ao99 x270002_2.length co99]] (by rfl) rfl rfl aE ?_
          with_reducible refine (impl_GoodCloud.calls k2 x270000_2 (wrap64 (a1_1 + 1)) _ _ x270002_2 t285 _ ?side1 ?side2 A91.out).mono ?_
          (case side1 => exact cU (Kd.R_reads' HO_270002.out).2.2)
          (case side2 => exact (Kd.R_reads' HO_270002.out).2.1)
          rintro e w101 ⟨rfl, hb⟩
          refine ⟨_, rfl, ?_⟩
          replace HO_270002 := Aside0.mk (Kd.R_below (rU HO_270002.out) hb)
          replace BK266 := bB (bV BK266) hb
          replace BK267 := bB (bV BK267) hb
          replace BK268 := bB (bV BK268) hb
          replace BK269 := bB (bV BK269) hb
          replace HB := bH (lV4 GE266 GE267 GE268 GE269) hb
          (try clear hb)
          (try clear hb2)
          (try clear hk)
          (try clear hi)
          refine hK.out _ _ ⟨cz BK269 0 _, cz BK269 1 _, cz BK269 2 _⟩ (fun hHeld => ?_)
          clear hK K
          refine norm_ (a' := ?_) ?_ ?_
          rotate_left
          ·show Act.put _ (some 92) _ = _
           simp only [Act.put, List.setIfInBounds_toArray, List.set_cons_zero, List.set_cons_succ, i64_w, i32_w]
           rfl
          refine one_ (i := 3) (N := none) (bz 5 15) rfl rfl (by kernel_rfl) (by decide) (fun K hK => ?_)
          have hs102 : w101.cell? ⟨gb268, 0, none⟩ = some (.int .i64 0) := (blk_cell BK268.out 0).trans rfl
          have hfs102 := blk_frozen BK268.out 0
          have hns102_0 := NB266_268.out
          have hns102_1 := NB267_268.out
          have hns102_3 := NB269_268.out
          have hms102_0 := NB268_266.out
          have hms102_1 := NB268_267.out
          have hms102_3 := NB268_269.out
          have hs103 : w101.cell? ⟨gb268, 1, none⟩ = some (.int .i64 0) := (blk_cell BK268.out 1).trans rfl
          have hfs103 := blk_frozen BK268.out 1
          have hns103_0 := NB266_268.out
          have hns103_1 := NB267_268.out
          have hns103_3 := NB269_268.out
          have hms103_0 := NB268_266.out
          have hms103_1 := NB268_267.out
          have hms103_3 := NB268_269.out
          have hs104 : w101.cell? ⟨gb268, 2, none⟩ = some (.slice none 0 0) := (blk_cell BK268.out 2).trans rfl
          have hfs104 := blk_frozen BK268.out 2
          have hns104_0 := NB266_268.out
          have hns104_1 := NB267_268.out
          have hns104_3 := NB269_268.out
          have hms104_0 := NB268_266.out
          have hms104_1 := NB268_267.out
          have hms104_3 := NB268_269.out
          refine skip_ (w1 := ?_) (by rfl) rfl ?_ ?_
          rotate_left
          ·go_simp
           rfl
          refine hK.out _ _ ⟨((cell_far (p := ⟨gb268, _, none⟩) NB269_268.out _).trans (((cell_far (p := ⟨gb268, _, none⟩) NB269_268.out _).trans (((cell_far (p := ⟨gb268, _, none⟩) NB269_268.out _).trans (hHeld.1)))))), ((cell_far (p := ⟨gb268, _, none⟩) NB269_268.out _).trans (((cell_far (p := ⟨gb268, _, none⟩) NB269_268.out _).trans (((cell_far (p := ⟨gb268, _, none⟩) NB269_268.out _).trans (hHeld.2.1)))))), ((cell_far (p := ⟨gb268, _, none⟩) NB269_268.out _).trans (((cell_far (p := ⟨gb268, _, none⟩) NB269_268.out _).trans (((cell_far (p := ⟨gb268, _, none⟩) NB269_268.out _).trans (hHeld.2.2))))))⟩ (fun hHeld => ?_)
          clear hK K
          refine pure_ (i := 4) (N := some 5) (v := ?_) (a' := ?_) (bz 5 31) rfl rfl (by kernel_rfl) (fun _ _ _ h => h) (Or.inl ⟨by rfl, ?_⟩) ?_ ?_
          rotate_left
          ·intro w'
           go_simp
           with_reducible rfl
          rotate_left
          ·simp only [Act.put, List.setIfInBounds_toArray, List.set_cons_zero, List.set_cons_succ, i64_w, i32_w]
           rfl
          refine done_ (by kernel_rfl) ?_
          try go_wp2
          refine bodyPost_ret (results_ct rfl _ _ gb268 35 #[.int .i64 x270000_2, .int .i64 (wrap64 (a1_1 + 1)), .slice Ao99 x270002_2.length co99] (0, 0) _ rfl (by refine bU ?_; refine blk_put (cs := #[.int .i64 x270000_2, .int .i64 (wrap64 (a1_1 + 1)), .slice none 0 0]) ?_ 2 _ rfl; refine bU ?_; refine blk_put (cs := #[.int .i64 x270000_2, .int .i64 0, .slice none 0 0]) ?_ 1 _ rfl; refine bU ?_; refine blk_put (cs := #[.int .i64 0, .int .i64 0, .slice none 0 0]) ?_ 0 _ rfl; refine bU ?_; exact BK268.out) Try.underlying35 rfl (by kernel_rfl)) rfl ?_
          exact ⟨_, eE, by (with_reducible repeat (first | apply Kd.R_alloc | apply Kd.R_drewN | apply Kd.R_drew)); exact Kd.R_mono (Kd.R_far (p := ⟨gb268, 2, none⟩) (Kd.R_far (p := ⟨gb268, 1, none⟩) (Kd.R_far (p := ⟨gb268, 0, none⟩) (Kd.R_types HO_270002.out BK268.out (by decide)) (fun _ hk => hk.2) (.int .i64 x270000_2)) (fun _ hk => hk.2) (.int .i64 (wrap64 (a1_1 + 1)))) (fun _ hk => hk.2) (.slice Ao99 x270002_2.length co99)) (fun _ hk => trivial), lV4 GE266 GE267 GE268 GE269⟩
        ·rw [if_neg c63] at H
         have c63b0 : decide (x9_2 < a0_3) = false := decide_eq_false c63
         clear c63
         replace H := Option.bind_eq_some_iff.mp H
         obtain ⟨t286, A1050, H⟩ := H
         replace H : (some (x270000_2, (wrap64 (a1_1 + 1)), x270002_2, t286)) = some (r1, r2, r3, r4) := H
         have A105 := Aside0.mk A1050
         clear A1050
         simp only [Option.some.injEq, Prod.mk.injEq] at H
         obtain ⟨rfl, rfl, rfl, rfl⟩ := H
         have hnb106 := NB266_267.out
         have hnc106 := NB267_266.out
         have hnb107 := NB266_268.out
         have hnc107 := NB268_266.out
         have hnb108 := NB266_269.out
         have hnc108 := NB269_266.out
         have hcz109_0 := cz BK266 0 (.int .i64 a0_0)
         have hcz109_1 := cz BK266 1 (.int .i64 a0_1)
         have hcz109_2 := cz BK266 2 (.int .i64 a0_2)
         have hcz109_3 := cz BK266 3 (.int .i64 a0_3)
         have hcz109_4 := cz BK266 4 (.int .i64 a0_4)
         have hcz109_5 := cz BK266 5 (.int .i64 a0_5)
         have hcz109_6 := cz BK266 6 (.int .i64 a0_6)
         have hfz109_0 := fz BK266 0
         have hfz109_1 := fz BK266 1
         have hfz109_2 := fz BK266 2
         have hfz109_3 := fz BK266 3
         have hfz109_4 := fz BK266 4
         have hfz109_5 := fz BK266 5
         have hfz109_6 := fz BK266 6
         try go_wp2
         replace HO_270002 := Aside0.mk (Kd.R_drew HO_270002.out)
         replace BK266 := Aside0.mk (blk_drew BK266.out)
         replace BK267 := Aside0.mk (blk_drew BK267.out)
         replace BK268 := Aside0.mk (blk_drew BK268.out)
         replace BK269 := Aside0.mk (blk_drew BK269.out)
         replace HB := Aside0.mk (below_drew1 HB.out)
         obtain ⟨Ao111, co111, eo111⟩ := Kd.R_slice HO_270002.out
         (first | subst eo111 | (injection eo111 with f1_ f2_ f3_; have f4_ := f1_.symm; have f5_ := f3_.symm; clear f1_ f2_ f3_; subst f4_; subst f5_))
         refine start_ (n := 5) (S := fun w' => w'.cell? ⟨gb269, 0, none⟩ = some (.int .i64 x270000_2) ∧ w'.cell? ⟨gb269, 1, none⟩ = some (.int .i64 (wrap64 (a1_1 + 1))) ∧ w'.cell? ⟨gb269, 2, none⟩ = some (.slice Ao111 x270002_2.length co111)) (ds := []) #[false, false, false, false, false] (by kernel_rfl) rfl rfl ⟨cz BK269 0 _, cz BK269 1 _, cz BK269 2 _⟩ (fun hHeld => ?_)
         generalize wr.drew = w110 at HO_270002 BK266 BK267 BK268 BK269 HB hHeld ⊢
         refine take_ (i := 0) (N := some 90) (v := ?_) (a' := ?_) (bz 5 1) rfl rfl (by kernel_rfl) (fun _ _ _ h => h) (Or.inl ⟨by rfl, ?_⟩) hHeld ?_ ?_
         rotate_left
         ·rintro w' ⟨s0, s1, s2⟩
          go_simp
          with_reducible rfl
         rotate_left
         ·simp only [Act.put, List.setIfInBounds_toArray, List.set_cons_zero, List.set_cons_succ, i64_w, i32_w]
          rfl
         refine take_ (i := 1) (N := some 91) (v := ?_) (a' := ?_) (bz 5 3) rfl rfl (by kernel_rfl) (fun _ _ _ h => h) (Or.inl ⟨by rfl, ?_⟩) hHeld ?_ ?_
         rotate_left
         ·rintro w' ⟨s0, s1, s2⟩
          go_simp
          with_reducible rfl
         rotate_left
         ·simp only [Act.put, List.setIfInBounds_toArray, List.set_cons_zero, List.set_cons_succ, i64_w, i32_w]
          rfl
         refine one_ (i := 2) (N := some 92) (bz 5 7) rfl rfl (by kernel_rfl) (by decide) (fun K hK => ?_)
         refine goes_ Try.func31 (by kernel_rfl) rfl #[.agg #[.int .i64 x270000_2, .int .i64 (wrap64 (a1_1 + 1)), .slice Ao111 x270002_2.length co111]] (by rfl) rfl rfl aE ?_
         with_reducible refine (impl_GoodCloud.calls k2 x270000_2 (wrap64 (a1_1 + 1)) _ _ x270002_2 t286 _ ?side1 ?side2 A105.out).mono ?_
         (case side1 => exact cU (Kd.R_reads' HO_270002.out).2.2)
         (case side2 => exact (Kd.R_reads' HO_270002.out).2.1)
         rintro e w112 ⟨rfl, hb⟩
         refine ⟨_, rfl, ?_⟩
         replace HO_270002 := Aside0.mk (Kd.R_below (rU HO_270002.out) hb)
         replace BK266 := bB (bV BK266) hb
         replace BK267 := bB (bV BK267) hb
         replace BK268 := bB (bV BK268) hb
         replace BK269 := bB (bV BK269) hb
         replace HB := bH (lV4 GE266 GE267 GE268 GE269) hb
         (try clear hb)
         (try clear hb2)
         (try clear hk)
         (try clear hi)
         refine hK.out _ _ ⟨cz BK269 0 _, cz BK269 1 _, cz BK269 2 _⟩ (fun hHeld => ?_)
         clear hK K
         refine norm_ (a' := ?_) ?_ ?_
         rotate_left
         ·show Act.put _ (some 92) _ = _
          simp only [Act.put, List.setIfInBounds_toArray, List.set_cons_zero, List.set_cons_succ, i64_w, i32_w]
          rfl
         refine one_ (i := 3) (N := none) (bz 5 15) rfl rfl (by kernel_rfl) (by decide) (fun K hK => ?_)
         have hs113 : w112.cell? ⟨gb268, 0, none⟩ = some (.int .i64 0) := (blk_cell BK268.out 0).trans rfl
         have hfs113 := blk_frozen BK268.out 0
         have hns113_0 := NB266_268.out
         have hns113_1 := NB267_268.out
         have hns113_3 := NB269_268.out
         have hms113_0 := NB268_266.out
         have hms113_1 := NB268_267.out
         have hms113_3 := NB268_269.out
         have hs114 : w112.cell? ⟨gb268, 1, none⟩ = some (.int .i64 0) := (blk_cell BK268.out 1).trans rfl
         have hfs114 := blk_frozen BK268.out 1
         have hns114_0 := NB266_268.out
         have hns114_1 := NB267_268.out
         have hns114_3 := NB269_268.out
         have hms114_0 := NB268_266.out
         have hms114_1 := NB268_267.out
         have hms114_3 := NB268_269.out
         have hs115 : w112.cell? ⟨gb268, 2, none⟩ = some (.slice none 0 0) := (blk_cell BK268.out 2).trans rfl
         have hfs115 := blk_frozen BK268.out 2
         have hns115_0 := NB266_268.out
         have hns115_1 := NB267_268.out
         have hns115_3 := NB269_268.out
         have hms115_0 := NB268_266.out
         have hms115_1 := NB268_267.out
         have hms115_3 := NB268_269.out
         refine skip_ (w1 := ?_) (by rfl) rfl ?_ ?_
         rotate_left
         ·go_simp
          rfl
         refine hK.out _ _ ⟨((cell_far (p := ⟨gb268, _, none⟩) NB269_268.out _).trans (((cell_far (p := ⟨gb268, _, none⟩) NB269_268.out _).trans (((cell_far (p := ⟨gb268, _, none⟩) NB269_268.out _).trans (hHeld.1)))))), ((cell_far (p := ⟨gb268, _, none⟩) NB269_268.out _).trans (((cell_far (p := ⟨gb268, _, none⟩) NB269_268.out _).trans (((cell_far (p := ⟨gb268, _, none⟩) NB269_268.out _).trans (hHeld.2.1)))))), ((cell_far (p := ⟨gb268, _, none⟩) NB269_268.out _).trans (((cell_far (p := ⟨gb268, _, none⟩) NB269_268.out _).trans (((cell_far (p := ⟨gb268, _, none⟩) NB269_268.out _).trans (hHeld.2.2))))))⟩ (fun hHeld => ?_)
         clear hK K
         refine pure_ (i := 4) (N := some 5) (v := ?_) (a' := ?_) (bz 5 31) rfl rfl (by kernel_rfl) (fun _ _ _ h => h) (Or.inl ⟨by rfl, ?_⟩) ?_ ?_
         rotate_left
         ·intro w'
          go_simp
          with_reducible rfl
         rotate_left
         ·simp only [Act.put, List.setIfInBounds_toArray, List.set_cons_zero, List.set_cons_succ, i64_w, i32_w]
          rfl
         refine done_ (by kernel_rfl) ?_
         try go_wp2
         refine bodyPost_ret (results_ct rfl _ _ gb268 35 #[.int .i64 x270000_2, .int .i64 (wrap64 (a1_1 + 1)), .slice Ao111 x270002_2.length co111] (0, 0) _ rfl (by refine bU ?_; refine blk_put (cs := #[.int .i64 x270000_2, .int .i64 (wrap64 (a1_1 + 1)), .slice none 0 0]) ?_ 2 _ rfl; refine bU ?_; refine blk_put (cs := #[.int .i64 x270000_2, .int .i64 0, .slice none 0 0]) ?_ 1 _ rfl; refine bU ?_; refine blk_put (cs := #[.int .i64 0, .int .i64 0, .slice none 0 0]) ?_ 0 _ rfl; refine bU ?_; exact BK268.out) Try.underlying35 rfl (by kernel_rfl)) rfl ?_
         exact ⟨_, eE, by (with_reducible repeat (first | apply Kd.R_alloc | apply Kd.R_drewN | apply Kd.R_drew)); exact Kd.R_mono (Kd.R_far (p := ⟨gb268, 2, none⟩) (Kd.R_far (p := ⟨gb268, 1, none⟩) (Kd.R_far (p := ⟨gb268, 0, none⟩) (Kd.R_types HO_270002.out BK268.out (by decide)) (fun _ hk => hk.2) (.int .i64 x270000_2)) (fun _ hk => hk.2) (.int .i64 (wrap64 (a1_1 + 1)))) (fun _ hk => hk.2) (.slice Ao111 x270002_2.length co111)) (fun _ hk => trivial), lV4 GE266 GE267 GE268 GE269⟩
     ·rw [if_neg c55] at H
      have c55b0 : ((Int.tmod a1_1 a0_2) == 0) = false := beq_eq_false_iff_ne.mpr c55
      have c55b1 : ((Int.tmod a1_1 a0_2) != 0) = true := bne_iff_ne.mpr c55
      replace H := Option.bind_eq_some_iff.mp H
      obtain ⟨t287, A1160, H⟩ := H
      replace H : (some (a1_0, (wrap64 (a1_1 + 1)), x270002_1, t287)) = some (r1, r2, r3, r4) := H
      have A116 := Aside0.mk A1160
      clear A1160
      simp only [Option.some.injEq, Prod.mk.injEq] at H
      obtain ⟨rfl, rfl, rfl, rfl⟩ := H
      have hnb117 := NB267_266.out
      have hnc117 := NB266_267.out
      have hnb118 := NB267_268.out
      have hnc118 := NB268_267.out
      have hnb119 := NB267_269.out
      have hnc119 := NB269_267.out
      have hcz120_0 := cz BK267 0 (.int .i64 a1_0)
      have hcz120_1 := cz BK267 1 (.int .i64 a1_1)
      have hcz120_2 := cz BK267 2 (.slice A1_2 l1_2.length c1_2)
      have hfz120_0 := fz BK267 0
      have hfz120_1 := fz BK267 1
      have hfz120_2 := fz BK267 2
      have hnb121 := NB266_268.out
      have hnc121 := NB268_266.out
      have hnb122 := NB266_269.out
      have hnc122 := NB269_266.out
      have hcz123_0 := cz BK266 0 (.int .i64 a0_0)
      have hcz123_1 := cz BK266 1 (.int .i64 a0_1)
      have hcz123_2 := cz BK266 2 (.int .i64 a0_2)
      have hcz123_3 := cz BK266 3 (.int .i64 a0_3)
      have hcz123_4 := cz BK266 4 (.int .i64 a0_4)
      have hcz123_5 := cz BK266 5 (.int .i64 a0_5)
      have hcz123_6 := cz BK266 6 (.int .i64 a0_6)
      have hfz123_0 := fz BK266 0
      have hfz123_1 := fz BK266 1
      have hfz123_2 := fz BK266 2
      have hfz123_3 := fz BK266 3
      have hfz123_4 := fz BK266 4
      have hfz123_5 := fz BK266 5
      have hfz123_6 := fz BK266 6
      try go_wp2
      replace HO_270002 := Aside0.mk (Kd.R_drew HO_270002.out)
      replace BK266 := Aside0.mk (blk_drew BK266.out)
      replace BK267 := Aside0.mk (blk_drew BK267.out)
      replace BK268 := Aside0.mk (blk_drew BK268.out)
      replace BK269 := Aside0.mk (blk_drew BK269.out)
      replace HB := Aside0.mk (below_drew1 HB.out)
      obtain ⟨Ao125, co125, eo125⟩ := Kd.R_slice HO_270002.out
      (first | subst eo125 | (injection eo125 with f1_ f2_ f3_; have f4_ := f1_.symm; have f5_ := f3_.symm; clear f1_ f2_ f3_; subst f4_; subst f5_))
      refine start_ (n := 5) (S := fun w' => w'.cell? ⟨gb269, 0, none⟩ = some (.int .i64 a1_0) ∧ w'.cell? ⟨gb269, 1, none⟩ = some (.int .i64 (wrap64 (a1_1 + 1))) ∧ w'.cell? ⟨gb269, 2, none⟩ = some (.slice Ao125 x270002_1.length co125)) (ds := []) #[false, false, false, false, false] (by kernel_rfl) rfl rfl ⟨cz BK269 0 _, cz BK269 1 _, cz BK269 2 _⟩ (fun hHeld => ?_)
      generalize wr.drew = w124 at HO_270002 BK266 BK267 BK268 BK269 HB hHeld ⊢
      refine take_ (i := 0) (N := some 90) (v := ?_) (a' := ?_) (bz 5 1) rfl rfl (by kernel_rfl) (fun _ _ _ h => h) (Or.inl ⟨by rfl, ?_⟩) hHeld ?_ ?_
      rotate_left
      ·rintro w' ⟨s0, s1, s2⟩
       go_simp
       with_reducible rfl
      rotate_left
      ·simp only [Act.put, List.setIfInBounds_toArray, List.set_cons_zero, List.set_cons_succ, i64_w, i32_w]
       rfl
      refine take_ (i := 1) (N := some 91) (v := ?_) (a' := ?_) (bz 5 3) rfl rfl (by kernel_rfl) (fun _ _ _ h => h) (Or.inl ⟨by rfl, ?_⟩) hHeld ?_ ?_
      rotate_left
      ·rintro w' ⟨s0, s1, s2⟩
       go_simp
       with_reducible rfl
      rotate_left
      ·simp only [Act.put, List.setIfInBounds_toArray, List.set_cons_zero, List.set_cons_succ, i64_w, i32_w]
       rfl
      refine one_ (i := 2) (N := some 92) (bz 5 7) rfl rfl (by kernel_rfl) (by decide) (fun K hK => ?_)
      refine goes_ Try.func31 (by kernel_rfl) rfl #[.agg #[.int .i64 a1_0, .int .i64 (wrap64 (a1_1 + 1)), .slice Ao125 x270002_1.length co125]] (by rfl) rfl rfl aE ?_
      with_reducible refine (impl_GoodCloud.calls k1 a1_0 (wrap64 (a1_1 + 1)) _ _ x270002_1 t287 _ ?side1 ?side2 A116.out).mono ?_
      (case side1 => exact cU (Kd.R_reads' HO_270002.out).2.2)
      (case side2 => exact (Kd.R_reads' HO_270002.out).2.1)
      rintro e w126 ⟨rfl, hb⟩
      refine ⟨_, rfl, ?_⟩
      replace HO_270002 := Aside0.mk (Kd.R_below (rU HO_270002.out) hb)
      replace BK266 := bB (bV BK266) hb
      replace BK267 := bB (bV BK267) hb
      replace BK268 := bB (bV BK268) hb
      replace BK269 := bB (bV BK269) hb
      replace HB := bH (lV4 GE266 GE267 GE268 GE269) hb
      (try clear hb)
      (try clear hb2)
      (try clear hk)
      (try clear hi)
      refine hK.out _ _ ⟨cz BK269 0 _, cz BK269 1 _, cz BK269 2 _⟩ (fun hHeld => ?_)
      clear hK K
      refine norm_ (a' := ?_) ?_ ?_
      rotate_left
      ·show Act.put _ (some 92) _ = _
       simp only [Act.put, List.setIfInBounds_toArray, List.set_cons_zero, List.set_cons_succ, i64_w, i32_w]
       rfl
      refine one_ (i := 3) (N := none) (bz 5 15) rfl rfl (by kernel_rfl) (by decide) (fun K hK => ?_)
      have hs127 : w126.cell? ⟨gb268, 0, none⟩ = some (.int .i64 0) := (blk_cell BK268.out 0).trans rfl
      have hfs127 := blk_frozen BK268.out 0
      have hns127_0 := NB266_268.out
      have hns127_1 := NB267_268.out
      have hns127_3 := NB269_268.out
      have hms127_0 := NB268_266.out
      have hms127_1 := NB268_267.out
      have hms127_3 := NB268_269.out
      have hs128 : w126.cell? ⟨gb268, 1, none⟩ = some (.int .i64 0) := (blk_cell BK268.out 1).trans rfl
      have hfs128 := blk_frozen BK268.out 1
      have hns128_0 := NB266_268.out
      have hns128_1 := NB267_268.out
      have hns128_3 := NB269_268.out
      have hms128_0 := NB268_266.out
      have hms128_1 := NB268_267.out
      have hms128_3 := NB268_269.out
      have hs129 : w126.cell? ⟨gb268, 2, none⟩ = some (.slice none 0 0) := (blk_cell BK268.out 2).trans rfl
      have hfs129 := blk_frozen BK268.out 2
      have hns129_0 := NB266_268.out
      have hns129_1 := NB267_268.out
      have hns129_3 := NB269_268.out
      have hms129_0 := NB268_266.out
      have hms129_1 := NB268_267.out
      have hms129_3 := NB268_269.out
      refine skip_ (w1 := ?_) (by rfl) rfl ?_ ?_
      rotate_left
      ·go_simp
       rfl
      refine hK.out _ _ ⟨((cell_far (p := ⟨gb268, _, none⟩) NB269_268.out _).trans (((cell_far (p := ⟨gb268, _, none⟩) NB269_268.out _).trans (((cell_far (p := ⟨gb268, _, none⟩) NB269_268.out _).trans (hHeld.1)))))), ((cell_far (p := ⟨gb268, _, none⟩) NB269_268.out _).trans (((cell_far (p := ⟨gb268, _, none⟩) NB269_268.out _).trans (((cell_far (p := ⟨gb268, _, none⟩) NB269_268.out _).trans (hHeld.2.1)))))), ((cell_far (p := ⟨gb268, _, none⟩) NB269_268.out _).trans (((cell_far (p := ⟨gb268, _, none⟩) NB269_268.out _).trans (((cell_far (p := ⟨gb268, _, none⟩) NB269_268.out _).trans (hHeld.2.2))))))⟩ (fun hHeld => ?_)
      clear hK K
      refine pure_ (i := 4) (N := some 5) (v := ?_) (a' := ?_) (bz 5 31) rfl rfl (by kernel_rfl) (fun _ _ _ h => h) (Or.inl ⟨by rfl, ?_⟩) ?_ ?_
      rotate_left
      ·intro w'
       go_simp
       with_reducible rfl
      rotate_left
      ·simp only [Act.put, List.setIfInBounds_toArray, List.set_cons_zero, List.set_cons_succ, i64_w, i32_w]
       rfl
      refine done_ (by kernel_rfl) ?_
      try go_wp2
      refine bodyPost_ret (results_ct rfl _ _ gb268 35 #[.int .i64 a1_0, .int .i64 (wrap64 (a1_1 + 1)), .slice Ao125 x270002_1.length co125] (0, 0) _ rfl (by refine bU ?_; refine blk_put (cs := #[.int .i64 a1_0, .int .i64 (wrap64 (a1_1 + 1)), .slice none 0 0]) ?_ 2 _ rfl; refine bU ?_; refine blk_put (cs := #[.int .i64 a1_0, .int .i64 0, .slice none 0 0]) ?_ 1 _ rfl; refine bU ?_; refine blk_put (cs := #[.int .i64 0, .int .i64 0, .slice none 0 0]) ?_ 0 _ rfl; refine bU ?_; exact BK268.out) Try.underlying35 rfl (by kernel_rfl)) rfl ?_
      exact ⟨_, eE, by (with_reducible repeat (first | apply Kd.R_alloc | apply Kd.R_drewN | apply Kd.R_drew)); exact Kd.R_mono (Kd.R_far (p := ⟨gb268, 2, none⟩) (Kd.R_far (p := ⟨gb268, 1, none⟩) (Kd.R_far (p := ⟨gb268, 0, none⟩) (Kd.R_types HO_270002.out BK268.out (by decide)) (fun _ hk => hk.2) (.int .i64 a1_0)) (fun _ hk => hk.2) (.int .i64 (wrap64 (a1_1 + 1)))) (fun _ hk => hk.2) (.slice Ao125 x270002_1.length co125)) (fun _ hk => trivial), lV4 GE266 GE267 GE268 GE269⟩
end Go.Proofs.Ythgfobcckoedaaa.PFnExactSparksAt
