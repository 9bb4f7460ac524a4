/- Texts of the row of the law FnExactRunCloud, laid together. -/
import Derived.Test.YthgfobcckoedaaaZFnExactRunCloud3
namespace Go.Proofs.Ythgfobcckoedaaa.PFnExactRunCloud
open Go.RowKit Go.Proofs.YthgfobcckoedaaaW.PrintWords Go.Proofs.YthgfobcckoedaaaW.PrintLast Go.Proofs.YthgfobcckoedaaaW.PrintMore
attribute [local go_sem] max2_int min2_int max_two min_two max_three min_three max_four min_four   -- for this text's walks alone
set_option linter.unusedVariables false
set_option linter.unusedSimpArgs false
mutual
def spec_GoodCloud.j0 : Nat → Bool → Int → Int → List (S48) → Option (Bool)
 | 0, _, _, _, _ => none
 | k + 1, x20, x159000, x159001, x159002 => if x20 = true then (some false) else (spec_GoodCloud.l0 k x159002 (x159002.length : Int) 0)
def spec_GoodCloud.l0 : Nat → List (S48) → Int → Int → Option (Bool)
 | 0, _, _, _ => none
 | k + 1, x22, x23, x24 => if x24 < x23 then (if 0 ≤ x24 then (if x24 < (x22.length : Int) then ((spec_GoodFixed.f ((rd_T48 x22 x24).f0)).bind fun t163 => (if t163 = true then ((spec_GoodFixed.f ((rd_T48 x22 x24).f1)).bind fun t164 => (if t164 = true then ((spec_GoodFixed.f ((rd_T48 x22 x24).f2)).bind fun t165 => (if t165 = true then ((spec_GoodFixed.f ((rd_T48 x22 x24).f3)).bind fun t166 => (if t166 = true then ((spec_l1In.f ((rd_T48 x22 x24).f4) 1 200).bind fun t167 => (if t167 = true then (spec_GoodCloud.l0 k x22 x23 (wrap64 (x24 + 1))) else (some false))) else (some false))) else (some false))) else (some false))) else (some false))) else (none)) else (none)) else (some true)
end
def spec_GoodCloud.f (k : Nat) (a0_0 : Int) (a0_1 : Int) (l0_2 : List (S48)) : Option (Bool) := (spec_l1Seed.f a0_0).bind fun t159 => (if t159 = true then ((spec_l1In.f a0_1 0 200).bind fun t160 => (if t160 = true then (spec_GoodCloud.j0 k (decide ((l0_2.length : Int) > 60)) a0_0 a0_1 l0_2) else (spec_GoodCloud.j0 k true a0_0 a0_1 l0_2))) else (spec_GoodCloud.j0 k true a0_0 a0_1 l0_2))
theorem spec_GoodCloud.mono_l : ∀ k, (∀ y0 y1 y2 y3, LeO (spec_GoodCloud.j0 k y0 y1 y2 y3) (spec_GoodCloud.j0 (k + 1) y0 y1 y2 y3)) ∧ (∀ y0 y1 y2, LeO (spec_GoodCloud.l0 k y0 y1 y2) (spec_GoodCloud.l0 (k + 1) y0 y1 y2))
 | 0 => ⟨fun _ _ _ _ r h => by simp [spec_GoodCloud.j0] at h, fun _ _ _ r h => by simp [spec_GoodCloud.l0] at h⟩
 | k + 1 => by
  obtain ⟨ih0, ih1⟩ := spec_GoodCloud.mono_l k
  refine ⟨?_, ?_⟩
  ·intro y0 y1 y2 y3
   unfold spec_GoodCloud.j0
   repeat' first
   | (with_reducible exact ih0 _ _ _ _)
   | (with_reducible exact ih1 _ _ _)
   | (with_reducible exact LeO.refl _)
   | (with_reducible exact LeO.none _)
   | (with_reducible refine LeO.ite ?_ ?_)
   | (with_reducible refine LeO.bind ?_ (fun _ => ?_))
   | exact ih0 _ _ _ _
   | exact ih1 _ _ _
   | exact LeO.none _
   | refine LeO.ite ?_ ?_
   | refine LeO.bind ?_ (fun _ => ?_)
  ·intro y0 y1 y2
   unfold spec_GoodCloud.l0
   repeat' first
   | (with_reducible exact ih0 _ _ _ _)
   | (with_reducible exact ih1 _ _ _)
   | (with_reducible exact LeO.refl _)
   | (with_reducible exact LeO.none _)
   | (with_reducible refine LeO.ite ?_ ?_)
   | (with_reducible refine LeO.bind ?_ (fun _ => ?_))
   | exact ih0 _ _ _ _
   | exact ih1 _ _ _
   | exact LeO.none _
   | refine LeO.ite ?_ ?_
   | refine LeO.bind ?_ (fun _ => ?_)
theorem spec_GoodCloud.mono : ∀ a0 a1 a2 k, LeO (spec_GoodCloud.f k a0 a1 a2) (spec_GoodCloud.f (k + 1) a0 a1 a2) := by
 intro a0 a1 a2 k
 obtain ⟨ih0, ih1⟩ := spec_GoodCloud.mono_l k
 unfold spec_GoodCloud.f
 repeat' first
   | (with_reducible exact ih0 _ _ _ _)
   | (with_reducible exact ih1 _ _ _)
   | (with_reducible exact LeO.refl _)
   | (with_reducible exact LeO.none _)
   | (with_reducible refine LeO.ite ?_ ?_)
   | (with_reducible refine LeO.bind ?_ (fun _ => ?_))
   | exact ih0 _ _ _ _
   | exact ih1 _ _ _
   | exact LeO.none _
   | refine LeO.ite ?_ ?_
   | refine LeO.bind ?_ (fun _ => ?_)
set_option maxHeartbeats 8000000 in
set_option maxRecDepth 100000 in
theorem spec_GoodCloud.calls (k : Nat) (a0_0 : Int) (a0_1 : Int) (A0_2 : Option Addr) (c0_2 : Nat) (l0_2 : List (S48)) (r : Bool) (w : World) (hr0_2 : Kd.C k48 w A0_2 l0_2.length l0_2) (hc0_2 : l0_2.length ≤ c0_2) (h : spec_GoodCloud.f k a0_0 a0_1 l0_2 = some r) :
  Calls Try.prog 20 #[.agg #[.int .i64 a0_0, .int .i64 a0_1, .slice A0_2 l0_2.length c0_2]] w fun e w' => e = .returned (.bool r) ∧ Below w.heap.size w w' := by
 have hu35 := Try.underlying35
 have hu48 := Try.underlying48
 have HR0_2 := Aside0.mk hr0_2
 have HC0_2 := Aside0.mk hc0_2
 clear hr0_2 hc0_2
 have HB := Aside0.mk (Below.refl w.heap.size w)
 have H : ((spec_l1Seed.f a0_0).bind fun t159 => (if t159 = true then ((spec_l1In.f a0_1 0 200).bind fun t160 => (if t160 = true then (spec_GoodCloud.j0 k (decide ((l0_2.length : Int) > 60)) a0_0 a0_1 l0_2) else (spec_GoodCloud.j0 k true a0_0 a0_1 l0_2))) else (spec_GoodCloud.j0 k true a0_0 a0_1 l0_2))) = some r := h
 clear h
 have HC2 := Aside0.mk H
 clear H
 go_enter Try.func20, Try.ntmps20
 go_upto_region 1 with (first | ((with_reducible refine gate_dst (N := 1) rfl ?_); (try (refine gate_guard (by rfl) ?_; dsimp only)); refine box_event rfl (N := 1) rfl (cs := #[.int .i64 a0_0, .int .i64 a0_1, .slice A0_2 l0_2.length c0_2]) (t := 35) sE ?_; intro gb158 hg w3 hbox hb; have BK158 := Aside0.mk hbox; have GW158 := gS w hg (lU); have GE158 := GW158; replace HB := bH (lU) hb; clear hb hbox hg))
 (try simp only [Act.put, List.setIfInBounds_toArray, List.set_cons_zero, List.set_cons_succ])
 go_cut [20] (fun v20 wc => ∃ (kq : Nat) (x20_1 : Bool), v20 = .bool x20_1 ∧ Aside0 (spec_GoodCloud.j0 kq x20_1 a0_0 a0_1 l0_2 = some r) ∧ Aside0 (kq ≤ k) ∧ Aside0 (wc.heap[gb158]? = some (.cells #[.int .i64 a0_0, .int .i64 a0_1, (.slice A0_2 l0_2.length c0_2)] 35 (0, 0))) ∧ Aside0 (Below w.heap.size w wc))
 case first =>
  have H := HC2.out
  clear HC2
  replace H := Option.bind_eq_some_iff.mp H
  obtain ⟨t159, A40, H⟩ := H
  replace H : (if t159 = true then ((spec_l1In.f a0_1 0 200).bind fun t160 => (if t160 = true then (spec_GoodCloud.j0 k (decide ((l0_2.length : Int) > 60)) a0_0 a0_1 l0_2) else (spec_GoodCloud.j0 k true a0_0 a0_1 l0_2))) else (spec_GoodCloud.j0 k true a0_0 a0_1 l0_2)) = some r := H
  have A4 := Aside0.mk A40
  clear A40
  by_cases c5 : t159 = true
  ·subst c5
   have H1 : ((spec_l1In.f a0_1 0 200).bind fun t160 => (if t160 = true then (spec_GoodCloud.j0 k (decide ((l0_2.length : Int) > 60)) a0_0 a0_1 l0_2) else (spec_GoodCloud.j0 k true a0_0 a0_1 l0_2))) = some r := by rw [if_pos rfl] at H; exact H
   clear H
   have H := H1
   clear H1
   replace H := Option.bind_eq_some_iff.mp H
   obtain ⟨t160, A60, H⟩ := H
   replace H : (if t160 = true then (spec_GoodCloud.j0 k (decide ((l0_2.length : Int) > 60)) a0_0 a0_1 l0_2) else (spec_GoodCloud.j0 k true a0_0 a0_1 l0_2)) = some r := H
   have A6 := Aside0.mk A60
   clear A60
   by_cases c7 : t160 = true
   ·subst c7
    have H1 : (spec_GoodCloud.j0 k (decide ((l0_2.length : Int) > 60)) a0_0 a0_1 l0_2) = some r := by rw [if_pos rfl] at H; exact H
    clear H
    have H := H1
    clear H1
    have H' := Aside0.mk H
    clear H
    have hcz8_0 := cz BK158 0 (.int .i64 a0_0)
    have hcz8_1 := cz BK158 1 (.int .i64 a0_1)
    have hcz8_2 := cz BK158 2 (.slice A0_2 l0_2.length c0_2)
    have hfz8_0 := fz BK158 0
    have hfz8_1 := fz BK158 1
    have hfz8_2 := fz BK158 2
    go_wp2_with (first | ((with_reducible refine gate_callee (f := 35) rfl ?_); refine goesL_ (some 7) rfl rfl Try.func35 (by kernel_rfl) rfl #[.int .i64 a0_0] rfl aE ?_; (with_reducible refine (spec_l1Seed.calls a0_0 true _ A4.out).mono ?_); rintro e w' ⟨rfl, ⟨nd, rfl⟩⟩; refine ⟨_, rfl, ?_⟩) | (go_at_call 29; (with_reducible refine (spec_l1In.calls a0_1 0 200 true _ A6.out).mono ?_); rintro e w' ⟨rfl, ⟨nd, rfl⟩⟩))
    go_meet
    case rel => exact ⟨_, (decide ((l0_2.length : Int) > 60)), tE, H', ⟨by first | omega | exact Nat.le_refl _⟩, ⟨by refine bU ?_; exact BK158.out⟩, ⟨by repeat (first | (with_reducible first | exact HB.out | apply below_alloc | apply pw_below_drewN | apply below_drew1 | refine below_set ?_ GE158.out) | exact HB.out)⟩⟩
   ·replace c7 := Bool.eq_false_iff.mpr c7
    subst c7
    have H1 : (spec_GoodCloud.j0 k true a0_0 a0_1 l0_2) = some r := by rw [if_neg (show ¬ (false = true) by decide)] at H; exact H
    clear H
    have H := H1
    clear H1
    have H' := Aside0.mk H
    clear H
    have hcz9_0 := cz BK158 0 (.int .i64 a0_0)
    have hcz9_1 := cz BK158 1 (.int .i64 a0_1)
    have hcz9_2 := cz BK158 2 (.slice A0_2 l0_2.length c0_2)
    have hfz9_0 := fz BK158 0
    have hfz9_1 := fz BK158 1
    have hfz9_2 := fz BK158 2
    go_wp2_with (first | ((with_reducible refine gate_callee (f := 35) rfl ?_); refine goesL_ (some 7) rfl rfl Try.func35 (by kernel_rfl) rfl #[.int .i64 a0_0] rfl aE ?_; (with_reducible refine (spec_l1Seed.calls a0_0 true _ A4.out).mono ?_); rintro e w' ⟨rfl, ⟨nd, rfl⟩⟩; refine ⟨_, rfl, ?_⟩) | (go_at_call 29; (with_reducible refine (spec_l1In.calls a0_1 0 200 false _ A6.out).mono ?_); rintro e w' ⟨rfl, ⟨nd, rfl⟩⟩))
    go_meet
    case rel => exact ⟨_, (true), tE, H', ⟨by first | omega | exact Nat.le_refl _⟩, ⟨by refine bU ?_; exact BK158.out⟩, ⟨by repeat (first | (with_reducible first | exact HB.out | apply below_alloc | apply pw_below_drewN | apply below_drew1 | refine below_set ?_ GE158.out) | exact HB.out)⟩⟩
  ·replace c5 := Bool.eq_false_iff.mpr c5
   subst c5
   have H1 : (spec_GoodCloud.j0 k true a0_0 a0_1 l0_2) = some r := by rw [if_neg (show ¬ (false = true) by decide)] at H; exact H
   clear H
   have H := H1
   clear H1
   have H' := Aside0.mk H
   clear H
   have hcz10_0 := cz BK158 0 (.int .i64 a0_0)
   have hcz10_1 := cz BK158 1 (.int .i64 a0_1)
   have hcz10_2 := cz BK158 2 (.slice A0_2 l0_2.length c0_2)
   have hfz10_0 := fz BK158 0
   have hfz10_1 := fz BK158 1
   have hfz10_2 := fz BK158 2
   go_wp2_with (first | ((with_reducible refine gate_callee (f := 35) rfl ?_); refine goesL_ (some 7) rfl rfl Try.func35 (by kernel_rfl) rfl #[.int .i64 a0_0] rfl aE ?_; (with_reducible refine (spec_l1Seed.calls a0_0 false _ A4.out).mono ?_); rintro e w' ⟨rfl, ⟨nd, rfl⟩⟩; refine ⟨_, rfl, ?_⟩))
   go_meet
   case rel => exact ⟨_, (true), tE, H', ⟨by first | omega | exact Nat.le_refl _⟩, ⟨by refine bU ?_; exact BK158.out⟩, ⟨by repeat (first | (with_reducible first | exact HB.out | apply below_alloc | apply pw_below_drewN | apply below_drew1 | refine below_set ?_ GE158.out) | exact HB.out)⟩⟩
 case rest =>
  clear HC2
  try clear c2
  try clear p2
  try clear c3
  try clear c5
  try clear c7
  try clear hcz10_0
  try clear hcz10_1
  try clear hcz10_2
  try clear hcz8_0
  try clear hcz8_1
  try clear hcz8_2
  try clear hcz9_0
  try clear hcz9_1
  try clear hcz9_2
  try clear hfz10_0
  try clear hfz10_1
  try clear hfz10_2
  try clear hfz8_0
  try clear hfz8_1
  try clear hfz8_2
  try clear hfz9_0
  try clear hfz9_1
  try clear hfz9_2
  obtain ⟨kq, x20_1, rfl, HA, HJ1, BK158, HB⟩ := hcut
  cases kq with
  | zero => exact absurd HA.out (by simp [spec_GoodCloud.j0])
  | succ kj1 =>
   have H := HA.out
   clear HA
   simp only [spec_GoodCloud.j0] at H
   by_cases c11 : x20_1 = true
   ·subst c11
    have H1 : (some false) = some r := by rw [if_pos rfl] at H; exact H
    clear H
    have H := H1
    clear H1
    obtain rfl := Option.some.inj H
    go_wp2
    go_ret
    exact ⟨eE, lV1 GE158⟩
   ·replace c11 := Bool.eq_false_iff.mpr c11
    subst c11
    have H1 : (spec_GoodCloud.l0 kj1 l0_2 (l0_2.length : Int) 0) = some r := by rw [if_neg (show ¬ (false = true) by decide)] at H; exact H
    clear H
    have H := H1
    clear H1
    have H' := Aside0.mk H
    clear H
    have hcz12_0 := cz BK158 0 (.int .i64 a0_0)
    have hcz12_1 := cz BK158 1 (.int .i64 a0_1)
    have hcz12_2 := cz BK158 2 (.slice A0_2 l0_2.length c0_2)
    have hfz12_0 := fz BK158 0
    have hfz12_1 := fz BK158 1
    have hfz12_2 := fz BK158 2
    go_wp2
    go_loopg [24] kj1 (fun kq v24 w' => ∃ (x24_2 : Int), v24 = .int .i64 x24_2 ∧ Aside0 (spec_GoodCloud.l0 kq l0_2 (l0_2.length : Int) x24_2 = some r) ∧ Aside0 (kq ≤ kj1) ∧ Aside0 (w'.heap[gb158]? = some (.cells #[.int .i64 a0_0, .int .i64 a0_1, (.slice A0_2 l0_2.length c0_2)] 35 (0, 0))) ∧ Aside0 (Below w.heap.size w w'))
    case atStart => exact ⟨(0), tE, H', ⟨Nat.le_refl _⟩, ⟨by refine bU ?_; exact BK158.out⟩, ⟨by repeat (first | (with_reducible first | exact HB.out | apply below_alloc | apply pw_below_drewN | apply below_drew1 | refine below_set ?_ GE158.out) | exact HB.out)⟩⟩
    case round =>
     clear H'
     try clear c1
     try clear c2
     try clear p2
     try clear c3
     try clear c5
     try clear c7
     try clear c11
     try clear hcz10_0
     try clear hcz10_1
     try clear hcz10_2
     try clear hcz12_0
     try clear hcz12_1
     try clear hcz12_2
     try clear hcz8_0
     try clear hcz8_1
     try clear hcz8_2
     try clear hcz9_0
     try clear hcz9_1
     try clear hcz9_2
     try clear hfz10_0
     try clear hfz10_1
     try clear hfz10_2
     try clear hfz12_0
     try clear hfz12_1
     try clear hfz12_2
     try clear hfz8_0
     try clear hfz8_1
     try clear hfz8_2
     try clear hfz9_0
     try clear hfz9_1
     try clear hfz9_2
     try clear p2
     obtain ⟨x24_2, rfl, HA, HK2, BK158, HB⟩ := hrel
     cases gk with
     | zero => exact absurd HA.out (by simp [spec_GoodCloud.l0])
     | succ k2 =>
      have H := HA.out
      clear HA
      simp only [spec_GoodCloud.l0] at H
      by_cases c13 : x24_2 < (l0_2.length : Int)
      ·rw [if_pos c13] at H
       have c13b0 : decide (x24_2 < (l0_2.length : Int)) = true := decide_eq_true c13
       clear c13
       by_cases c14 : 0 ≤ x24_2
       ·rw [if_pos c14] at H
        have c14b0 : decide (0 ≤ x24_2) = true := decide_eq_true c14
        clear c14
        by_cases c15 : x24_2 < (l0_2.length : Int)
        ·rw [if_pos c15] at H
         have c15b0 : decide (x24_2 < (l0_2.length : Int)) = true := decide_eq_true c15
         clear c15
         replace H := Option.bind_eq_some_iff.mp H
         obtain ⟨t163, A160, H⟩ := H
         replace H : (if t163 = true then ((spec_GoodFixed.f ((rd_T48 l0_2 x24_2).f1)).bind fun t164 => (if t164 = true then ((spec_GoodFixed.f ((rd_T48 l0_2 x24_2).f2)).bind fun t165 => (if t165 = true then ((spec_GoodFixed.f ((rd_T48 l0_2 x24_2).f3)).bind fun t166 => (if t166 = true then ((spec_l1In.f ((rd_T48 l0_2 x24_2).f4) 1 200).bind fun t167 => (if t167 = true then (spec_GoodCloud.l0 k2 l0_2 (l0_2.length : Int) (wrap64 (x24_2 + 1))) else (some false))) else (some false))) else (some false))) else (some false))) else (some false)) = some r := H
         have A16 := Aside0.mk A160
         clear A160
         by_cases c17 : t163 = true
         ·subst c17
          have H1 : ((spec_GoodFixed.f ((rd_T48 l0_2 x24_2).f1)).bind fun t164 => (if t164 = true then ((spec_GoodFixed.f ((rd_T48 l0_2 x24_2).f2)).bind fun t165 => (if t165 = true then ((spec_GoodFixed.f ((rd_T48 l0_2 x24_2).f3)).bind fun t166 => (if t166 = true then ((spec_l1In.f ((rd_T48 l0_2 x24_2).f4) 1 200).bind fun t167 => (if t167 = true then (spec_GoodCloud.l0 k2 l0_2 (l0_2.length : Int) (wrap64 (x24_2 + 1))) else (some false))) else (some false))) else (some false))) else (some false))) = some r := by rw [if_pos rfl] at H; exact H
          clear H
          have H := H1
          clear H1
          replace H := Option.bind_eq_some_iff.mp H
          obtain ⟨t164, A180, H⟩ := H
          replace H : (if t164 = true then ((spec_GoodFixed.f ((rd_T48 l0_2 x24_2).f2)).bind fun t165 => (if t165 = true then ((spec_GoodFixed.f ((rd_T48 l0_2 x24_2).f3)).bind fun t166 => (if t166 = true then ((spec_l1In.f ((rd_T48 l0_2 x24_2).f4) 1 200).bind fun t167 => (if t167 = true then (spec_GoodCloud.l0 k2 l0_2 (l0_2.length : Int) (wrap64 (x24_2 + 1))) else (some false))) else (some false))) else (some false))) else (some false)) = some r := H
          have A18 := Aside0.mk A180
          clear A180
          by_cases c19 : t164 = true
          ·subst c19
           have H1 : ((spec_GoodFixed.f ((rd_T48 l0_2 x24_2).f2)).bind fun t165 => (if t165 = true then ((spec_GoodFixed.f ((rd_T48 l0_2 x24_2).f3)).bind fun t166 => (if t166 = true then ((spec_l1In.f ((rd_T48 l0_2 x24_2).f4) 1 200).bind fun t167 => (if t167 = true then (spec_GoodCloud.l0 k2 l0_2 (l0_2.length : Int) (wrap64 (x24_2 + 1))) else (some false))) else (some false))) else (some false))) = some r := by rw [if_pos rfl] at H; exact H
           clear H
           have H := H1
           clear H1
           replace H := Option.bind_eq_some_iff.mp H
           obtain ⟨t165, A200, H⟩ := H
           replace H : (if t165 = true then ((spec_GoodFixed.f ((rd_T48 l0_2 x24_2).f3)).bind fun t166 => (if t166 = true then ((spec_l1In.f ((rd_T48 l0_2 x24_2).f4) 1 200).bind fun t167 => (if t167 = true then (spec_GoodCloud.l0 k2 l0_2 (l0_2.length : Int) (wrap64 (x24_2 + 1))) else (some false))) else (some false))) else (some false)) = some r := H
           have A20 := Aside0.mk A200
           clear A200
           by_cases c21 : t165 = true
           ·subst c21
            have H1 : ((spec_GoodFixed.f ((rd_T48 l0_2 x24_2).f3)).bind fun t166 => (if t166 = true then ((spec_l1In.f ((rd_T48 l0_2 x24_2).f4) 1 200).bind fun t167 => (if t167 = true then (spec_GoodCloud.l0 k2 l0_2 (l0_2.length : Int) (wrap64 (x24_2 + 1))) else (some false))) else (some false))) = some r := by rw [if_pos rfl] at H; exact H
            clear H
            have H := H1
            clear H1
            replace H := Option.bind_eq_some_iff.mp H
            obtain ⟨t166, A220, H⟩ := H
            replace H : (if t166 = true then ((spec_l1In.f ((rd_T48 l0_2 x24_2).f4) 1 200).bind fun t167 => (if t167 = true then (spec_GoodCloud.l0 k2 l0_2 (l0_2.length : Int) (wrap64 (x24_2 + 1))) else (some false))) else (some false)) = some r := H
            have A22 := Aside0.mk A220
            clear A220
            by_cases c23 : t166 = true
            ·subst c23
             have H1 : ((spec_l1In.f ((rd_T48 l0_2 x24_2).f4) 1 200).bind fun t167 => (if t167 = true then (spec_GoodCloud.l0 k2 l0_2 (l0_2.length : Int) (wrap64 (x24_2 + 1))) else (some false))) = some r := by rw [if_pos rfl] at H; exact H
             clear H
             have H := H1
             clear H1
             replace H := Option.bind_eq_some_iff.mp H
             obtain ⟨t167, A240, H⟩ := H
             replace H : (if t167 = true then (spec_GoodCloud.l0 k2 l0_2 (l0_2.length : Int) (wrap64 (x24_2 + 1))) else (some false)) = some r := H
             have A24 := Aside0.mk A240
             clear A240
             by_cases c25 : t167 = true
             ·subst c25
              have H1 : (spec_GoodCloud.l0 k2 l0_2 (l0_2.length : Int) (wrap64 (x24_2 + 1))) = some r := by rw [if_pos rfl] at H; exact H
              clear H
              have H := H1
              clear H1
              have H' := Aside0.mk H
              clear H
              have p161 : 0 ≤ (x24_2 : Int) := of_decide_eq_true hE
              have q161 : x24_2 < (l0_2.length : Int) := of_decide_eq_true hE
              obtain ⟨ad161, e161, hx161_0, hx161_1, hx161_2, hx161_3, hx161_4⟩ := at_T48 HR0_2.out x24_2 p161 q161
              cases e161
              replace hx161_0 := (HB.out.cell (World.block_lt_of_cell? w _ hx161_0)).trans hx161_0
              replace hx161_1 := (HB.out.cell (World.block_lt_of_cell? w _ hx161_1)).trans hx161_1
              replace hx161_2 := (HB.out.cell (World.block_lt_of_cell? w _ hx161_2)).trans hx161_2
              replace hx161_3 := (HB.out.cell (World.block_lt_of_cell? w _ hx161_3)).trans hx161_3
              replace hx161_4 := (HB.out.cell (World.block_lt_of_cell? w _ hx161_4)).trans hx161_4
              replace p161 := eq_true p161
              replace q161 := eq_true q161
              go_wp2_with (first | ((with_reducible refine gate_dst (N := 4) rfl ?_); (try (refine gate_guard (by rfl) ?_; dsimp only)); refine box_event rfl (N := 4) rfl (cs := #[.int .i64 0, .int .i64 0, .int .i64 0, .int .i64 0, .int .i64 0]) (t := 48) sE ?_; intro gb162 hg w26 hbox hb; have BK162 := Aside0.mk hbox; have GW162 := gS w hg (lV1 GE158); have GE162 := GW162; replace HB := bH (lV1 GE158) hb; have NB158_162 := nL hg (bV BK158); have NB162_158 := nG hg (bV BK158); replace BK158 := bB (bV BK158) hb; clear hb hbox hg; have hnb27 := NB162_158.out; have hnc27 := NB158_162.out; have hcz28_0 := cz BK162 0 (.int .i64 0); have hcz28_1 := cz BK162 1 (.int .i64 0); have hcz28_2 := cz BK162 2 (.int .i64 0); have hcz28_3 := cz BK162 3 (.int .i64 0); have hcz28_4 := cz BK162 4 (.int .i64 0); have hfz28_0 := fz BK162 0; have hfz28_1 := fz BK162 1; have hfz28_2 := fz BK162 2; have hfz28_3 := fz BK162 3; have hfz28_4 := fz BK162 4) | ((with_reducible refine gate_store (t := 48) (p := 4) rfl ?_); refine store_event (t := 48) (p := 4) (v := ?vo_w29) (w1 := (((((w26.setCell ⟨gb162, 0, none⟩ (.int .i64 ((rd_T48 l0_2 x24_2).f0))).setCell ⟨gb162, 1, none⟩ (.int .i64 ((rd_T48 l0_2 x24_2).f1))).setCell ⟨gb162, 2, none⟩ (.int .i64 ((rd_T48 l0_2 x24_2).f2))).setCell ⟨gb162, 3, none⟩ (.int .i64 ((rd_T48 l0_2 x24_2).f3))).setCell ⟨gb162, 4, none⟩ (.int .i64 ((rd_T48 l0_2 x24_2).f4)))) ?hg ?ho ?hn ?hr ?_; (case ho => rfl); (case hg => rfl); (case hn => rfl); (case hr => first | (go_simp; done) | (go_simp; rfl) | (have hq0_ := (blk_cell BK162.out 0).trans (show _ = some _ from rfl); have hf0_ := blk_frozen BK162.out 0; have hq1_ := (blk_cell BK162.out 1).trans (show _ = some _ from rfl); have hf1_ := blk_frozen BK162.out 1; have hq2_ := (blk_cell BK162.out 2).trans (show _ = some _ from rfl); have hf2_ := blk_frozen BK162.out 2; have hq3_ := (blk_cell BK162.out 3).trans (show _ = some _ from rfl); have hf3_ := blk_frozen BK162.out 3; have hq4_ := (blk_cell BK162.out 4).trans (show _ = some _ from rfl); have hf4_ := blk_frozen BK162.out 4; first | (go_simp; done) | (go_simp; rfl))); intro w29 hw; replace BK158 : Aside0 (w29.heap[gb158]? = some (.cells #[.int .i64 a0_0, .int .i64 a0_1, .slice (some ad161) l0_2.length c0_2] 35 (0, 0))) := ⟨(by rw [hw]; exact (bG NB158_162 BK158))⟩; replace BK162 : Aside0 (w29.heap[gb162]? = some (.cells #[.int .i64 ((rd_T48 l0_2 x24_2).f0), .int .i64 ((rd_T48 l0_2 x24_2).f1), .int .i64 ((rd_T48 l0_2 x24_2).f2), .int .i64 ((rd_T48 l0_2 x24_2).f3), .int .i64 ((rd_T48 l0_2 x24_2).f4)] 48 (0, 0))) := ⟨(by rw [hw]; exact (by refine bU ?_; refine blk_put (cs := #[.int .i64 ((rd_T48 l0_2 x24_2).f0), .int .i64 ((rd_T48 l0_2 x24_2).f1), .int .i64 ((rd_T48 l0_2 x24_2).f2), .int .i64 ((rd_T48 l0_2 x24_2).f3), .int .i64 0]) ?_ 4 _ rfl; refine bU ?_; refine blk_put (cs := #[.int .i64 ((rd_T48 l0_2 x24_2).f0), .int .i64 ((rd_T48 l0_2 x24_2).f1), .int .i64 ((rd_T48 l0_2 x24_2).f2), .int .i64 0, .int .i64 0]) ?_ 3 _ rfl; refine bU ?_; refine blk_put (cs := #[.int .i64 ((rd_T48 l0_2 x24_2).f0), .int .i64 ((rd_T48 l0_2 x24_2).f1), .int .i64 0, .int .i64 0, .int .i64 0]) ?_ 2 _ rfl; refine bU ?_; refine blk_put (cs := #[.int .i64 ((rd_T48 l0_2 x24_2).f0), .int .i64 0, .int .i64 0, .int .i64 0, .int .i64 0]) ?_ 1 _ rfl; refine bU ?_; refine blk_put (cs := #[.int .i64 0, .int .i64 0, .int .i64 0, .int .i64 0, .int .i64 0]) ?_ 0 _ rfl; refine bU ?_; exact BK162.out))⟩; replace HB : Aside0 (Below w.heap.size w w29) := ⟨(by rw [hw]; exact (lV2 GE158 GE162))⟩; clear hw; have hcz30_0 := cz BK162 0 (.int .i64 ((rd_T48 l0_2 x24_2).f0)); have hcz30_1 := cz BK162 1 (.int .i64 ((rd_T48 l0_2 x24_2).f1)); have hcz30_2 := cz BK162 2 (.int .i64 ((rd_T48 l0_2 x24_2).f2)); have hcz30_3 := cz BK162 3 (.int .i64 ((rd_T48 l0_2 x24_2).f3)); have hcz30_4 := cz BK162 4 (.int .i64 ((rd_T48 l0_2 x24_2).f4)); have hfz30_0 := fz BK162 0; have hfz30_1 := fz BK162 1; have hfz30_2 := fz BK162 2; have hfz30_3 := fz BK162 3; have hfz30_4 := fz BK162 4) | ((with_reducible refine gate_callee (f := 36) rfl ?_); refine goesL_ (some 30) rfl rfl Try.func36 (by kernel_rfl) rfl #[.int .i64 ((rd_T48 l0_2 x24_2).f0)] rfl aE ?_; (with_reducible refine (spec_GoodFixed.calls ((rd_T48 l0_2 x24_2).f0) true _ A16.out).mono ?_); rintro e w' ⟨rfl, ⟨nd, rfl⟩⟩; refine ⟨_, rfl, ?_⟩) | (go_at_call 36; (with_reducible refine (spec_GoodFixed.calls ((rd_T48 l0_2 x24_2).f1) true _ A18.out).mono ?_); rintro e w' ⟨rfl, ⟨nd, rfl⟩⟩) | (go_at_call 36; (with_reducible refine (spec_GoodFixed.calls ((rd_T48 l0_2 x24_2).f2) true _ A20.out).mono ?_); rintro e w' ⟨rfl, ⟨nd, rfl⟩⟩) | (go_at_call 36; (with_reducible refine (spec_GoodFixed.calls ((rd_T48 l0_2 x24_2).f3) true _ A22.out).mono ?_); rintro e w' ⟨rfl, ⟨nd, rfl⟩⟩) | (go_at_call 29; (with_reducible refine (spec_l1In.calls ((rd_T48 l0_2 x24_2).f4) 1 200 true _ A24.out).mono ?_); rintro e w' ⟨rfl, ⟨nd, rfl⟩⟩))
              go_roundg k2
              case measure => have := HJ1.out; have := HK2.out; omega
              case rel => exact ⟨(wrap64 (x24_2 + 1)), tE, H', ⟨by have := HJ1.out; have := HK2.out; omega⟩, ⟨by refine bU ?_; exact BK158.out⟩, ⟨by repeat (first | (with_reducible first | exact HB.out | apply below_alloc | apply pw_below_drewN | apply below_drew1 | refine below_set ?_ GE158.out | refine below_set ?_ GE162.out) | exact HB.out)⟩⟩
             ·replace c25 := Bool.eq_false_iff.mpr c25
              subst c25
              have H1 : (some false) = some r := by rw [if_neg (show ¬ (false = true) by decide)] at H; exact H
              clear H
              have H := H1
              clear H1
              obtain rfl := Option.some.inj H
              have p161 : 0 ≤ (x24_2 : Int) := of_decide_eq_true hE
              have q161 : x24_2 < (l0_2.length : Int) := of_decide_eq_true hE
              obtain ⟨ad161, e161, hx161_0, hx161_1, hx161_2, hx161_3, hx161_4⟩ := at_T48 HR0_2.out x24_2 p161 q161
              cases e161
              replace hx161_0 := (HB.out.cell (World.block_lt_of_cell? w _ hx161_0)).trans hx161_0
              replace hx161_1 := (HB.out.cell (World.block_lt_of_cell? w _ hx161_1)).trans hx161_1
              replace hx161_2 := (HB.out.cell (World.block_lt_of_cell? w _ hx161_2)).trans hx161_2
              replace hx161_3 := (HB.out.cell (World.block_lt_of_cell? w _ hx161_3)).trans hx161_3
              replace hx161_4 := (HB.out.cell (World.block_lt_of_cell? w _ hx161_4)).trans hx161_4
              replace p161 := eq_true p161
              replace q161 := eq_true q161
              go_wp2_with (first | ((with_reducible refine gate_dst (N := 4) rfl ?_); (try (refine gate_guard (by rfl) ?_; dsimp only)); refine box_event rfl (N := 4) rfl (cs := #[.int .i64 0, .int .i64 0, .int .i64 0, .int .i64 0, .int .i64 0]) (t := 48) sE ?_; intro gb162 hg w31 hbox hb; have BK162 := Aside0.mk hbox; have GW162 := gS w hg (lV1 GE158); have GE162 := GW162; replace HB := bH (lV1 GE158) hb; have NB158_162 := nL hg (bV BK158); have NB162_158 := nG hg (bV BK158); replace BK158 := bB (bV BK158) hb; clear hb hbox hg; have hnb32 := NB162_158.out; have hnc32 := NB158_162.out; have hcz33_0 := cz BK162 0 (.int .i64 0); have hcz33_1 := cz BK162 1 (.int .i64 0); have hcz33_2 := cz BK162 2 (.int .i64 0); have hcz33_3 := cz BK162 3 (.int .i64 0); have hcz33_4 := cz BK162 4 (.int .i64 0); have hfz33_0 := fz BK162 0; have hfz33_1 := fz BK162 1; have hfz33_2 := fz BK162 2; have hfz33_3 := fz BK162 3; have hfz33_4 := fz BK162 4) | ((with_reducible refine gate_store (t := 48) (p := 4) rfl ?_); refine store_event (t := 48) (p := 4) (v := ?vo_w34) (w1 := (((((w31.setCell ⟨gb162, 0, none⟩ (.int .i64 ((rd_T48 l0_2 x24_2).f0))).setCell ⟨gb162, 1, none⟩ (.int .i64 ((rd_T48 l0_2 x24_2).f1))).setCell ⟨gb162, 2, none⟩ (.int .i64 ((rd_T48 l0_2 x24_2).f2))).setCell ⟨gb162, 3, none⟩ (.int .i64 ((rd_T48 l0_2 x24_2).f3))).setCell ⟨gb162, 4, none⟩ (.int .i64 ((rd_T48 l0_2 x24_2).f4)))) ?hg ?ho ?hn ?hr ?_; (case ho => rfl); (case hg => rfl); (case hn => rfl); (case hr => first | (go_simp; done) | (go_simp; rfl) | (have hq0_ := (blk_cell BK162.out 0).trans (show _ = some _ from rfl); have hf0_ := blk_frozen BK162.out 0; have hq1_ := (blk_cell BK162.out 1).trans (show _ = some _ from rfl); have hf1_ := blk_frozen BK162.out 1; have hq2_ := (blk_cell BK162.out 2).trans (show _ = some _ from rfl); have hf2_ := blk_frozen BK162.out 2; have hq3_ := (blk_cell BK162.out 3).trans (show _ = some _ from rfl); have hf3_ := blk_frozen BK162.out 3; have hq4_ := (blk_cell BK162.out 4).trans (show _ = some _ from rfl); have hf4_ := blk_frozen BK162.out 4; first | (go_simp; done) | (go_simp; rfl))); intro w34 hw; replace BK158 : Aside0 (w34.heap[gb158]? = some (.cells #[.int .i64 a0_0, .int .i64 a0_1, .slice (some ad161) l0_2.length c0_2] 35 (0, 0))) := ⟨(by rw [hw]; exact (bG NB158_162 BK158))⟩; replace BK162 : Aside0 (w34.heap[gb162]? = some (.cells #[.int .i64 ((rd_T48 l0_2 x24_2).f0), .int .i64 ((rd_T48 l0_2 x24_2).f1), .int .i64 ((rd_T48 l0_2 x24_2).f2), .int .i64 ((rd_T48 l0_2 x24_2).f3), .int .i64 ((rd_T48 l0_2 x24_2).f4)] 48 (0, 0))) := ⟨(by rw [hw]; exact (by refine bU ?_; refine blk_put (cs := #[.int .i64 ((rd_T48 l0_2 x24_2).f0), .int .i64 ((rd_T48 l0_2 x24_2).f1), .int .i64 ((rd_T48 l0_2 x24_2).f2), .int .i64 ((rd_T48 l0_2 x24_2).f3), .int .i64 0]) ?_ 4 _ rfl; refine bU ?_; refine blk_put (cs := #[.int .i64 ((rd_T48 l0_2 x24_2).f0), .int .i64 ((rd_T48 l0_2 x24_2).f1), .int .i64 ((rd_T48 l0_2 x24_2).f2), .int .i64 0, .int .i64 0]) ?_ 3 _ rfl; refine bU ?_; refine blk_put (cs := #[.int .i64 ((rd_T48 l0_2 x24_2).f0), .int .i64 ((rd_T48 l0_2 x24_2).f1), .int .i64 0, .int .i64 0, .int .i64 0]) ?_ 2 _ rfl; refine bU ?_; refine blk_put (cs := #[.int .i64 ((rd_T48 l0_2 x24_2).f0), .int .i64 0, .int .i64 0, .int .i64 0, .int .i64 0]) ?_ 1 _ rfl; refine bU ?_; refine blk_put (cs := #[.int .i64 0, .int .i64 0, .int .i64 0, .int .i64 0, .int .i64 0]) ?_ 0 _ rfl; refine bU ?_; exact BK162.out))⟩; replace HB : Aside0 (Below w.heap.size w w34) := ⟨(by rw [hw]; exact (lV2 GE158 GE162))⟩; clear hw; have hcz35_0 := cz BK162 0 (.int .i64 ((rd_T48 l0_2 x24_2).f0)); have hcz35_1 := cz BK162 1 (.int .i64 ((rd_T48 l0_2 x24_2).f1)); have hcz35_2 := cz BK162 2 (.int .i64 ((rd_T48 l0_2 x24_2).f2)); have hcz35_3 := cz BK162 3 (.int .i64 ((rd_T48 l0_2 x24_2).f3)); have hcz35_4 := cz BK162 4 (.int .i64 ((rd_T48 l0_2 x24_2).f4)); have hfz35_0 := fz BK162 0; have hfz35_1 := fz BK162 1; have hfz35_2 := fz BK162 2; have hfz35_3 := fz BK162 3; have hfz35_4 := fz BK162 4) | ((with_reducible refine gate_callee (f := 36) rfl ?_); refine goesL_ (some 30) rfl rfl Try.func36 (by kernel_rfl) rfl #[.int .i64 ((rd_T48 l0_2 x24_2).f0)] rfl aE ?_; (with_reducible refine (spec_GoodFixed.calls ((rd_T48 l0_2 x24_2).f0) true _ A16.out).mono ?_); rintro e w' ⟨rfl, ⟨nd, rfl⟩⟩; refine ⟨_, rfl, ?_⟩) | (go_at_call 36; (with_reducible refine (spec_GoodFixed.calls ((rd_T48 l0_2 x24_2).f1) true _ A18.out).mono ?_); rintro e w' ⟨rfl, ⟨nd, rfl⟩⟩) | (go_at_call 36; (with_reducible refine (spec_GoodFixed.calls ((rd_T48 l0_2 x24_2).f2) true _ A20.out).mono ?_); rintro e w' ⟨rfl, ⟨nd, rfl⟩⟩) | (go_at_call 36; (with_reducible refine (spec_GoodFixed.calls ((rd_T48 l0_2 x24_2).f3) true _ A22.out).mono ?_); rintro e w' ⟨rfl, ⟨nd, rfl⟩⟩) | (go_at_call 29; (with_reducible refine (spec_l1In.calls ((rd_T48 l0_2 x24_2).f4) 1 200 false _ A24.out).mono ?_); rintro e w' ⟨rfl, ⟨nd, rfl⟩⟩))
              go_ret
              exact ⟨eE, lV2 GE158 GE162⟩
            ·replace c23 := Bool.eq_false_iff.mpr c23
             subst c23
             have H1 : (some false) = some r := by rw [if_neg (show ¬ (false = true) by decide)] at H; exact H
             clear H
             have H := H1
             clear H1
             obtain rfl := Option.some.inj H
             have p161 : 0 ≤ (x24_2 : Int) := of_decide_eq_true hE
             have q161 : x24_2 < (l0_2.length : Int) := of_decide_eq_true hE
             obtain ⟨ad161, e161, hx161_0, hx161_1, hx161_2, hx161_3, hx161_4⟩ := at_T48 HR0_2.out x24_2 p161 q161
             cases e161
             replace hx161_0 := (HB.out.cell (World.block_lt_of_cell? w _ hx161_0)).trans hx161_0
             replace hx161_1 := (HB.out.cell (World.block_lt_of_cell? w _ hx161_1)).trans hx161_1
             replace hx161_2 := (HB.out.cell (World.block_lt_of_cell? w _ hx161_2)).trans hx161_2
             replace hx161_3 := (HB.out.cell (World.block_lt_of_cell? w _ hx161_3)).trans hx161_3
             replace hx161_4 := (HB.out.cell (World.block_lt_of_cell? w _ hx161_4)).trans hx161_4
             replace p161 := eq_true p161
             replace q161 := eq_true q161
             go_wp2_with (first | ((with_reducible refine gate_dst (N := 4) rfl ?_); (try (refine gate_guard (by rfl) ?_; dsimp only)); refine box_event rfl (N := 4) rfl (cs := #[.int .i64 0, .int .i64 0, .int .i64 0, .int .i64 0, .int .i64 0]) (t := 48) sE ?_; intro gb162 hg w36 hbox hb; have BK162 := Aside0.mk hbox; have GW162 := gS w hg (lV1 GE158); have GE162 := GW162; replace HB := bH (lV1 GE158) hb; have NB158_162 := nL hg (bV BK158); have NB162_158 := nG hg (bV BK158); replace BK158 := bB (bV BK158) hb; clear hb hbox hg; have hnb37 := NB162_158.out; have hnc37 := NB158_162.out; have hcz38_0 := cz BK162 0 (.int .i64 0); have hcz38_1 := cz BK162 1 (.int .i64 0); have hcz38_2 := cz BK162 2 (.int .i64 0); have hcz38_3 := cz BK162 3 (.int .i64 0); have hcz38_4 := cz BK162 4 (.int .i64 0); have hfz38_0 := fz BK162 0; have hfz38_1 := fz BK162 1; have hfz38_2 := fz BK162 2; have hfz38_3 := fz BK162 3; have hfz38_4 := fz BK162 4) | ((with_reducible refine gate_store (t := 48) (p := 4) rfl ?_); refine store_event (t := 48) (p := 4) (v := ?vo_w39) (w1 := (((((w36.setCell ⟨gb162, 0, none⟩ (.int .i64 ((rd_T48 l0_2 x24_2).f0))).setCell ⟨gb162, 1, none⟩ (.int .i64 ((rd_T48 l0_2 x24_2).f1))).setCell ⟨gb162, 2, none⟩ (.int .i64 ((rd_T48 l0_2 x24_2).f2))).setCell ⟨gb162, 3, none⟩ (.int .i64 ((rd_T48 l0_2 x24_2).f3))).setCell ⟨gb162, 4, none⟩ (.int .i64 ((rd_T48 l0_2 x24_2).f4)))) ?hg ?ho ?hn ?hr ?_; (case ho => rfl); (case hg => rfl); (case hn => rfl); (case hr => first | (go_simp; done) | (go_simp; rfl) | (have hq0_ := (blk_cell BK162.out 0).trans (show _ = some _ from rfl); have hf0_ := blk_frozen BK162.out 0; have hq1_ := (blk_cell BK162.out 1).trans (show _ = some _ from rfl); have hf1_ := blk_frozen BK162.out 1; have hq2_ := (blk_cell BK162.out 2).trans (show _ = some _ from rfl); have hf2_ := blk_frozen BK162.out 2; have hq3_ := (blk_cell BK162.out 3).trans (show _ = some _ from rfl); have hf3_ := blk_frozen BK162.out 3; have hq4_ := (blk_cell BK162.out 4).trans (show _ = some _ from rfl); have hf4_ := blk_frozen BK162.out 4; first | (go_simp; done) | (go_simp; rfl))); intro w39 hw; replace BK158 : Aside0 (w39.heap[gb158]? = some (.cells #[.int .i64 a0_0, .int .i64 a0_1, .slice (some ad161) l0_2.length c0_2] 35 (0, 0))) := ⟨(by rw [hw]; exact (bG NB158_162 BK158))⟩; replace BK162 : Aside0 (w39.heap[gb162]? = some (.cells #[.int .i64 ((rd_T48 l0_2 x24_2).f0), .int .i64 ((rd_T48 l0_2 x24_2).f1), .int .i64 ((rd_T48 l0_2 x24_2).f2), .int .i64 ((rd_T48 l0_2 x24_2).f3), .int .i64 ((rd_T48 l0_2 x24_2).f4)] 48 (0, 0))) := ⟨(by rw [hw]; exact (by refine bU ?_; refine blk_put (cs := #[.int .i64 ((rd_T48 l0_2 x24_2).f0), .int .i64 ((rd_T48 l0_2 x24_2).f1), .int .i64 ((rd_T48 l0_2 x24_2).f2), .int .i64 ((rd_T48 l0_2 x24_2).f3), .int .i64 0]) ?_ 4 _ rfl; refine bU ?_; refine blk_put (cs := #[.int .i64 ((rd_T48 l0_2 x24_2).f0), .int .i64 ((rd_T48 l0_2 x24_2).f1), .int .i64 ((rd_T48 l0_2 x24_2).f2), .int .i64 0, .int .i64 0]) ?_ 3 _ rfl; refine bU ?_; refine blk_put (cs := #[.int .i64 ((rd_T48 l0_2 x24_2).f0), .int .i64 ((rd_T48 l0_2 x24_2).f1), .int .i64 0, .int .i64 0, .int .i64 0]) ?_ 2 _ rfl; refine bU ?_; refine blk_put (cs := #[.int .i64 ((rd_T48 l0_2 x24_2).f0), .int .i64 0, .int .i64 0, .int .i64 0, .int .i64 0]) ?_ 1 _ rfl; refine bU ?_; refine blk_put (cs := #[.int .i64 0, .int .i64 0, .int .i64 0, .int .i64 0, .int .i64 0]) ?_ 0 _ rfl; refine bU ?_; exact BK162.out))⟩; replace HB : Aside0 (Below w.heap.size w w39) := ⟨(by rw [hw]; exact (lV2 GE158 GE162))⟩; clear hw; have hcz40_0 := cz BK162 0 (.int .i64 ((rd_T48 l0_2 x24_2).f0)); have hcz40_1 := cz BK162 1 (.int .i64 ((rd_T48 l0_2 x24_2).f1)); have hcz40_2 := cz BK162 2 (.int .i64 ((rd_T48 l0_2 x24_2).f2)); have hcz40_3 := cz BK162 3 (.int .i64 ((rd_T48 l0_2 x24_2).f3)); have hcz40_4 := cz BK162 4 (.int .i64 ((rd_T48 l0_2 x24_2).f4)); have hfz40_0 := fz BK162 0; have hfz40_1 := fz BK162 1; have hfz40_2 := fz BK162 2; have hfz40_3 := fz BK162 3; have hfz40_4 := fz BK162 4) | ((with_reducible refine gate_callee (f := 36) rfl ?_); refine goesL_ (some 30) rfl rfl Try.func36 (by kernel_rfl) rfl #[.int .i64 ((rd_T48 l0_2 x24_2).f0)] rfl aE ?_; (with_reducible refine (spec_GoodFixed.calls ((rd_T48 l0_2 x24_2).f0) true _ A16.out).mono ?_); rintro e w' ⟨rfl, ⟨nd, rfl⟩⟩; refine ⟨_, rfl, ?_⟩) | (go_at_call 36; (with_reducible refine (spec_GoodFixed.calls ((rd_T48 l0_2 x24_2).f1) true _ A18.out).mono ?_); rintro e w' ⟨rfl, ⟨nd, rfl⟩⟩) | (go_at_call 36; (with_reducible refine (spec_GoodFixed.calls ((rd_T48 l0_2 x24_2).f2) true _ A20.out).mono ?_); rintro e w' ⟨rfl, ⟨nd, rfl⟩⟩) | (go_at_call 36; (with_reducible refine (spec_GoodFixed.calls ((rd_T48 l0_2 x24_2).f3) false _ A22.out).mono ?_); rintro e w' ⟨rfl, ⟨nd, rfl⟩⟩))
             go_ret
             exact ⟨eE, lV2 GE158 GE162⟩
           ·replace c21 := Bool.eq_false_iff.mpr c21
            subst c21
            have H1 : (some false) = some r := by rw [if_neg (show ¬ (false = true) by decide)] at H; exact H
            clear H
            have H := H1
            clear H1
            obtain rfl := Option.some.inj H
            have p161 : 0 ≤ (x24_2 : Int) := of_decide_eq_true hE
            have q161 : x24_2 < (l0_2.length : Int) := of_decide_eq_true hE
            obtain ⟨ad161, e161, hx161_0, hx161_1, hx161_2, hx161_3, hx161_4⟩ := at_T48 HR0_2.out x24_2 p161 q161
            cases e161
            replace hx161_0 := (HB.out.cell (World.block_lt_of_cell? w _ hx161_0)).trans hx161_0
            replace hx161_1 := (HB.out.cell (World.block_lt_of_cell? w _ hx161_1)).trans hx161_1
            replace hx161_2 := (HB.out.cell (World.block_lt_of_cell? w _ hx161_2)).trans hx161_2
            replace hx161_3 := (HB.out.cell (World.block_lt_of_cell? w _ hx161_3)).trans hx161_3
            replace hx161_4 := (HB.out.cell (World.block_lt_of_cell? w _ hx161_4)).trans hx161_4
            replace p161 := eq_true p161
            replace q161 := eq_true q161
            go_wp2_with (first | ((with_reducible refine gate_dst (N := 4) rfl ?_); (try (refine gate_guard (by rfl) ?_; dsimp only)); refine box_event rfl (N := 4) rfl (cs := #[.int .i64 0, .int .i64 0, .int .i64 0, .int .i64 0, .int .i64 0]) (t := 48) sE ?_; intro gb162 hg w41 hbox hb; have BK162 := Aside0.mk hbox; have GW162 := gS w hg (lV1 GE158); have GE162 := GW162; replace HB := bH (lV1 GE158) hb; have NB158_162 := nL hg (bV BK158); have NB162_158 := nG hg (bV BK158); replace BK158 := bB (bV BK158) hb; clear hb hbox hg; have hnb42 := NB162_158.out; have hnc42 := NB158_162.out; have hcz43_0 := cz BK162 0 (.int .i64 0); have hcz43_1 := cz BK162 1 (.int .i64 0); have hcz43_2 := cz BK162 2 (.int .i64 0); have hcz43_3 := cz BK162 3 (.int .i64 0); have hcz43_4 := cz BK162 4 (.int .i64 0); have hfz43_0 := fz BK162 0; have hfz43_1 := fz BK162 1; have hfz43_2 := fz BK162 2; have hfz43_3 := fz BK162 3; have hfz43_4 := fz BK162 4) | ((with_reducible refine gate_store (t := 48) (p := 4) rfl ?_); refine store_event (t := 48) (p := 4) (v := ?vo_w44) (w1 := (((((w41.setCell ⟨gb162, 0, none⟩ (.int .i64 ((rd_T48 l0_2 x24_2).f0))).setCell ⟨gb162, 1, none⟩ (.int .i64 ((rd_T48 l0_2 x24_2).f1))).setCell ⟨gb162, 2, none⟩ (.int .i64 ((rd_T48 l0_2 x24_2).f2))).setCell ⟨gb162, 3, none⟩ (.int .i64 ((rd_T48 l0_2 x24_2).f3))).setCell ⟨gb162, 4, none⟩ (.int .i64 ((rd_T48 l0_2 x24_2).f4)))) ?hg ?ho ?hn ?hr ?_; (case ho => rfl); (case hg => rfl); (case hn => rfl); (case hr => first | (go_simp; done) | (go_simp; rfl) | (have hq0_ := (blk_cell BK162.out 0).trans (show _ = some _ from rfl); have hf0_ := blk_frozen BK162.out 0; have hq1_ := (blk_cell BK162.out 1).trans (show _ = some _ from rfl); have hf1_ := blk_frozen BK162.out 1; have hq2_ := (blk_cell BK162.out 2).trans (show _ = some _ from rfl); have hf2_ := blk_frozen BK162.out 2; have hq3_ := (blk_cell BK162.out 3).trans (show _ = some _ from rfl); have hf3_ := blk_frozen BK162.out 3; have hq4_ := (blk_cell BK162.out 4).trans (show _ = some _ from rfl); have hf4_ := blk_frozen BK162.out 4; first | (go_simp; done) | (go_simp; rfl))); intro w44 hw; replace BK158 : Aside0 (w44.heap[gb158]? = some (.cells #[.int .i64 a0_0, .int .i64 a0_1, .slice (some ad161) l0_2.length c0_2] 35 (0, 0))) := ⟨(by rw [hw]; exact (bG NB158_162 BK158))⟩; replace BK162 : Aside0 (w44.heap[gb162]? = some (.cells #[.int .i64 ((rd_T48 l0_2 x24_2).f0), .int .i64 ((rd_T48 l0_2 x24_2).f1), .int .i64 ((rd_T48 l0_2 x24_2).f2), .int .i64 ((rd_T48 l0_2 x24_2).f3), .int .i64 ((rd_T48 l0_2 x24_2).f4)] 48 (0, 0))) := ⟨(by rw [hw]; exact (by refine bU ?_; refine blk_put (cs := #[.int .i64 ((rd_T48 l0_2 x24_2).f0), .int .i64 ((rd_T48 l0_2 x24_2).f1), .int .i64 ((rd_T48 l0_2 x24_2).f2), .int .i64 ((rd_T48 l0_2 x24_2).f3), .int .i64 0]) ?_ 4 _ rfl; refine bU ?_; refine blk_put (cs := #[.int .i64 ((rd_T48 l0_2 x24_2).f0), .int .i64 ((rd_T48 l0_2 x24_2).f1), .int .i64 ((rd_T48 l0_2 x24_2).f2), .int .i64 0, .int .i64 0]) ?_ 3 _ rfl; refine bU ?_; refine blk_put (cs := #[.int .i64 ((rd_T48 l0_2 x24_2).f0), .int .i64 ((rd_T48 l0_2 x24_2).f1), .int .i64 0, .int .i64 0, .int .i64 0]) ?_ 2 _ rfl; refine bU ?_; refine blk_put (cs := #[.int .i64 ((rd_T48 l0_2 x24_2).f0), .int .i64 0, .int .i64 0, .int .i64 0, .int .i64 0]) ?_ 1 _ rfl; refine bU ?_; refine blk_put (cs := #[.int .i64 0, .int .i64 0, .int .i64 0, .int .i64 0, .int .i64 0]) ?_ 0 _ rfl; refine bU ?_; exact BK162.out))⟩; replace HB : Aside0 (Below w.heap.size w w44) := ⟨(by rw [hw]; exact (lV2 GE158 GE162))⟩; clear hw; have hcz45_0 := cz BK162 0 (.int .i64 ((rd_T48 l0_2 x24_2).f0)); have hcz45_1 := cz BK162 1 (.int .i64 ((rd_T48 l0_2 x24_2).f1)); have hcz45_2 := cz BK162 2 (.int .i64 ((rd_T48 l0_2 x24_2).f2)); have hcz45_3 := cz BK162 3 (.int .i64 ((rd_T48 l0_2 x24_2).f3)); have hcz45_4 := cz BK162 4 (.int .i64 ((rd_T48 l0_2 x24_2).f4)); have hfz45_0 := fz BK162 0; have hfz45_1 := fz BK162 1; have hfz45_2 := fz BK162 2; have hfz45_3 := fz BK162 3; have hfz45_4 := fz BK162 4) | ((with_reducible refine gate_callee (f := 36) rfl ?_); refine goesL_ (some 30) rfl rfl Try.func36 (by kernel_rfl) rfl #[.int .i64 ((rd_T48 l0_2 x24_2).f0)] rfl aE ?_; (with_reducible refine (spec_GoodFixed.calls ((rd_T48 l0_2 x24_2).f0) true _ A16.out).mono ?_); rintro e w' ⟨rfl, ⟨nd, rfl⟩⟩; refine ⟨_, rfl, ?_⟩) | (go_at_call 36; (with_reducible refine (spec_GoodFixed.calls ((rd_T48 l0_2 x24_2).f1) true _ A18.out).mono ?_); rintro e w' ⟨rfl, ⟨nd, rfl⟩⟩) | (go_at_call 36; (with_reducible refine (spec_GoodFixed.calls ((rd_T48 l0_2 x24_2).f2) false _ A20.out).mono ?_); rintro e w' ⟨rfl, ⟨nd, rfl⟩⟩))
            go_ret
            exact ⟨eE, lV2 GE158 GE162⟩
          ·replace c19 := Bool.eq_false_iff.mpr c19
           subst c19
           have H1 : (some false) = some r := by rw [if_neg (show ¬ (false = true) by decide)] at H; exact H
           clear H
           have H := H1
           clear H1
           obtain rfl := Option.some.inj H
           have p161 : 0 ≤ (x24_2 : Int) := of_decide_eq_true hE
           have q161 : x24_2 < (l0_2.length : Int) := of_decide_eq_true hE
           obtain ⟨ad161, e161, hx161_0, hx161_1, hx161_2, hx161_3, hx161_4⟩ := at_T48 HR0_2.out x24_2 p161 q161
           cases e161
           replace hx161_0 := (HB.out.cell (World.block_lt_of_cell? w _ hx161_0)).trans hx161_0
           replace hx161_1 := (HB.out.cell (World.block_lt_of_cell? w _ hx161_1)).trans hx161_1
           replace hx161_2 := (HB.out.cell (World.block_lt_of_cell? w _ hx161_2)).trans hx161_2
           replace hx161_3 := (HB.out.cell (World.block_lt_of_cell? w _ hx161_3)).trans hx161_3
           replace hx161_4 := (HB.out.cell (World.block_lt_of_cell? w _ hx161_4)).trans hx161_4
           replace p161 := eq_true p161
           replace q161 := eq_true q161
           go_wp2_with (first | ((with_reducible refine gate_dst (N := 4) rfl ?_); (try (refine gate_guard (by rfl) ?_; dsimp only)); refine box_event rfl (N := 4) rfl (cs := #[.int .i64 0, .int .i64 0, .int .i64 0, .int .i64 0, .int .i64 0]) (t := 48) sE ?_; intro gb162 hg w46 hbox hb; have BK162 := Aside0.mk hbox; have GW162 := gS w hg (lV1 GE158); have GE162 := GW162; replace HB := bH (lV1 GE158) hb; have NB158_162 := nL hg (bV BK158); have NB162_158 := nG hg (bV BK158); replace BK158 := bB (bV BK158) hb; clear hb hbox hg; have hnb47 := NB162_158.out; have hnc47 := NB158_162.out; have hcz48_0 := cz BK162 0 (.int .i64 0); have hcz48_1 := cz BK162 1 (.int .i64 0); have hcz48_2 := cz BK162 2 (.int .i64 0); have hcz48_3 := cz BK162 3 (.int .i64 0); have hcz48_4 := cz BK162 4 (.int .i64 0); have hfz48_0 := fz BK162 0; have hfz48_1 := fz BK162 1; have hfz48_2 := fz BK162 2; have hfz48_3 := fz BK162 3; have hfz48_4 := fz BK162 4) | ((with_reducible refine gate_store (t := 48) (p := 4) rfl ?_); refine store_event (t := 48) (p := 4) (v := ?vo_w49) (w1 := (((((w46.setCell ⟨gb162, 0, none⟩ (.int .i64 ((rd_T48 l0_2 x24_2).f0))).setCell ⟨gb162, 1, none⟩ (.int .i64 ((rd_T48 l0_2 x24_2).f1))).setCell ⟨gb162, 2, none⟩ (.int .i64 ((rd_T48 l0_2 x24_2).f2))).setCell ⟨gb162, 3, none⟩ (.int .i64 ((rd_T48 l0_2 x24_2).f3))).setCell ⟨gb162, 4, none⟩ (.int .i64 ((rd_T48 l0_2 x24_2).f4)))) ?hg ?ho ?hn ?hr ?_; (case ho => rfl); (case hg => rfl); (case hn => rfl); (case hr => first | (go_simp; done) | (go_simp; rfl) | (have hq0_ := (blk_cell BK162.out 0).trans (show _ = some _ from rfl); have hf0_ := blk_frozen BK162.out 0; have hq1_ := (blk_cell BK162.out 1).trans (show _ = some _ from rfl); have hf1_ := blk_frozen BK162.out 1; have hq2_ := (blk_cell BK162.out 2).trans (show _ = some _ from rfl); have hf2_ := blk_frozen BK162.out 2; have hq3_ := (blk_cell BK162.out 3).trans (show _ = some _ from rfl); have hf3_ := blk_frozen BK162.out 3; have hq4_ := (blk_cell BK162.out 4).trans (show _ = some _ from rfl); have hf4_ := blk_frozen BK162.out 4; first | (go_simp; done) | (go_simp; rfl))); intro w49 hw; replace BK158 : Aside0 (w49.heap[gb158]? = some (.cells #[.int .i64 a0_0, .int .i64 a0_1, .slice (some ad161) l0_2.length c0_2] 35 (0, 0))) := ⟨(by rw [hw]; exact (bG NB158_162 BK158))⟩; replace BK162 : Aside0 (w49.heap[gb162]? = some (.cells #[.int .i64 ((rd_T48 l0_2 x24_2).f0), .int .i64 ((rd_T48 l0_2 x24_2).f1), .int .i64 ((rd_T48 l0_2 x24_2).f2), .int .i64 ((rd_T48 l0_2 x24_2).f3), .int .i64 ((rd_T48 l0_2 x24_2).f4)] 48 (0, 0))) := ⟨(by rw [hw]; exact (by refine bU ?_; refine blk_put (cs := #[.int .i64 ((rd_T48 l0_2 x24_2).f0), .int .i64 ((rd_T48 l0_2 x24_2).f1), .int .i64 ((rd_T48 l0_2 x24_2).f2), .int .i64 ((rd_T48 l0_2 x24_2).f3), .int .i64 0]) ?_ 4 _ rfl; refine bU ?_; refine blk_put (cs := #[.int .i64 ((rd_T48 l0_2 x24_2).f0), .int .i64 ((rd_T48 l0_2 x24_2).f1), .int .i64 ((rd_T48 l0_2 x24_2).f2), .int .i64 0, .int .i64 0]) ?_ 3 _ rfl; refine bU ?_; refine blk_put (cs := #[.int .i64 ((rd_T48 l0_2 x24_2).f0), .int .i64 ((rd_T48 l0_2 x24_2).f1), .int .i64 0, .int .i64 0, .int .i64 0]) ?_ 2 _ rfl; refine bU ?_; refine blk_put (cs := #[.int .i64 ((rd_T48 l0_2 x24_2).f0), .int .i64 0, .int .i64 0, .int .i64 0, .int .i64 0]) ?_ 1 _ rfl; refine bU ?_; refine blk_put (cs := #[.int .i64 0, .int .i64 0, .int .i64 0, .int .i64 0, .int .i64 0]) ?_ 0 _ rfl; refine bU ?_; exact BK162.out))⟩; replace HB : Aside0 (Below w.heap.size w w49) := ⟨(by rw [hw]; exact (lV2 GE158 GE162))⟩; clear hw; have hcz50_0 := cz BK162 0 (.int .i64 ((rd_T48 l0_2 x24_2).f0)); have hcz50_1 := cz BK162 1 (.int .i64 ((rd_T48 l0_2 x24_2).f1)); have hcz50_2 := cz BK162 2 (.int .i64 ((rd_T48 l0_2 x24_2).f2)); have hcz50_3 := cz BK162 3 (.int .i64 ((rd_T48 l0_2 x24_2).f3)); have hcz50_4 := cz BK162 4 (.int .i64 ((rd_T48 l0_2 x24_2).f4)); have hfz50_0 := fz BK162 0; have hfz50_1 := fz BK162 1; have hfz50_2 := fz BK162 2; have hfz50_3 := fz BK162 3; have hfz50_4 := fz BK162 4) | ((with_reducible refine gate_callee (f := 36) rfl ?_); refine goesL_ (some 30) rfl rfl Try.func36 (by kernel_rfl) rfl #[.int .i64 ((rd_T48 l0_2 x24_2).f0)] rfl aE ?_; (with_reducible refine (spec_GoodFixed.calls ((rd_T48 l0_2 x24_2).f0) true _ A16.out).mono ?_); rintro e w' ⟨rfl, ⟨nd, rfl⟩⟩; refine ⟨_, rfl, ?_⟩) | (go_at_call 36; (with_reducible refine (spec_GoodFixed.calls ((rd_T48 l0_2 x24_2).f1) false _ A18.out).mono ?_); rintro e w' ⟨rfl, ⟨nd, rfl⟩⟩))
           go_ret
           exact ⟨eE, lV2 GE158 GE162⟩
         ·replace c17 := Bool.eq_false_iff.mpr c17
          subst c17
          have H1 : (some false) = some r := by rw [if_neg (show ¬ (false = true) by decide)] at H; exact H
          clear H
          have H := H1
          clear H1
          obtain rfl := Option.some.inj H
          have p161 : 0 ≤ (x24_2 : Int) := of_decide_eq_true hE
          have q161 : x24_2 < (l0_2.length : Int) := of_decide_eq_true hE
          obtain ⟨ad161, e161, hx161_0, hx161_1, hx161_2, hx161_3, hx161_4⟩ := at_T48 HR0_2.out x24_2 p161 q161
          cases e161
          replace hx161_0 := (HB.out.cell (World.block_lt_of_cell? w _ hx161_0)).trans hx161_0
          replace hx161_1 := (HB.out.cell (World.block_lt_of_cell? w _ hx161_1)).trans hx161_1
          replace hx161_2 := (HB.out.cell (World.block_lt_of_cell? w _ hx161_2)).trans hx161_2
          replace hx161_3 := (HB.out.cell (World.block_lt_of_cell? w _ hx161_3)).trans hx161_3
          replace hx161_4 := (HB.out.cell (World.block_lt_of_cell? w _ hx161_4)).trans hx161_4
          replace p161 := eq_true p161
          replace q161 := eq_true q161
          go_wp2_with (first | ((with_reducible refine gate_dst (N := 4) rfl ?_); (try (refine gate_guard (by rfl) ?_; dsimp only)); refine box_event rfl (N := 4) rfl (cs := #[.int .i64 0, .int .i64 0, .int .i64 0, .int .i64 0, .int .i64 0]) (t := 48) sE ?_; intro gb162 hg w51 hbox hb; have BK162 := Aside0.mk hbox; have GW162 := gS w hg (lV1 GE158); have GE162 := GW162; replace HB := bH (lV1 GE158) hb; have NB158_162 := nL hg (bV BK158); have NB162_158 := nG hg (bV BK158); replace BK158 := bB (bV BK158) hb; clear hb hbox hg; have hnb52 := NB162_158.out; have hnc52 := NB158_162.out; have hcz53_0 := cz BK162 0 (.int .i64 0); have hcz53_1 := cz BK162 1 (.int .i64 0); have hcz53_2 := cz BK162 2 (.int .i64 0); have hcz53_3 := cz BK162 3 (.int .i64 0); have hcz53_4 := cz BK162 4 (.int .i64 0); have hfz53_0 := fz BK162 0; have hfz53_1 := fz BK162 1; have hfz53_2 := fz BK162 2; have hfz53_3 := fz BK162 3; have hfz53_4 := fz BK162 4) | ((with_reducible refine gate_store (t := 48) (p := 4) rfl ?_); refine store_event (t := 48) (p := 4) (v := ?vo_w54) (w1 := (((((w51.setCell ⟨gb162, 0, none⟩ (.int .i64 ((rd_T48 l0_2 x24_2).f0))).setCell ⟨gb162, 1, none⟩ (.int .i64 ((rd_T48 l0_2 x24_2).f1))).setCell ⟨gb162, 2, none⟩ (.int .i64 ((rd_T48 l0_2 x24_2).f2))).setCell ⟨gb162, 3, none⟩ (.int .i64 ((rd_T48 l0_2 x24_2).f3))).setCell ⟨gb162, 4, none⟩ (.int .i64 ((rd_T48 l0_2 x24_2).f4)))) ?hg ?ho ?hn ?hr ?_; (case ho => rfl); (case hg => rfl); (case hn => rfl); (case hr => first | (go_simp; done) | (go_simp; rfl) | (have hq0_ := (blk_cell BK162.out 0).trans (show _ = some _ from rfl); have hf0_ := blk_frozen BK162.out 0; have hq1_ := (blk_cell BK162.out 1).trans (show _ = some _ from rfl); have hf1_ := blk_frozen BK162.out 1; have hq2_ := (blk_cell BK162.out 2).trans (show _ = some _ from rfl); have hf2_ := blk_frozen BK162.out 2; have hq3_ := (blk_cell BK162.out 3).trans (show _ = some _ from rfl); have hf3_ := blk_frozen BK162.out 3; have hq4_ := (blk_cell BK162.out 4).trans (show _ = some _ from rfl); have hf4_ := blk_frozen BK162.out 4; first | (go_simp; done) | (go_simp; rfl))); intro w54 hw; replace BK158 : Aside0 (w54.heap[gb158]? = some (.cells #[.int .i64 a0_0, .int .i64 a0_1, .slice (some ad161) l0_2.length c0_2] 35 (0, 0))) := ⟨(by rw [hw]; exact (bG NB158_162 BK158))⟩; replace BK162 : Aside0 (w54.heap[gb162]? = some (.cells #[.int .i64 ((rd_T48 l0_2 x24_2).f0), .int .i64 ((rd_T48 l0_2 x24_2).f1), .int .i64 ((rd_T48 l0_2 x24_2).f2), .int .i64 ((rd_T48 l0_2 x24_2).f3), .int .i64 ((rd_T48 l0_2 x24_2).f4)] 48 (0, 0))) := ⟨(by rw [hw]; exact (by refine bU ?_; refine blk_put (cs := #[.int .i64 ((rd_T48 l0_2 x24_2).f0), .int .i64 ((rd_T48 l0_2 x24_2).f1), .int .i64 ((rd_T48 l0_2 x24_2).f2), .int .i64 ((rd_T48 l0_2 x24_2).f3), .int .i64 0]) ?_ 4 _ rfl; refine bU ?_; refine blk_put (cs := #[.int .i64 ((rd_T48 l0_2 x24_2).f0), .int .i64 ((rd_T48 l0_2 x24_2).f1), .int .i64 ((rd_T48 l0_2 x24_2).f2), .int .i64 0, .int .i64 0]) ?_ 3 _ rfl; refine bU ?_; refine blk_put (cs := #[.int .i64 ((rd_T48 l0_2 x24_2).f0), .int .i64 ((rd_T48 l0_2 x24_2).f1), .int .i64 0, .int .i64 0, .int .i64 0]) ?_ 2 _ rfl; refine bU ?_; refine blk_put (cs := #[.int .i64 ((rd_T48 l0_2 x24_2).f0), .int .i64 0, .int .i64 0, .int .i64 0, .int .i64 0]) ?_ 1 _ rfl; refine bU ?_; refine blk_put (cs := #[.int .i64 0, .int .i64 0, .int .i64 0, .int .i64 0, .int .i64 0]) ?_ 0 _ rfl; refine bU ?_; exact BK162.out))⟩; replace HB : Aside0 (Below w.heap.size w w54) := ⟨(by rw [hw]; exact (lV2 GE158 GE162))⟩; clear hw; have hcz55_0 := cz BK162 0 (.int .i64 ((rd_T48 l0_2 x24_2).f0)); have hcz55_1 := cz BK162 1 (.int .i64 ((rd_T48 l0_2 x24_2).f1)); have hcz55_2 := cz BK162 2 (.int .i64 ((rd_T48 l0_2 x24_2).f2)); have hcz55_3 := cz BK162 3 (.int .i64 ((rd_T48 l0_2 x24_2).f3)); have hcz55_4 := cz BK162 4 (.int .i64 ((rd_T48 l0_2 x24_2).f4)); have hfz55_0 := fz BK162 0; have hfz55_1 := fz BK162 1; have hfz55_2 := fz BK162 2; have hfz55_3 := fz BK162 3; have hfz55_4 := fz BK162 4) | ((with_reducible refine gate_callee (f := 36) rfl ?_); refine goesL_ (some 30) rfl rfl Try.func36 (by kernel_rfl) rfl #[.int .i64 ((rd_T48 l0_2 x24_2).f0)] rfl aE ?_; (with_reducible refine (spec_GoodFixed.calls ((rd_T48 l0_2 x24_2).f0) false _ A16.out).mono ?_); rintro e w' ⟨rfl, ⟨nd, rfl⟩⟩; refine ⟨_, rfl, ?_⟩))
          go_ret
          exact ⟨eE, lV2 GE158 GE162⟩
        ·rw [if_neg c15] at H
         exact absurd H (by simp)
       ·rw [if_neg c14] at H
        exact absurd H (by simp)
      ·rw [if_neg c13] at H
       have c13b0 : decide (x24_2 < (l0_2.length : Int)) = false := decide_eq_false c13
       clear c13
       obtain rfl := Option.some.inj H
       go_wp2
       go_ret
       exact ⟨eE, lV1 GE158⟩
def spec_l1Coin.f (a0 : Int) : Option (Int × Int) := some (Int.tmod (wrap64 ((wrap64 (a0 * 1103515245)) + 12345)) 2147483648, wrap64 (Int.tdiv (Int.tmod (wrap64 ((wrap64 (a0 * 1103515245)) + 12345)) 2147483648) 65536))
set_option maxHeartbeats 8000000 in
set_option maxRecDepth 100000 in
theorem spec_l1Coin.calls (a0 : Int) (r1 : Int) (r2 : Int) (w : World) (h : spec_l1Coin.f a0 = some (r1, r2)) :
  Calls Try.prog 21 #[.int .i64 a0] w fun e w' => e = .returned (.tuple #[.int .i64 r1, .int .i64 r2]) ∧ Drawn0 w w' := by
 have H : (some (Int.tmod (wrap64 ((wrap64 (a0 * 1103515245)) + 12345)) 2147483648, wrap64 (Int.tdiv (Int.tmod (wrap64 ((wrap64 (a0 * 1103515245)) + 12345)) 2147483648) 65536))) = some (r1, r2) := h
 clear h
 simp only [Option.some.injEq, Prod.mk.injEq] at H
 obtain ⟨rfl, rfl⟩ := H
 go_enter Try.func21, Try.ntmps21
 go_wp2
 go_ret2
 exact ⟨by first | rfl | (simp; done) | (simp [*]; done) | exact not_isEmpty _ | exact (not_isEmpty _).symm | exact is_empty _ | exact (is_empty _).symm, by repeat (first | exact Drawn0.refl _ | apply Drawn0.step)⟩
def spec_l1Plus.f (a0_0 : Int) (a0_1 : Int) (a1 : Int) : Option (Int × Int) := if (IntKind.u64.wrap (a0_1 + a1)) < a0_1 then (some (IntKind.u64.wrap (a0_0 + 1), IntKind.u64.wrap (a0_1 + a1))) else (some (a0_0, IntKind.u64.wrap (a0_1 + a1)))
set_option maxHeartbeats 8000000 in
set_option maxRecDepth 100000 in
theorem spec_l1Plus.calls (a0_0 : Int) (a0_1 : Int) (a1 : Int) (r1 : Int) (r2 : Int) (w : World) (h : spec_l1Plus.f a0_0 a0_1 a1 = some (r1, r2)) :
  Calls Try.prog 51 #[.agg #[.int .u64 a0_0, .int .u64 a0_1], .int .u64 a1] w fun e w' => e = .returned (.agg #[.int .u64 r1, .int .u64 r2]) ∧ Below w.heap.size w w' := by
 have hu63 := Try.underlying63
 have HB := Aside0.mk (Below.refl w.heap.size w)
 have H : (if (IntKind.u64.wrap (a0_1 + a1)) < a0_1 then (some (IntKind.u64.wrap (a0_0 + 1), IntKind.u64.wrap (a0_1 + a1))) else (some (a0_0, IntKind.u64.wrap (a0_1 + a1)))) = some (r1, r2) := h
 clear h
 by_cases c3 : (IntKind.u64.wrap (a0_1 + a1)) < a0_1
 ·rw [if_pos c3] at H
  have c3b0 : decide ((IntKind.u64.wrap (a0_1 + a1)) < a0_1) = true := decide_eq_true c3
  clear c3
  simp only [Option.some.injEq, Prod.mk.injEq] at H
  obtain ⟨rfl, rfl⟩ := H
  go_enter Try.func51, Try.ntmps51
  go_wp2_with (first | ((with_reducible refine gate_dst (N := 2) rfl ?_); refine box_event rfl (N := 2) rfl (cs := #[.int .u64 a0_0, .int .u64 a0_1]) (t := 63) sE ?_; intro gb168 hg w4 hbox hb; have BK168 := Aside0.mk hbox; have GW168 := gS w hg (lU); have GE168 := GW168; replace HB := bH (lU) hb; clear hb hbox hg) | ((with_reducible refine gate_dst (N := 4) rfl ?_); refine box_event rfl (N := 4) rfl (cs := #[.int .u64 0, .int .u64 0]) (t := 63) sE ?_; intro gb169 hg w5 hbox hb; have BK169 := Aside0.mk hbox; have GW169 := gS w hg (lV1 GE168); have GE169 := GW169; replace HB := bH (lV1 GE168) hb; have NB168_169 := nL hg (bV BK168); have NB169_168 := nG hg (bV BK168); replace BK168 := bB (bV BK168) hb; clear hb hbox hg; have hnb6 := NB168_169.out; have hnc6 := NB169_168.out; have hcz7_0 := cz BK168 0 (.int .u64 a0_0); have hcz7_1 := cz BK168 1 (.int .u64 a0_1); have hfz7_0 := fz BK168 0; have hfz7_1 := fz BK168 1) | ((with_reducible refine gate_store (t := 61) (p := 17) rfl ?_); refine store_event (t := 61) (p := 17) (v := ?vo_w8) (w1 := (w5.setCell ⟨gb168, 0, none⟩ (.int .u64 (IntKind.u64.wrap (a0_0 + 1))))) ?hg ?ho ?hn ?hr ?_; (case ho => rfl); (case hg => rfl); (case hn => rfl); (case hr => first | (go_simp; done) | (go_simp; rfl) | (have hq0_ := (blk_cell BK168.out 0).trans (show _ = some _ from rfl); have hf0_ := blk_frozen BK168.out 0; first | (go_simp; done) | (go_simp; rfl))); intro w8 hw; replace BK168 : Aside0 (w8.heap[gb168]? = some (.cells #[.int .u64 (IntKind.u64.wrap (a0_0 + 1)), .int .u64 a0_1] 63 (0, 0))) := ⟨(by rw [hw]; exact (by refine bU ?_; refine blk_put (cs := #[.int .u64 a0_0, .int .u64 a0_1]) ?_ 0 _ rfl; refine bU ?_; exact BK168.out))⟩; replace BK169 : Aside0 (w8.heap[gb169]? = some (.cells #[.int .u64 0, .int .u64 0] 63 (0, 0))) := ⟨(by rw [hw]; exact (bG NB169_168 BK169))⟩; replace HB : Aside0 (Below w.heap.size w w8) := ⟨(by rw [hw]; exact (lV2 GE168 GE169))⟩; clear hw; have hcz9_0 := cz BK168 0 (.int .u64 (IntKind.u64.wrap (a0_0 + 1))); have hcz9_1 := cz BK168 1 (.int .u64 a0_1); have hfz9_0 := fz BK168 0; have hfz9_1 := fz BK168 1; have hcz10_0 := cz BK169 0 (.int .u64 0); have hcz10_1 := cz BK169 1 (.int .u64 0); have hfz10_0 := fz BK169 0; have hfz10_1 := fz BK169 1) | ((with_reducible refine gate_store (t := 63) (p := 4) rfl ?_); refine store_event (t := 63) (p := 4) (v := ?vo_w11) (w1 := ((w8.setCell ⟨gb169, 0, none⟩ (.int .u64 (IntKind.u64.wrap (a0_0 + 1)))).setCell ⟨gb169, 1, none⟩ (.int .u64 (IntKind.u64.wrap (a0_1 + a1))))) ?hg ?ho ?hn ?hr ?_; (case ho => rfl); (case hg => rfl); (case hn => rfl); (case hr => first | (go_simp; done) | (go_simp; rfl) | (have hq0_ := (blk_cell BK169.out 0).trans (show _ = some _ from rfl); have hf0_ := blk_frozen BK169.out 0; have hq1_ := (blk_cell BK169.out 1).trans (show _ = some _ from rfl); have hf1_ := blk_frozen BK169.out 1; first | (go_simp; done) | (go_simp; rfl))); intro w11 hw; replace BK168 : Aside0 (w11.heap[gb168]? = some (.cells #[.int .u64 (IntKind.u64.wrap (a0_0 + 1)), .int .u64 a0_1] 63 (0, 0))) := ⟨(by rw [hw]; exact (bG NB168_169 BK168))⟩; replace BK169 : Aside0 (w11.heap[gb169]? = some (.cells #[.int .u64 (IntKind.u64.wrap (a0_0 + 1)), .int .u64 (IntKind.u64.wrap (a0_1 + a1))] 63 (0, 0))) := ⟨(by rw [hw]; exact (by refine bU ?_; refine blk_put (cs := #[.int .u64 (IntKind.u64.wrap (a0_0 + 1)), .int .u64 0]) ?_ 1 _ rfl; refine bU ?_; refine blk_put (cs := #[.int .u64 0, .int .u64 0]) ?_ 0 _ rfl; refine bU ?_; exact BK169.out))⟩; replace HB : Aside0 (Below w.heap.size w w11) := ⟨(by rw [hw]; exact (lV2 GE168 GE169))⟩; clear hw))
  refine bodyPost_ret (results_cell_row rfl _ _ gb169 63 #[.int .u64 (IntKind.u64.wrap (a0_0 + 1)), .int .u64 (IntKind.u64.wrap (a0_1 + a1))] (0, 0) _ rfl (bV BK169) Try.underlying63 rfl (by kernel_rfl)) rfl ?_
  exact ⟨eE, lV2 GE168 GE169⟩
 ·rw [if_neg c3] at H
  have c3b0 : decide ((IntKind.u64.wrap (a0_1 + a1)) < a0_1) = false := decide_eq_false c3
  clear c3
  simp only [Option.some.injEq, Prod.mk.injEq] at H
  obtain ⟨rfl, rfl⟩ := H
  go_enter Try.func51, Try.ntmps51
  go_wp2_with (first | ((with_reducible refine gate_dst (N := 2) rfl ?_); refine box_event rfl (N := 2) rfl (cs := #[.int .u64 a0_0, .int .u64 a0_1]) (t := 63) sE ?_; intro gb168 hg w12 hbox hb; have BK168 := Aside0.mk hbox; have GW168 := gS w hg (lU); have GE168 := GW168; replace HB := bH (lU) hb; clear hb hbox hg) | ((with_reducible refine gate_dst (N := 4) rfl ?_); refine box_event rfl (N := 4) rfl (cs := #[.int .u64 0, .int .u64 0]) (t := 63) sE ?_; intro gb169 hg w13 hbox hb; have BK169 := Aside0.mk hbox; have GW169 := gS w hg (lV1 GE168); have GE169 := GW169; replace HB := bH (lV1 GE168) hb; have NB168_169 := nL hg (bV BK168); have NB169_168 := nG hg (bV BK168); replace BK168 := bB (bV BK168) hb; clear hb hbox hg; have hnb14 := NB168_169.out; have hnc14 := NB169_168.out; have hcz15_0 := cz BK168 0 (.int .u64 a0_0); have hcz15_1 := cz BK168 1 (.int .u64 a0_1); have hfz15_0 := fz BK168 0; have hfz15_1 := fz BK168 1; have hcz16_0 := cz BK169 0 (.int .u64 0); have hcz16_1 := cz BK169 1 (.int .u64 0); have hfz16_0 := fz BK169 0; have hfz16_1 := fz BK169 1) | ((with_reducible refine gate_store (t := 63) (p := 4) rfl ?_); refine store_event (t := 63) (p := 4) (v := ?vo_w17) (w1 := ((w13.setCell ⟨gb169, 0, none⟩ (.int .u64 a0_0)).setCell ⟨gb169, 1, none⟩ (.int .u64 (IntKind.u64.wrap (a0_1 + a1))))) ?hg ?ho ?hn ?hr ?_; (case ho => rfl); (case hg => rfl); (case hn => rfl); (case hr => first | (go_simp; done) | (go_simp; rfl) | (have hq0_ := (blk_cell BK169.out 0).trans (show _ = some _ from rfl); have hf0_ := blk_frozen BK169.out 0; have hq1_ := (blk_cell BK169.out 1).trans (show _ = some _ from rfl); have hf1_ := blk_frozen BK169.out 1; first | (go_simp; done) | (go_simp; rfl))); intro w17 hw; replace BK168 : Aside0 (w17.heap[gb168]? = some (.cells #[.int .u64 a0_0, .int .u64 a0_1] 63 (0, 0))) := ⟨(by rw [hw]; exact (bG NB168_169 BK168))⟩; replace BK169 : Aside0 (w17.heap[gb169]? = some (.cells #[.int .u64 a0_0, .int .u64 (IntKind.u64.wrap (a0_1 + a1))] 63 (0, 0))) := ⟨(by rw [hw]; exact (by refine bU ?_; refine blk_put (cs := #[.int .u64 a0_0, .int .u64 0]) ?_ 1 _ rfl; refine bU ?_; refine blk_put (cs := #[.int .u64 0, .int .u64 0]) ?_ 0 _ rfl; refine bU ?_; exact BK169.out))⟩; replace HB : Aside0 (Below w.heap.size w w17) := ⟨(by rw [hw]; exact (lV2 GE168 GE169))⟩; clear hw))
  refine bodyPost_ret (results_cell_row rfl _ _ gb169 63 #[.int .u64 a0_0, .int .u64 (IntKind.u64.wrap (a0_1 + a1))] (0, 0) _ rfl (bV BK169) Try.underlying63 rfl (by kernel_rfl)) rfl ?_
  exact ⟨eE, lV2 GE168 GE169⟩
def spec_l1Sum.f (a0_0 : Int) (a0_1 : Int) (a1_0 : Int) (a1_1 : Int) : Option (Int × Int) := (spec_l1Plus.f a0_0 a0_1 a1_1).bind fun bt173 => (some (IntKind.u64.wrap (bt173.1 + a1_0), bt173.2))
set_option maxHeartbeats 8000000 in
set_option maxRecDepth 100000 in
theorem spec_l1Sum.calls (a0_0 : Int) (a0_1 : Int) (a1_0 : Int) (a1_1 : Int) (r1 : Int) (r2 : Int) (w : World) (h : spec_l1Sum.f a0_0 a0_1 a1_0 a1_1 = some (r1, r2)) :
  Calls Try.prog 50 #[.agg #[.int .u64 a0_0, .int .u64 a0_1], .agg #[.int .u64 a1_0, .int .u64 a1_1]] w fun e w' => e = .returned (.agg #[.int .u64 r1, .int .u64 r2]) ∧ Below w.heap.size w w' := by
 have hu63 := Try.underlying63
 have HB := Aside0.mk (Below.refl w.heap.size w)
 have H : ((spec_l1Plus.f a0_0 a0_1 a1_1).bind fun bt173 => (some (IntKind.u64.wrap (bt173.1 + a1_0), bt173.2))) = some (r1, r2) := h
 clear h
 replace H := Option.bind_eq_some_iff.mp H
 obtain ⟨⟨t173, t174⟩, A30, H⟩ := H
 replace H : (some (IntKind.u64.wrap (t173 + a1_0), t174)) = some (r1, r2) := H
 have A3 := Aside0.mk A30
 clear A30
 simp only [Option.some.injEq, Prod.mk.injEq] at H
 obtain ⟨rfl, rfl⟩ := H
 go_enter Try.func50, Try.ntmps50
 go_wp2_with (first | ((with_reducible refine gate_dst (N := 2) rfl ?_); refine box_event rfl (N := 2) rfl (cs := #[.int .u64 a0_0, .int .u64 a0_1]) (t := 63) sE ?_; intro gb170 hg w4 hbox hb; have BK170 := Aside0.mk hbox; have GW170 := gS w hg (lU); have GE170 := GW170; replace HB := bH (lU) hb; clear hb hbox hg) | ((with_reducible refine gate_dst (N := 3) rfl ?_); refine box_event rfl (N := 3) rfl (cs := #[.int .u64 a1_0, .int .u64 a1_1]) (t := 63) sE ?_; intro gb171 hg w5 hbox hb; have BK171 := Aside0.mk hbox; have GW171 := gS w hg (lV1 GE170); have GE171 := GW171; replace HB := bH (lV1 GE170) hb; have NB170_171 := nL hg (bV BK170); have NB171_170 := nG hg (bV BK170); replace BK170 := bB (bV BK170) hb; clear hb hbox hg) | ((with_reducible refine gate_dst (N := 4) rfl ?_); refine box_event rfl (N := 4) rfl (cs := #[.int .u64 0, .int .u64 0]) (t := 63) sE ?_; intro gb172 hg w6 hbox hb; have BK172 := Aside0.mk hbox; have GW172 := gS w hg (lV2 GE170 GE171); have GE172 := GW172; replace HB := bH (lV2 GE170 GE171) hb; have NB170_172 := nL hg (bV BK170); have NB172_170 := nG hg (bV BK170); replace BK170 := bB (bV BK170) hb; have NB171_172 := nL hg (bV BK171); have NB172_171 := nG hg (bV BK171); replace BK171 := bB (bV BK171) hb; clear hb hbox hg; have hnb7 := NB170_171.out; have hnc7 := NB171_170.out; have hnb8 := NB170_172.out; have hnc8 := NB172_170.out; have hcz9_0 := cz BK170 0 (.int .u64 a0_0); have hcz9_1 := cz BK170 1 (.int .u64 a0_1); have hfz9_0 := fz BK170 0; have hfz9_1 := fz BK170 1; have hnb10 := NB171_172.out; have hnc10 := NB172_171.out; have hcz11_0 := cz BK171 0 (.int .u64 a1_0); have hcz11_1 := cz BK171 1 (.int .u64 a1_1); have hfz11_0 := fz BK171 0; have hfz11_1 := fz BK171 1) | ((with_reducible refine gate_callee (f := 51) rfl ?_); refine goesL_ (some 8) rfl rfl Try.func51 (by kernel_rfl) rfl #[.agg #[.int .u64 a0_0, .int .u64 a0_1], .int .u64 a1_1] rfl aE ?_; (with_reducible refine (spec_l1Plus.calls a0_0 a0_1 a1_1 t173 t174 _ A3.out).mono ?_); rintro e w12 ⟨rfl, hb⟩; refine ⟨_, rfl, ?_⟩; replace BK170 := bB (bV BK170) hb; replace BK171 := bB (bV BK171) hb; replace BK172 := bB (bV BK172) hb; replace HB := bH (lV3 GE170 GE171 GE172) hb; (try clear hb); have hcz13_0 := cz BK170 0 (.int .u64 a0_0); have hcz13_1 := cz BK170 1 (.int .u64 a0_1); have hfz13_0 := fz BK170 0; have hfz13_1 := fz BK170 1) | ((with_reducible refine gate_store (t := 63) (p := 2) rfl ?_); refine store_event (t := 63) (p := 2) (v := ?vo_w14) (w1 := ((w12.setCell ⟨gb170, 0, none⟩ (.int .u64 t173)).setCell ⟨gb170, 1, none⟩ (.int .u64 t174))) ?hg ?ho ?hn ?hr ?_; (case ho => rfl); (case hg => rfl); (case hn => rfl); (case hr => first | (go_simp; done) | (go_simp; rfl) | (have hq0_ := (blk_cell BK170.out 0).trans (show _ = some _ from rfl); have hf0_ := blk_frozen BK170.out 0; have hq1_ := (blk_cell BK170.out 1).trans (show _ = some _ from rfl); have hf1_ := blk_frozen BK170.out 1; first | (go_simp; done) | (go_simp; rfl))); intro w14 hw; replace BK170 : Aside0 (w14.heap[gb170]? = some (.cells #[.int .u64 t173, .int .u64 t174] 63 (0, 0))) := ⟨(by rw [hw]; exact (by refine bU ?_; refine blk_put (cs := #[.int .u64 t173, .int .u64 a0_1]) ?_ 1 _ rfl; refine bU ?_; refine blk_put (cs := #[.int .u64 a0_0, .int .u64 a0_1]) ?_ 0 _ rfl; refine bU ?_; exact BK170.out))⟩; replace BK171 : Aside0 (w14.heap[gb171]? = some (.cells #[.int .u64 a1_0, .int .u64 a1_1] 63 (0, 0))) := ⟨(by rw [hw]; exact (bG NB171_170 BK171))⟩; replace BK172 : Aside0 (w14.heap[gb172]? = some (.cells #[.int .u64 0, .int .u64 0] 63 (0, 0))) := ⟨(by rw [hw]; exact (bG NB172_170 BK172))⟩; replace HB : Aside0 (Below w.heap.size w w14) := ⟨(by rw [hw]; exact (lV3 GE170 GE171 GE172))⟩; clear hw; have hcz15_0 := cz BK170 0 (.int .u64 t173); have hcz15_1 := cz BK170 1 (.int .u64 t174); have hfz15_0 := fz BK170 0; have hfz15_1 := fz BK170 1; have hcz16_0 := cz BK171 0 (.int .u64 a1_0); have hcz16_1 := cz BK171 1 (.int .u64 a1_1); have hfz16_0 := fz BK171 0; have hfz16_1 := fz BK171 1) | ((with_reducible refine gate_store (t := 61) (p := 14) rfl ?_); refine store_event (t := 61) (p := 14) (v := ?vo_w17) (w1 := (w14.setCell ⟨gb170, 0, none⟩ (.int .u64 (IntKind.u64.wrap (t173 + a1_0))))) ?hg ?ho ?hn ?hr ?_; (case ho => rfl); (case hg => rfl); (case hn => rfl); (case hr => first | (go_simp; done) | (go_simp; rfl) | (have hq0_ := (blk_cell BK170.out 0).trans (show _ = some _ from rfl); have hf0_ := blk_frozen BK170.out 0; first | (go_simp; done) | (go_simp; rfl))); intro w17 hw; replace BK170 : Aside0 (w17.heap[gb170]? = some (.cells #[.int .u64 (IntKind.u64.wrap (t173 + a1_0)), .int .u64 t174] 63 (0, 0))) := ⟨(by rw [hw]; exact (by refine bU ?_; refine blk_put (cs := #[.int .u64 t173, .int .u64 t174]) ?_ 0 _ rfl; refine bU ?_; exact BK170.out))⟩; replace BK171 : Aside0 (w17.heap[gb171]? = some (.cells #[.int .u64 a1_0, .int .u64 a1_1] 63 (0, 0))) := ⟨(by rw [hw]; exact (bG NB171_170 BK171))⟩; replace BK172 : Aside0 (w17.heap[gb172]? = some (.cells #[.int .u64 0, .int .u64 0] 63 (0, 0))) := ⟨(by rw [hw]; exact (bG NB172_170 BK172))⟩; replace HB : Aside0 (Below w.heap.size w w17) := ⟨(by rw [hw]; exact (lV3 GE170 GE171 GE172))⟩; clear hw; have hcz18_0 := cz BK170 0 (.int .u64 (IntKind.u64.wrap (t173 + a1_0))); have hcz18_1 := cz BK170 1 (.int .u64 t174); have hfz18_0 := fz BK170 0; have hfz18_1 := fz BK170 1; have hcz19_0 := cz BK172 0 (.int .u64 0); have hcz19_1 := cz BK172 1 (.int .u64 0); have hfz19_0 := fz BK172 0; have hfz19_1 := fz BK172 1) | ((with_reducible refine gate_store (t := 63) (p := 4) rfl ?_); refine store_event (t := 63) (p := 4) (v := ?vo_w20) (w1 := ((w17.setCell ⟨gb172, 0, none⟩ (.int .u64 (IntKind.u64.wrap (t173 + a1_0)))).setCell ⟨gb172, 1, none⟩ (.int .u64 t174))) ?hg ?ho ?hn ?hr ?_; (case ho => rfl); (case hg => rfl); (case hn => rfl); (case hr => first | (go_simp; done) | (go_simp; rfl) | (have hq0_ := (blk_cell BK172.out 0).trans (show _ = some _ from rfl); have hf0_ := blk_frozen BK172.out 0; have hq1_ := (blk_cell BK172.out 1).trans (show _ = some _ from rfl); have hf1_ := blk_frozen BK172.out 1; first | (go_simp; done) | (go_simp; rfl))); intro w20 hw; replace BK170 : Aside0 (w20.heap[gb170]? = some (.cells #[.int .u64 (IntKind.u64.wrap (t173 + a1_0)), .int .u64 t174] 63 (0, 0))) := ⟨(by rw [hw]; exact (bG NB170_172 BK170))⟩; replace BK171 : Aside0 (w20.heap[gb171]? = some (.cells #[.int .u64 a1_0, .int .u64 a1_1] 63 (0, 0))) := ⟨(by rw [hw]; exact (bG NB171_172 BK171))⟩; replace BK172 : Aside0 (w20.heap[gb172]? = some (.cells #[.int .u64 (IntKind.u64.wrap (t173 + a1_0)), .int .u64 t174] 63 (0, 0))) := ⟨(by rw [hw]; exact (by refine bU ?_; refine blk_put (cs := #[.int .u64 (IntKind.u64.wrap (t173 + a1_0)), .int .u64 0]) ?_ 1 _ rfl; refine bU ?_; refine blk_put (cs := #[.int .u64 0, .int .u64 0]) ?_ 0 _ rfl; refine bU ?_; exact BK172.out))⟩; replace HB : Aside0 (Below w.heap.size w w20) := ⟨(by rw [hw]; exact (lV3 GE170 GE171 GE172))⟩; clear hw))
 refine bodyPost_ret (results_cell_row rfl _ _ gb172 63 #[.int .u64 (IntKind.u64.wrap (t173 + a1_0)), .int .u64 t174] (0, 0) _ rfl (bV BK172) Try.underlying63 rfl (by kernel_rfl)) rfl ?_
 exact ⟨eE, lV3 GE170 GE171 GE172⟩
def spec_l1Times.f (a0 : Int) (a1 : Int) : Option (Int × Int) := some (IntKind.u64.wrap ((IntKind.u64.wrap ((IntKind.u64.wrap ((IntKind.u64.wrap (Int.tdiv a0 4294967296)) * (IntKind.u64.wrap (Int.tdiv a1 4294967296)))) + (IntKind.u64.wrap (Int.tdiv (IntKind.u64.wrap ((IntKind.u64.wrap ((IntKind.u64.wrap (Int.tdiv a0 4294967296)) * (Int.tmod a1 4294967296))) + (IntKind.u64.wrap (Int.tdiv (IntKind.u64.wrap ((Int.tmod a0 4294967296) * (Int.tmod a1 4294967296))) 4294967296)))) 4294967296)))) + (IntKind.u64.wrap (Int.tdiv (IntKind.u64.wrap ((IntKind.u64.wrap ((Int.tmod a0 4294967296) * (IntKind.u64.wrap (Int.tdiv a1 4294967296)))) + (Int.tmod (IntKind.u64.wrap ((IntKind.u64.wrap ((IntKind.u64.wrap (Int.tdiv a0 4294967296)) * (Int.tmod a1 4294967296))) + (IntKind.u64.wrap (Int.tdiv (IntKind.u64.wrap ((Int.tmod a0 4294967296) * (Int.tmod a1 4294967296))) 4294967296)))) 4294967296))) 4294967296))), Go.bits .or .u64 (IntKind.u64.wrap ((IntKind.u64.wrap ((IntKind.u64.wrap ((Int.tmod a0 4294967296) * (IntKind.u64.wrap (Int.tdiv a1 4294967296)))) + (Int.tmod (IntKind.u64.wrap ((IntKind.u64.wrap ((IntKind.u64.wrap (Int.tdiv a0 4294967296)) * (Int.tmod a1 4294967296))) + (IntKind.u64.wrap (Int.tdiv (IntKind.u64.wrap ((Int.tmod a0 4294967296) * (Int.tmod a1 4294967296))) 4294967296)))) 4294967296))) * 4294967296)) (Int.tmod (IntKind.u64.wrap ((Int.tmod a0 4294967296) * (Int.tmod a1 4294967296))) 4294967296))
set_option maxHeartbeats 8000000 in
set_option maxRecDepth 100000 in
theorem spec_l1Times.calls (a0 : Int) (a1 : Int) (r1 : Int) (r2 : Int) (w : World) (h : spec_l1Times.f a0 a1 = some (r1, r2)) :
  Calls Try.prog 38 #[.int .u64 a0, .int .u64 a1] w fun e w' => e = .returned (.agg #[.int .u64 r1, .int .u64 r2]) ∧ Below w.heap.size w w' := by
 have hu63 := Try.underlying63
 have HB := Aside0.mk (Below.refl w.heap.size w)
 have H : (some (IntKind.u64.wrap ((IntKind.u64.wrap ((IntKind.u64.wrap ((IntKind.u64.wrap (Int.tdiv a0 4294967296)) * (IntKind.u64.wrap (Int.tdiv a1 4294967296)))) + (IntKind.u64.wrap (Int.tdiv (IntKind.u64.wrap ((IntKind.u64.wrap ((IntKind.u64.wrap (Int.tdiv a0 4294967296)) * (Int.tmod a1 4294967296))) + (IntKind.u64.wrap (Int.tdiv (IntKind.u64.wrap ((Int.tmod a0 4294967296) * (Int.tmod a1 4294967296))) 4294967296)))) 4294967296)))) + (IntKind.u64.wrap (Int.tdiv (IntKind.u64.wrap ((IntKind.u64.wrap ((Int.tmod a0 4294967296) * (IntKind.u64.wrap (Int.tdiv a1 4294967296)))) + (Int.tmod (IntKind.u64.wrap ((IntKind.u64.wrap ((IntKind.u64.wrap (Int.tdiv a0 4294967296)) * (Int.tmod a1 4294967296))) + (IntKind.u64.wrap (Int.tdiv (IntKind.u64.wrap ((Int.tmod a0 4294967296) * (Int.tmod a1 4294967296))) 4294967296)))) 4294967296))) 4294967296))), Go.bits .or .u64 (IntKind.u64.wrap ((IntKind.u64.wrap ((IntKind.u64.wrap ((Int.tmod a0 4294967296) * (IntKind.u64.wrap (Int.tdiv a1 4294967296)))) + (Int.tmod (IntKind.u64.wrap ((IntKind.u64.wrap ((IntKind.u64.wrap (Int.tdiv a0 4294967296)) * (Int.tmod a1 4294967296))) + (IntKind.u64.wrap (Int.tdiv (IntKind.u64.wrap ((Int.tmod a0 4294967296) * (Int.tmod a1 4294967296))) 4294967296)))) 4294967296))) * 4294967296)) (Int.tmod (IntKind.u64.wrap ((Int.tmod a0 4294967296) * (Int.tmod a1 4294967296))) 4294967296))) = some (r1, r2) := h
 clear h
 simp only [Option.some.injEq, Prod.mk.injEq] at H
 obtain ⟨rfl, rfl⟩ := H
 go_enter Try.func38, Try.ntmps38
 go_wp2_with (first | ((with_reducible refine gate_dst (N := 4) rfl ?_); refine box_event rfl (N := 4) rfl (cs := #[.int .u64 0, .int .u64 0]) (t := 63) sE ?_; intro gb175 hg w3 hbox hb; have BK175 := Aside0.mk hbox; have GW175 := gS w hg (lU); have GE175 := GW175; replace HB := bH (lU) hb; clear hb hbox hg; have hcz4_0 := cz BK175 0 (.int .u64 0); have hcz4_1 := cz BK175 1 (.int .u64 0); have hfz4_0 := fz BK175 0; have hfz4_1 := fz BK175 1) | ((with_reducible refine gate_store (t := 63) (p := 4) rfl ?_); refine store_event (t := 63) (p := 4) (v := ?vo_w5) (w1 := ((w3.setCell ⟨gb175, 0, none⟩ (.int .u64 (IntKind.u64.wrap ((IntKind.u64.wrap ((IntKind.u64.wrap ((IntKind.u64.wrap (Int.tdiv a0 4294967296)) * (IntKind.u64.wrap (Int.tdiv a1 4294967296)))) + (IntKind.u64.wrap (Int.tdiv (IntKind.u64.wrap ((IntKind.u64.wrap ((IntKind.u64.wrap (Int.tdiv a0 4294967296)) * (Int.tmod a1 4294967296))) + (IntKind.u64.wrap (Int.tdiv (IntKind.u64.wrap ((Int.tmod a0 4294967296) * (Int.tmod a1 4294967296))) 4294967296)))) 4294967296)))) + (IntKind.u64.wrap (Int.tdiv (IntKind.u64.wrap ((IntKind.u64.wrap ((Int.tmod a0 4294967296) * (IntKind.u64.wrap (Int.tdiv a1 4294967296)))) + (Int.tmod (IntKind.u64.wrap ((IntKind.u64.wrap ((IntKind.u64.wrap (Int.tdiv a0 4294967296)) * (Int.tmod a1 4294967296))) + (IntKind.u64.wrap (Int.tdiv (IntKind.u64.wrap ((Int.tmod a0 4294967296) * (Int.tmod a1 4294967296))) 4294967296)))) 4294967296))) 4294967296)))))).setCell ⟨gb175, 1, none⟩ (.int .u64 (Go.bits .or .u64 (IntKind.u64.wrap ((IntKind.u64.wrap ((IntKind.u64.wrap ((Int.tmod a0 4294967296) * (IntKind.u64.wrap (Int.tdiv a1 4294967296)))) + (Int.tmod (IntKind.u64.wrap ((IntKind.u64.wrap ((IntKind.u64.wrap (Int.tdiv a0 4294967296)) * (Int.tmod a1 4294967296))) + (IntKind.u64.wrap (Int.tdiv (IntKind.u64.wrap ((Int.tmod a0 4294967296) * (Int.tmod a1 4294967296))) 4294967296)))) 4294967296))) * 4294967296)) (Int.tmod (IntKind.u64.wrap ((Int.tmod a0 4294967296) * (Int.tmod a1 4294967296))) 4294967296))))) ?hg ?ho ?hn ?hr ?_; (case ho => rfl); (case hg => rfl); (case hn => rfl); (case hr => first | (go_simp; done) | (go_simp; rfl) | (have hq0_ := (blk_cell BK175.out 0).trans (show _ = some _ from rfl); have hf0_ := blk_frozen BK175.out 0; have hq1_ := (blk_cell BK175.out 1).trans (show _ = some _ from rfl); have hf1_ := blk_frozen BK175.out 1; first | (go_simp; done) | (go_simp; rfl))); intro w5 hw; replace BK175 : Aside0 (w5.heap[gb175]? = some (.cells #[.int .u64 (IntKind.u64.wrap ((IntKind.u64.wrap ((IntKind.u64.wrap ((IntKind.u64.wrap (Int.tdiv a0 4294967296)) * (IntKind.u64.wrap (Int.tdiv a1 4294967296)))) + (IntKind.u64.wrap (Int.tdiv (IntKind.u64.wrap ((IntKind.u64.wrap ((IntKind.u64.wrap (Int.tdiv a0 4294967296)) * (Int.tmod a1 4294967296))) + (IntKind.u64.wrap (Int.tdiv (IntKind.u64.wrap ((Int.tmod a0 4294967296) * (Int.tmod a1 4294967296))) 4294967296)))) 4294967296)))) + (IntKind.u64.wrap (Int.tdiv (IntKind.u64.wrap ((IntKind.u64.wrap ((Int.tmod a0 4294967296) * (IntKind.u64.wrap (Int.tdiv a1 4294967296)))) + (Int.tmod (IntKind.u64.wrap ((IntKind.u64.wrap ((IntKind.u64.wrap (Int.tdiv a0 4294967296)) * (Int.tmod a1 4294967296))) + (IntKind.u64.wrap (Int.tdiv (IntKind.u64.wrap ((Int.tmod a0 4294967296) * (Int.tmod a1 4294967296))) 4294967296)))) 4294967296))) 4294967296)))), .int .u64 (Go.bits .or .u64 (IntKind.u64.wrap ((IntKind.u64.wrap ((IntKind.u64.wrap ((Int.tmod a0 4294967296) * (IntKind.u64.wrap (Int.tdiv a1 4294967296)))) + (Int.tmod (IntKind.u64.wrap ((IntKind.u64.wrap ((IntKind.u64.wrap (Int.tdiv a0 4294967296)) * (Int.tmod a1 4294967296))) + (IntKind.u64.wrap (Int.tdiv (IntKind.u64.wrap ((Int.tmod a0 4294967296) * (Int.tmod a1 4294967296))) 4294967296)))) 4294967296))) * 4294967296)) (Int.tmod (IntKind.u64.wrap ((Int.tmod a0 4294967296) * (Int.tmod a1 4294967296))) 4294967296))] 63 (0, 0))) := ⟨(by rw [hw]; exact (by refine bU ?_; refine blk_put (cs := #[.int .u64 (IntKind.u64.wrap ((IntKind.u64.wrap ((IntKind.u64.wrap ((IntKind.u64.wrap (Int.tdiv a0 4294967296)) * (IntKind.u64.wrap (Int.tdiv a1 4294967296)))) + (IntKind.u64.wrap (Int.tdiv (IntKind.u64.wrap ((IntKind.u64.wrap ((IntKind.u64.wrap (Int.tdiv a0 4294967296)) * (Int.tmod a1 4294967296))) + (IntKind.u64.wrap (Int.tdiv (IntKind.u64.wrap ((Int.tmod a0 4294967296) * (Int.tmod a1 4294967296))) 4294967296)))) 4294967296)))) + (IntKind.u64.wrap (Int.tdiv (IntKind.u64.wrap ((IntKind.u64.wrap ((Int.tmod a0 4294967296) * (IntKind.u64.wrap (Int.tdiv a1 4294967296)))) + (Int.tmod (IntKind.u64.wrap ((IntKind.u64.wrap ((IntKind.u64.wrap (Int.tdiv a0 4294967296)) * (Int.tmod a1 4294967296))) + (IntKind.u64.wrap (Int.tdiv (IntKind.u64.wrap ((Int.tmod a0 4294967296) * (Int.tmod a1 4294967296))) 4294967296)))) 4294967296))) 4294967296)))), .int .u64 0]) ?_ 1 _ rfl; refine bU ?_; refine blk_put (cs := #[.int .u64 0, .int .u64 0]) ?_ 0 _ rfl; refine bU ?_; exact BK175.out))⟩; replace HB : Aside0 (Below w.heap.size w w5) := ⟨(by rw [hw]; exact (lV1 GE175))⟩; clear hw))
 refine bodyPost_ret (results_cell_row rfl _ _ gb175 63 #[.int .u64 (IntKind.u64.wrap ((IntKind.u64.wrap ((IntKind.u64.wrap ((IntKind.u64.wrap (Int.tdiv a0 4294967296)) * (IntKind.u64.wrap (Int.tdiv a1 4294967296)))) + (IntKind.u64.wrap (Int.tdiv (IntKind.u64.wrap ((IntKind.u64.wrap ((IntKind.u64.wrap (Int.tdiv a0 4294967296)) * (Int.tmod a1 4294967296))) + (IntKind.u64.wrap (Int.tdiv (IntKind.u64.wrap ((Int.tmod a0 4294967296) * (Int.tmod a1 4294967296))) 4294967296)))) 4294967296)))) + (IntKind.u64.wrap (Int.tdiv (IntKind.u64.wrap ((IntKind.u64.wrap ((Int.tmod a0 4294967296) * (IntKind.u64.wrap (Int.tdiv a1 4294967296)))) + (Int.tmod (IntKind.u64.wrap ((IntKind.u64.wrap ((IntKind.u64.wrap (Int.tdiv a0 4294967296)) * (Int.tmod a1 4294967296))) + (IntKind.u64.wrap (Int.tdiv (IntKind.u64.wrap ((Int.tmod a0 4294967296) * (Int.tmod a1 4294967296))) 4294967296)))) 4294967296))) 4294967296)))), .int .u64 (Go.bits .or .u64 (IntKind.u64.wrap ((IntKind.u64.wrap ((IntKind.u64.wrap ((Int.tmod a0 4294967296) * (IntKind.u64.wrap (Int.tdiv a1 4294967296)))) + (Int.tmod (IntKind.u64.wrap ((IntKind.u64.wrap ((IntKind.u64.wrap (Int.tdiv a0 4294967296)) * (Int.tmod a1 4294967296))) + (IntKind.u64.wrap (Int.tdiv (IntKind.u64.wrap ((Int.tmod a0 4294967296) * (Int.tmod a1 4294967296))) 4294967296)))) 4294967296))) * 4294967296)) (Int.tmod (IntKind.u64.wrap ((Int.tmod a0 4294967296) * (Int.tmod a1 4294967296))) 4294967296))] (0, 0) _ rfl (bV BK175) Try.underlying63 rfl (by kernel_rfl)) rfl ?_
 exact ⟨eE, lV1 GE175⟩
def spec_l1Less.f (a0_0 : Int) (a0_1 : Int) (a1_0 : Int) (a1_1 : Int) : Option (Bool) := if a0_0 < a1_0 then (some true) else (if a0_0 = a1_0 then (some (decide (a0_1 < a1_1))) else (some false))
set_option maxHeartbeats 8000000 in
set_option maxRecDepth 100000 in
theorem spec_l1Less.calls (a0_0 : Int) (a0_1 : Int) (a1_0 : Int) (a1_1 : Int) (r : Bool) (w : World) (h : spec_l1Less.f a0_0 a0_1 a1_0 a1_1 = some r) :
  Calls Try.prog 61 #[.agg #[.int .u64 a0_0, .int .u64 a0_1], .agg #[.int .u64 a1_0, .int .u64 a1_1]] w fun e w' => e = .returned (.bool r) ∧ Below w.heap.size w w' := by
 have hu63 := Try.underlying63
 have HB := Aside0.mk (Below.refl w.heap.size w)
 have H : (if a0_0 < a1_0 then (some true) else (if a0_0 = a1_0 then (some (decide (a0_1 < a1_1))) else (some false))) = some r := h
 clear h
 by_cases c3 : a0_0 < a1_0
 ·rw [if_pos c3] at H
  have c3b0 : decide (a0_0 < a1_0) = true := decide_eq_true c3
  clear c3
  obtain rfl := Option.some.inj H
  go_enter Try.func61, Try.ntmps61
  go_wp2_with (first | ((with_reducible refine gate_dst (N := 2) rfl ?_); refine box_event rfl (N := 2) rfl (cs := #[.int .u64 a0_0, .int .u64 a0_1]) (t := 63) sE ?_; intro gb176 hg w4 hbox hb; have BK176 := Aside0.mk hbox; have GW176 := gS w hg (lU); have GE176 := GW176; replace HB := bH (lU) hb; clear hb hbox hg) | ((with_reducible refine gate_dst (N := 3) rfl ?_); refine box_event rfl (N := 3) rfl (cs := #[.int .u64 a1_0, .int .u64 a1_1]) (t := 63) sE ?_; intro gb177 hg w5 hbox hb; have BK177 := Aside0.mk hbox; have GW177 := gS w hg (lV1 GE176); have GE177 := GW177; replace HB := bH (lV1 GE176) hb; have NB176_177 := nL hg (bV BK176); have NB177_176 := nG hg (bV BK176); replace BK176 := bB (bV BK176) hb; clear hb hbox hg; have hnb6 := NB176_177.out; have hnc6 := NB177_176.out; have hcz7_0 := cz BK176 0 (.int .u64 a0_0); have hcz7_1 := cz BK176 1 (.int .u64 a0_1); have hfz7_0 := fz BK176 0; have hfz7_1 := fz BK176 1; have hcz8_0 := cz BK177 0 (.int .u64 a1_0); have hcz8_1 := cz BK177 1 (.int .u64 a1_1); have hfz8_0 := fz BK177 0; have hfz8_1 := fz BK177 1))
  go_ret
  exact ⟨eE, lV2 GE176 GE177⟩
 ·rw [if_neg c3] at H
  have c3b0 : decide (a0_0 < a1_0) = false := decide_eq_false c3
  clear c3
  by_cases c9 : a0_0 = a1_0
  ·rw [if_pos c9] at H
   have c9b0 : (a0_0 == a1_0) = true := beq_iff_eq.mpr c9
   have c9b1 : (a0_0 != a1_0) = false := bne_eq_false_iff_eq.mpr c9
   clear c9
   obtain rfl := Option.some.inj H
   go_enter Try.func61, Try.ntmps61
   go_wp2_with (first | ((with_reducible refine gate_dst (N := 2) rfl ?_); refine box_event rfl (N := 2) rfl (cs := #[.int .u64 a0_0, .int .u64 a0_1]) (t := 63) sE ?_; intro gb176 hg w10 hbox hb; have BK176 := Aside0.mk hbox; have GW176 := gS w hg (lU); have GE176 := GW176; replace HB := bH (lU) hb; clear hb hbox hg) | ((with_reducible refine gate_dst (N := 3) rfl ?_); refine box_event rfl (N := 3) rfl (cs := #[.int .u64 a1_0, .int .u64 a1_1]) (t := 63) sE ?_; intro gb177 hg w11 hbox hb; have BK177 := Aside0.mk hbox; have GW177 := gS w hg (lV1 GE176); have GE177 := GW177; replace HB := bH (lV1 GE176) hb; have NB176_177 := nL hg (bV BK176); have NB177_176 := nG hg (bV BK176); replace BK176 := bB (bV BK176) hb; clear hb hbox hg; have hnb12 := NB176_177.out; have hnc12 := NB177_176.out; have hcz13_0 := cz BK176 0 (.int .u64 a0_0); have hcz13_1 := cz BK176 1 (.int .u64 a0_1); have hfz13_0 := fz BK176 0; have hfz13_1 := fz BK176 1; have hcz14_0 := cz BK177 0 (.int .u64 a1_0); have hcz14_1 := cz BK177 1 (.int .u64 a1_1); have hfz14_0 := fz BK177 0; have hfz14_1 := fz BK177 1))
   go_ret
   exact ⟨eE, lV2 GE176 GE177⟩
  ·rw [if_neg c9] at H
   have c9b0 : (a0_0 == a1_0) = false := beq_eq_false_iff_ne.mpr c9
   have c9b1 : (a0_0 != a1_0) = true := bne_iff_ne.mpr c9
   obtain rfl := Option.some.inj H
   go_enter Try.func61, Try.ntmps61
   go_wp2_with (first | ((with_reducible refine gate_dst (N := 2) rfl ?_); refine box_event rfl (N := 2) rfl (cs := #[.int .u64 a0_0, .int .u64 a0_1]) (t := 63) sE ?_; intro gb176 hg w15 hbox hb; have BK176 := Aside0.mk hbox; have GW176 := gS w hg (lU); have GE176 := GW176; replace HB := bH (lU) hb; clear hb hbox hg) | ((with_reducible refine gate_dst (N := 3) rfl ?_); refine box_event rfl (N := 3) rfl (cs := #[.int .u64 a1_0, .int .u64 a1_1]) (t := 63) sE ?_; intro gb177 hg w16 hbox hb; have BK177 := Aside0.mk hbox; have GW177 := gS w hg (lV1 GE176); have GE177 := GW177; replace HB := bH (lV1 GE176) hb; have NB176_177 := nL hg (bV BK176); have NB177_176 := nG hg (bV BK176); replace BK176 := bB (bV BK176) hb; clear hb hbox hg; have hnb17 := NB176_177.out; have hnc17 := NB177_176.out; have hcz18_0 := cz BK176 0 (.int .u64 a0_0); have hcz18_1 := cz BK176 1 (.int .u64 a0_1); have hfz18_0 := fz BK176 0; have hfz18_1 := fz BK176 1; have hcz19_0 := cz BK177 0 (.int .u64 a1_0); have hcz19_1 := cz BK177 1 (.int .u64 a1_1); have hfz19_0 := fz BK177 0; have hfz19_1 := fz BK177 1))
   go_ret
   exact ⟨eE, lV2 GE176 GE177⟩
def spec_l1Over.l0 : Nat → Int → Int → Int → Int → Int → Option (Int)
 | 0, _, _, _, _, _ => none
 | k + 1, x1, x7, x8, x179000, x179001 => if x7 < x8 then ((spec_l1Times.f (IntKind.u64.wrap (x7 + (IntKind.u64.wrap (Int.tdiv (IntKind.u64.wrap ((IntKind.u64.wrap (x8 - x7)) + 1)) 2)))) x1).bind fun bt179 => ((spec_l1Less.f x179000 x179001 bt179.1 bt179.2).bind fun t181 => (if t181 = true then (spec_l1Over.l0 k x1 x7 (IntKind.u64.wrap ((IntKind.u64.wrap (x7 + (IntKind.u64.wrap (Int.tdiv (IntKind.u64.wrap ((IntKind.u64.wrap (x8 - x7)) + 1)) 2)))) - 1)) x179000 x179001) else (spec_l1Over.l0 k x1 (IntKind.u64.wrap (x7 + (IntKind.u64.wrap (Int.tdiv (IntKind.u64.wrap ((IntKind.u64.wrap (x8 - x7)) + 1)) 2)))) x8 x179000 x179001)))) else (some x7)
def spec_l1Over.f (k : Nat) (a0_0 : Int) (a0_1 : Int) (a1 : Int) (a2 : Int) : Option (Int) := spec_l1Over.l0 k a1 0 a2 a0_0 a0_1
theorem spec_l1Over.mono_l : ∀ k, (∀ y0 y1 y2 y3 y4, LeO (spec_l1Over.l0 k y0 y1 y2 y3 y4) (spec_l1Over.l0 (k + 1) y0 y1 y2 y3 y4))
 | 0 => fun _ _ _ _ _ r h => by simp [spec_l1Over.l0] at h
 | k + 1 => by
  have ih0 := spec_l1Over.mono_l k
  ·intro y0 y1 y2 y3 y4
   unfold spec_l1Over.l0
   repeat' first
   | (with_reducible exact ih0 _ _ _ _ _)
   | (with_reducible exact LeO.refl _)
   | (with_reducible exact LeO.none _)
   | (with_reducible refine LeO.ite ?_ ?_)
   | (with_reducible refine LeO.bind ?_ (fun _ => ?_))
   | exact ih0 _ _ _ _ _
   | exact LeO.none _
   | refine LeO.ite ?_ ?_
   | refine LeO.bind ?_ (fun _ => ?_)
theorem spec_l1Over.mono : ∀ a0 a1 a2 a3 k, LeO (spec_l1Over.f k a0 a1 a2 a3) (spec_l1Over.f (k + 1) a0 a1 a2 a3) := by
 intro a0 a1 a2 a3 k
 have ih0 := spec_l1Over.mono_l k
 unfold spec_l1Over.f
 repeat' first
   | (with_reducible exact ih0 _ _ _ _ _)
   | (with_reducible exact LeO.refl _)
   | (with_reducible exact LeO.none _)
   | (with_reducible refine LeO.ite ?_ ?_)
   | (with_reducible refine LeO.bind ?_ (fun _ => ?_))
   | exact ih0 _ _ _ _ _
   | exact LeO.none _
   | refine LeO.ite ?_ ?_
   | refine LeO.bind ?_ (fun _ => ?_)
set_option maxHeartbeats 8000000 in
set_option maxRecDepth 100000 in
theorem spec_l1Over.calls (k : Nat) (a0_0 : Int) (a0_1 : Int) (a1 : Int) (a2 : Int) (r : Int) (w : World) (h : spec_l1Over.f k a0_0 a0_1 a1 a2 = some r) :
  Calls Try.prog 52 #[.agg #[.int .u64 a0_0, .int .u64 a0_1], .int .u64 a1, .int .u64 a2] w fun e w' => e = .returned (.int .u64 r) ∧ Below w.heap.size w w' := by
 have hu63 := Try.underlying63
 have HB := Aside0.mk (Below.refl w.heap.size w)
 have H : (spec_l1Over.l0 k a1 0 a2 a0_0 a0_1) = some r := h
 clear h
 have H' := Aside0.mk H
 clear H
 go_enter Try.func52, Try.ntmps52
 go_wp2_with (first | ((with_reducible refine gate_dst (N := 3) rfl ?_); refine box_event rfl (N := 3) rfl (cs := #[.int .u64 a0_0, .int .u64 a0_1]) (t := 63) sE ?_; intro gb178 hg w4 hbox hb; have BK178 := Aside0.mk hbox; have GW178 := gS w hg (lU); have GE178 := GW178; replace HB := bH (lU) hb; clear hb hbox hg))
 (try simp only [Act.put, List.setIfInBounds_toArray, List.set_cons_zero, List.set_cons_succ])
 go_loopg [7, 8] k (fun kq v7 v8 w' => ∃ (x7_1 : Int) (x8_1 : Int), v7 = .int .u64 x7_1 ∧ v8 = .int .u64 x8_1 ∧ Aside0 (spec_l1Over.l0 kq a1 x7_1 x8_1 a0_0 a0_1 = some r) ∧ Aside0 (kq ≤ k) ∧ Aside0 (w'.heap[gb178]? = some (.cells #[.int .u64 a0_0, .int .u64 a0_1] 63 (0, 0))) ∧ Aside0 (Below w.heap.size w w'))
 case atStart => exact ⟨(0), (a2), tE, tE, H', ⟨Nat.le_refl _⟩, ⟨by refine bU ?_; exact BK178.out⟩, ⟨by repeat (first | (with_reducible first | exact HB.out | apply below_alloc | apply pw_below_drewN | apply below_drew1 | refine below_set ?_ GE178.out) | exact HB.out)⟩⟩
 case round =>
  clear H'
  try clear p2
  obtain ⟨x7_1, x8_1, rfl, rfl, HA, HK1, BK178, HB⟩ := hrel
  cases gk with
  | zero => exact absurd HA.out (by simp [spec_l1Over.l0])
  | succ k1 =>
   have H := HA.out
   clear HA
   simp only [spec_l1Over.l0] at H
   by_cases c5 : x7_1 < x8_1
   ·rw [if_pos c5] at H
    have c5b0 : decide (x7_1 < x8_1) = true := decide_eq_true c5
    clear c5
    replace H := Option.bind_eq_some_iff.mp H
    obtain ⟨⟨t179, t180⟩, A60, H⟩ := H
    replace H : ((spec_l1Less.f a0_0 a0_1 t179 t180).bind fun t181 => (if t181 = true then (spec_l1Over.l0 k1 a1 x7_1 (IntKind.u64.wrap ((IntKind.u64.wrap (x7_1 + (IntKind.u64.wrap (Int.tdiv (IntKind.u64.wrap ((IntKind.u64.wrap (x8_1 - x7_1)) + 1)) 2)))) - 1)) a0_0 a0_1) else (spec_l1Over.l0 k1 a1 (IntKind.u64.wrap (x7_1 + (IntKind.u64.wrap (Int.tdiv (IntKind.u64.wrap ((IntKind.u64.wrap (x8_1 - x7_1)) + 1)) 2)))) x8_1 a0_0 a0_1))) = some r := H
    have A6 := Aside0.mk A60
    clear A60
    replace H := Option.bind_eq_some_iff.mp H
    obtain ⟨t181, A70, H⟩ := H
    replace H : (if t181 = true then (spec_l1Over.l0 k1 a1 x7_1 (IntKind.u64.wrap ((IntKind.u64.wrap (x7_1 + (IntKind.u64.wrap (Int.tdiv (IntKind.u64.wrap ((IntKind.u64.wrap (x8_1 - x7_1)) + 1)) 2)))) - 1)) a0_0 a0_1) else (spec_l1Over.l0 k1 a1 (IntKind.u64.wrap (x7_1 + (IntKind.u64.wrap (Int.tdiv (IntKind.u64.wrap ((IntKind.u64.wrap (x8_1 - x7_1)) + 1)) 2)))) x8_1 a0_0 a0_1)) = some r := H
    have A7 := Aside0.mk A70
    clear A70
    by_cases c8 : t181 = true
    ·subst c8
     have H1 : (spec_l1Over.l0 k1 a1 x7_1 (IntKind.u64.wrap ((IntKind.u64.wrap (x7_1 + (IntKind.u64.wrap (Int.tdiv (IntKind.u64.wrap ((IntKind.u64.wrap (x8_1 - x7_1)) + 1)) 2)))) - 1)) a0_0 a0_1) = some r := by rw [if_pos rfl] at H; exact H
     clear H
     have H := H1
     clear H1
     have H' := Aside0.mk H
     clear H
     try go_wp2
     replace BK178 := Aside0.mk (blk_drew BK178.out)
     replace HB := Aside0.mk (below_drew1 HB.out)
     refine start_ (n := 5) (S := fun w' => w'.cell? ⟨gb178, 0, none⟩ = some (.int .u64 a0_0) ∧ w'.cell? ⟨gb178, 1, none⟩ = some (.int .u64 a0_1)) (ds := []) #[false, false, false, false, false] (by kernel_rfl) rfl rfl ⟨cz BK178 0 _, cz BK178 1 _⟩ (fun hHeld => ?_)
     generalize wr.drew = w9 at BK178 HB hHeld ⊢
     refine pure_ (i := 1) (N := some 22) (v := ?_) (a' := ?_) (bz 5 2) rfl rfl (by kernel_rfl) (fun _ _ _ h => h) (Or.inl ⟨by rfl, ?_⟩) ?_ ?_
     rotate_left
     ·intro w'
      go_simp
      with_reducible rfl
     rotate_left
     ·simp only [Act.put, List.setIfInBounds_toArray, List.set_cons_zero, List.set_cons_succ, i64_w, i32_w]
      rfl
     refine pure_ (i := 2) (N := some 23) (v := ?_) (a' := ?_) (bz 5 6) rfl rfl (by kernel_rfl) (fun _ _ _ h => h) (Or.inl ⟨by rfl, ?_⟩) ?_ ?_
     rotate_left
     ·intro w'
      go_simp
      with_reducible rfl
     rotate_left
     ·simp only [Act.put, List.setIfInBounds_toArray, List.set_cons_zero, List.set_cons_succ, i64_w, i32_w]
      rfl
     refine take_ (i := 0) (N := some 21) (v := ?_) (a' := ?_) (bz 5 7) rfl rfl (by kernel_rfl) (fun _ _ _ h => h) (Or.inl ⟨by rfl, ?_⟩) hHeld ?_ ?_
     rotate_left
     ·rintro w' ⟨s0, s1⟩
      go_simp
      with_reducible rfl
     rotate_left
     ·simp only [Act.put, List.setIfInBounds_toArray, List.set_cons_zero, List.set_cons_succ, i64_w, i32_w]
      rfl
     refine one_ (i := 3) (N := some 24) (bz 5 15) rfl rfl (by kernel_rfl) (by decide) (fun K hK => ?_)
     refine goes_ Try.func38 (by kernel_rfl) rfl #[.int .u64 (IntKind.u64.wrap (x7_1 + (IntKind.u64.wrap (Int.tdiv (IntKind.u64.wrap ((IntKind.u64.wrap (x8_1 - x7_1)) + 1)) 2)))), .int .u64 a1] (by rfl) rfl rfl aE ?_
     with_reducible refine (spec_l1Times.calls (IntKind.u64.wrap (x7_1 + (IntKind.u64.wrap (Int.tdiv (IntKind.u64.wrap ((IntKind.u64.wrap (x8_1 - x7_1)) + 1)) 2)))) a1 t179 t180 _ A6.out).mono ?_
     rintro e w10 ⟨rfl, hb⟩
     refine ⟨_, rfl, ?_⟩
     replace BK178 := bB (bV BK178) hb
     replace HB := bH (lV1 GE178) hb
     (try clear hb)
     (try clear hb2)
     (try clear hk)
     (try clear hi)
     refine hK.out _ _ ⟨cz BK178 0 _, cz BK178 1 _⟩ (fun hHeld => ?_)
     clear hK K
     refine norm_ (a' := ?_) ?_ ?_
     rotate_left
     ·show Act.put _ (some 24) _ = _
      simp only [Act.put, List.setIfInBounds_toArray, List.set_cons_zero, List.set_cons_succ, i64_w, i32_w]
      rfl
     refine one_ (i := 4) (N := some 25) (bz 5 31) rfl rfl (by kernel_rfl) (by decide) (fun K hK => ?_)
     refine goes_ Try.func61 (by kernel_rfl) rfl #[.agg #[.int .u64 a0_0, .int .u64 a0_1], .agg #[.int .u64 t179, .int .u64 t180]] (by rfl) rfl rfl aE ?_
     with_reducible refine (spec_l1Less.calls a0_0 a0_1 t179 t180 true _ A7.out).mono ?_
     rintro e w11 ⟨rfl, hb⟩
     refine ⟨_, rfl, ?_⟩
     replace BK178 := bB (bV BK178) hb
     replace HB := bH (lV1 GE178) hb
     (try clear hb)
     (try clear hb2)
     (try clear hk)
     (try clear hi)
     refine hK.out _ _ ⟨cz BK178 0 _, cz BK178 1 _⟩ (fun hHeld => ?_)
     clear hK K
     refine norm_ (a' := ?_) ?_ ?_
     rotate_left
     ·show Act.put _ (some 25) _ = _
      simp only [Act.put, List.setIfInBounds_toArray, List.set_cons_zero, List.set_cons_succ, i64_w, i32_w]
      rfl
     refine done_ (by kernel_rfl) ?_
     try go_wp2
     go_roundg k1
     case measure => have := HK1.out; omega
     case rel => exact ⟨(x7_1), (IntKind.u64.wrap ((IntKind.u64.wrap (x7_1 + (IntKind.u64.wrap (Int.tdiv (IntKind.u64.wrap ((IntKind.u64.wrap (x8_1 - x7_1)) + 1)) 2)))) - 1)), tE, tE, H', ⟨by have := HK1.out; omega⟩, ⟨by refine bU ?_; exact BK178.out⟩, ⟨by repeat (first | (with_reducible first | exact HB.out | apply below_alloc | apply pw_below_drewN | apply below_drew1 | refine below_set ?_ GE178.out) | exact HB.out)⟩⟩
    ·replace c8 := Bool.eq_false_iff.mpr c8
     subst c8
     have H1 : (spec_l1Over.l0 k1 a1 (IntKind.u64.wrap (x7_1 + (IntKind.u64.wrap (Int.tdiv (IntKind.u64.wrap ((IntKind.u64.wrap (x8_1 - x7_1)) + 1)) 2)))) x8_1 a0_0 a0_1) = some r := by rw [if_neg (show ¬ (false = true) by decide)] at H; exact H
     clear H
     have H := H1
     clear H1
     have H' := Aside0.mk H
     clear H
     try go_wp2
     replace BK178 := Aside0.mk (blk_drew BK178.out)
     replace HB := Aside0.mk (below_drew1 HB.out)
     refine start_ (n := 5) (S := fun w' => w'.cell? ⟨gb178, 0, none⟩ = some (.int .u64 a0_0) ∧ w'.cell? ⟨gb178, 1, none⟩ = some (.int .u64 a0_1)) (ds := []) #[false, false, false, false, false] (by kernel_rfl) rfl rfl ⟨cz BK178 0 _, cz BK178 1 _⟩ (fun hHeld => ?_)
     generalize wr.drew = w12 at BK178 HB hHeld ⊢
     refine pure_ (i := 1) (N := some 22) (v := ?_) (a' := ?_) (bz 5 2) rfl rfl (by kernel_rfl) (fun _ _ _ h => h) (Or.inl ⟨by rfl, ?_⟩) ?_ ?_
     rotate_left
     ·intro w'
      go_simp
      with_reducible rfl
     rotate_left
     ·simp only [Act.put, List.setIfInBounds_toArray, List.set_cons_zero, List.set_cons_succ, i64_w, i32_w]
      rfl
     refine pure_ (i := 2) (N := some 23) (v := ?_) (a' := ?_) (bz 5 6) rfl rfl (by kernel_rfl) (fun _ _ _ h => h) (Or.inl ⟨by rfl, ?_⟩) ?_ ?_
     rotate_left
     ·intro w'
      go_simp
      with_reducible rfl
     rotate_left
     ·simp only [Act.put, List.setIfInBounds_toArray, List.set_cons_zero, List.set_cons_succ, i64_w, i32_w]
      rfl
     refine take_ (i := 0) (N := some 21) (v := ?_) (a' := ?_) (bz 5 7) rfl rfl (by kernel_rfl) (fun _ _ _ h => h) (Or.inl ⟨by rfl, ?_⟩) hHeld ?_ ?_
     rotate_left
     ·rintro w' ⟨s0, s1⟩
      go_simp
      with_reducible rfl
     rotate_left
     ·simp only [Act.put, List.setIfInBounds_toArray, List.set_cons_zero, List.set_cons_succ, i64_w, i32_w]
      rfl
     refine one_ (i := 3) (N := some 24) (bz 5 15) rfl rfl (by kernel_rfl) (by decide) (fun K hK => ?_)
     refine goes_ Try.func38 (by kernel_rfl) rfl #[.int .u64 (IntKind.u64.wrap (x7_1 + (IntKind.u64.wrap (Int.tdiv (IntKind.u64.wrap ((IntKind.u64.wrap (x8_1 - x7_1)) + 1)) 2)))), .int .u64 a1] (by rfl) rfl rfl aE ?_
     with_reducible refine (spec_l1Times.calls (IntKind.u64.wrap (x7_1 + (IntKind.u64.wrap (Int.tdiv (IntKind.u64.wrap ((IntKind.u64.wrap (x8_1 - x7_1)) + 1)) 2)))) a1 t179 t180 _ A6.out).mono ?_
     rintro e w13 ⟨rfl, hb⟩
     refine ⟨_, rfl, ?_⟩
     replace BK178 := bB (bV BK178) hb
     replace HB := bH (lV1 GE178) hb
     (try clear hb)
     (try clear hb2)
     (try clear hk)
     (try clear hi)
     refine hK.out _ _ ⟨cz BK178 0 _, cz BK178 1 _⟩ (fun hHeld => ?_)
     clear hK K
     refine norm_ (a' := ?_) ?_ ?_
     rotate_left
     ·show Act.put _ (some 24) _ = _
      simp only [Act.put, List.setIfInBounds_toArray, List.set_cons_zero, List.set_cons_succ, i64_w, i32_w]
      rfl
     refine one_ (i := 4) (N := some 25) (bz 5 31) rfl rfl (by kernel_rfl) (by decide) (fun K hK => ?_)
     refine goes_ Try.func61 (by kernel_rfl) rfl #[.agg #[.int .u64 a0_0, .int .u64 a0_1], .agg #[.int .u64 t179, .int .u64 t180]] (by rfl) rfl rfl aE ?_
     with_reducible refine (spec_l1Less.calls a0_0 a0_1 t179 t180 false _ A7.out).mono ?_
     rintro e w14 ⟨rfl, hb⟩
     refine ⟨_, rfl, ?_⟩
     replace BK178 := bB (bV BK178) hb
     replace HB := bH (lV1 GE178) hb
     (try clear hb)
     (try clear hb2)
     (try clear hk)
     (try clear hi)
     refine hK.out _ _ ⟨cz BK178 0 _, cz BK178 1 _⟩ (fun hHeld => ?_)
     clear hK K
     refine norm_ (a' := ?_) ?_ ?_
     rotate_left
     ·show Act.put _ (some 25) _ = _
      simp only [Act.put, List.setIfInBounds_toArray, List.set_cons_zero, List.set_cons_succ, i64_w, i32_w]
      rfl
     refine done_ (by kernel_rfl) ?_
     try go_wp2
     go_roundg k1
     case measure => have := HK1.out; omega
     case rel => exact ⟨(IntKind.u64.wrap (x7_1 + (IntKind.u64.wrap (Int.tdiv (IntKind.u64.wrap ((IntKind.u64.wrap (x8_1 - x7_1)) + 1)) 2)))), (x8_1), tE, tE, H', ⟨by have := HK1.out; omega⟩, ⟨by refine bU ?_; exact BK178.out⟩, ⟨by repeat (first | (with_reducible first | exact HB.out | apply below_alloc | apply pw_below_drewN | apply below_drew1 | refine below_set ?_ GE178.out) | exact HB.out)⟩⟩
   ·rw [if_neg c5] at H
    have c5b0 : decide (x7_1 < x8_1) = false := decide_eq_false c5
    clear c5
    obtain rfl := Option.some.inj H
    go_wp2
    go_ret
    exact ⟨eE, lV1 GE178⟩
def spec_l1Cut.f (a0 : Int) : Option (Int) := if a0 > 1099511627776 then (some 1099511627776) else (if a0 < (-1099511627776) then (some (-1099511627776)) else (some a0))
set_option maxHeartbeats 8000000 in
set_option maxRecDepth 100000 in
theorem spec_l1Cut.calls (a0 : Int) (r : Int) (w : World) (h : spec_l1Cut.f a0 = some r) :
  Calls Try.prog 53 #[.int .i64 a0] w fun e w' => e = .returned (.int .i64 r) ∧ Drawn0 w w' := by
 have H : (if a0 > 1099511627776 then (some 1099511627776) else (if a0 < (-1099511627776) then (some (-1099511627776)) else (some a0))) = some r := h
 clear h
 by_cases c2 : a0 > 1099511627776
 ·rw [if_pos c2] at H
  have c2b0 : decide (1099511627776 < a0) = true := decide_eq_true c2
  clear c2
  obtain rfl := Option.some.inj H
  go_enter Try.func53, Try.ntmps53
  go_wp2
  go_ret
  exact ⟨by first | rfl | (simp; done) | (simp [*]; done) | exact not_isEmpty _ | exact (not_isEmpty _).symm | exact is_empty _ | exact (is_empty _).symm, by repeat (first | exact Drawn0.refl _ | apply Drawn0.step)⟩
 ·rw [if_neg c2] at H
  have c2b0 : decide (1099511627776 < a0) = false := decide_eq_false c2
  clear c2
  by_cases c3 : a0 < (-1099511627776)
  ·rw [if_pos c3] at H
   have c3b0 : decide (a0 < (-1099511627776)) = true := decide_eq_true c3
   clear c3
   obtain rfl := Option.some.inj H
   go_enter Try.func53, Try.ntmps53
   go_wp2
   go_ret
   exact ⟨by first | rfl | (simp; done) | (simp [*]; done) | exact not_isEmpty _ | exact (not_isEmpty _).symm | exact is_empty _ | exact (is_empty _).symm, by repeat (first | exact Drawn0.refl _ | apply Drawn0.step)⟩
  ·rw [if_neg c3] at H
   have c3b0 : decide (a0 < (-1099511627776)) = false := decide_eq_false c3
   clear c3
   obtain rfl := Option.some.inj H
   go_enter Try.func53, Try.ntmps53
   go_wp2
   go_ret
   exact ⟨by first | rfl | (simp; done) | (simp [*]; done) | exact not_isEmpty _ | exact (not_isEmpty _).symm | exact is_empty _ | exact (is_empty _).symm, by repeat (first | exact Drawn0.refl _ | apply Drawn0.step)⟩
end Go.Proofs.Ythgfobcckoedaaa.PFnExactRunCloud
namespace Go.Proofs.Ythgfobcckoedaaa.PFnExactRunCloud
open Go.RowKit Go.Proofs.YthgfobcckoedaaaW.PrintWords Go.Proofs.YthgfobcckoedaaaW.PrintLast Go.Proofs.YthgfobcckoedaaaW.PrintMore
attribute [local go_sem] max2_int min2_int max_two min_two max_three min_three max_four min_four   -- for this text's walks alone
set_option linter.unusedVariables false
set_option linter.unusedSimpArgs false
def spec_l1Near.j0 : Nat → Bool → Int → Int → Int → Option (Int)
 | 0, _, _, _, _ => none
 | k + 1, x0, x2, x186000, x186001 => (spec_l1Over.f k x186000 x186001 (IntKind.u64.wrap (2 * x2)) 4398046511104).bind fun t188 => (if x0 = true then ((spec_l1Cut.f (wrap64 (-(wrap64 (t188))))).bind fun t189 => (some t189)) else ((spec_l1Cut.f (wrap64 (t188))).bind fun t190 => (some t190)))
def spec_l1Near.f (k : Nat) (a0 : Bool) (a1_0 : Int) (a1_1 : Int) (a2 : Int) : Option (Int) := (spec_l1Sum.f a1_0 a1_1 a1_0 a1_1).bind fun bt183 => ((spec_l1Plus.f bt183.1 bt183.2 a2).bind fun bt186 => (if a0 = true then (if bt186.2 = 0 then (spec_l1Near.j0 k true a2 (IntKind.u64.wrap (bt186.1 - 1)) (IntKind.u64.wrap (bt186.2 - 1))) else (spec_l1Near.j0 k true a2 bt186.1 (IntKind.u64.wrap (bt186.2 - 1)))) else (spec_l1Near.j0 k false a2 bt186.1 bt186.2)))
theorem spec_l1Near.mono_l : ∀ k, (∀ y0 y1 y2 y3, LeO (spec_l1Near.j0 k y0 y1 y2 y3) (spec_l1Near.j0 (k + 1) y0 y1 y2 y3))
 | 0 => fun _ _ _ _ r h => by simp [spec_l1Near.j0] at h
 | k + 1 => by
  have ih0 := spec_l1Near.mono_l k
  ·intro y0 y1 y2 y3
   unfold spec_l1Near.j0
   repeat' first
   | (with_reducible exact ih0 _ _ _ _)
   | (with_reducible exact spec_l1Over.mono _ _ _ _ _)
   | (with_reducible exact LeO.refl _)
   | (with_reducible exact LeO.none _)
   | (with_reducible refine LeO.ite ?_ ?_)
   | (with_reducible refine LeO.bind ?_ (fun _ => ?_))
   | exact ih0 _ _ _ _
   | exact spec_l1Over.mono _ _ _ _ _
   | exact LeO.none _
   | refine LeO.ite ?_ ?_
   | refine LeO.bind ?_ (fun _ => ?_)
theorem spec_l1Near.mono : ∀ a0 a1 a2 a3 k, LeO (spec_l1Near.f k a0 a1 a2 a3) (spec_l1Near.f (k + 1) a0 a1 a2 a3) := by
 intro a0 a1 a2 a3 k
 have ih0 := spec_l1Near.mono_l k
 unfold spec_l1Near.f
 repeat' first
   | (with_reducible exact ih0 _ _ _ _)
   | (with_reducible exact spec_l1Over.mono _ _ _ _ _)
   | (with_reducible exact LeO.refl _)
   | (with_reducible exact LeO.none _)
   | (with_reducible refine LeO.ite ?_ ?_)
   | (with_reducible refine LeO.bind ?_ (fun _ => ?_))
   | exact ih0 _ _ _ _
   | exact spec_l1Over.mono _ _ _ _ _
   | exact LeO.none _
   | refine LeO.ite ?_ ?_
   | refine LeO.bind ?_ (fun _ => ?_)
set_option maxHeartbeats 8000000 in
set_option maxRecDepth 100000 in
theorem spec_l1Near.calls (k : Nat) (a0 : Bool) (a1_0 : Int) (a1_1 : Int) (a2 : Int) (r : Int) (w : World) (h : spec_l1Near.f k a0 a1_0 a1_1 a2 = some r) :
  Calls Try.prog 37 #[.bool a0, .agg #[.int .u64 a1_0, .int .u64 a1_1], .int .u64 a2] w fun e w' => e = .returned (.int .i64 r) ∧ Below w.heap.size w w' := by
 have hu63 := Try.underlying63
 have HB := Aside0.mk (Below.refl w.heap.size w)
 have H : ((spec_l1Sum.f a1_0 a1_1 a1_0 a1_1).bind fun bt183 => ((spec_l1Plus.f bt183.1 bt183.2 a2).bind fun bt186 => (if a0 = true then (if bt186.2 = 0 then (spec_l1Near.j0 k true a2 (IntKind.u64.wrap (bt186.1 - 1)) (IntKind.u64.wrap (bt186.2 - 1))) else (spec_l1Near.j0 k true a2 bt186.1 (IntKind.u64.wrap (bt186.2 - 1)))) else (spec_l1Near.j0 k false a2 bt186.1 bt186.2)))) = some r := h
 clear h
 replace H := Option.bind_eq_some_iff.mp H
 obtain ⟨⟨t183, t184⟩, A40, H⟩ := H
 replace H : ((spec_l1Plus.f t183 t184 a2).bind fun bt186 => (if a0 = true then (if bt186.2 = 0 then (spec_l1Near.j0 k true a2 (IntKind.u64.wrap (bt186.1 - 1)) (IntKind.u64.wrap (bt186.2 - 1))) else (spec_l1Near.j0 k true a2 bt186.1 (IntKind.u64.wrap (bt186.2 - 1)))) else (spec_l1Near.j0 k false a2 bt186.1 bt186.2))) = some r := H
 have A4 := Aside0.mk A40
 clear A40
 replace H := Option.bind_eq_some_iff.mp H
 obtain ⟨⟨t186, t187⟩, A50, H⟩ := H
 replace H : (if a0 = true then (if t187 = 0 then (spec_l1Near.j0 k true a2 (IntKind.u64.wrap (t186 - 1)) (IntKind.u64.wrap (t187 - 1))) else (spec_l1Near.j0 k true a2 t186 (IntKind.u64.wrap (t187 - 1)))) else (spec_l1Near.j0 k false a2 t186 t187)) = some r := H
 have A5 := Aside0.mk A50
 clear A50
 have HC6 := Aside0.mk H
 clear H
 go_enter Try.func37, Try.ntmps37
 go_upto_if 15 with (first | ((with_reducible refine gate_dst (N := 4) rfl ?_); refine box_event rfl (N := 4) rfl (cs := #[.int .u64 a1_0, .int .u64 a1_1]) (t := 63) sE ?_; intro gb182 hg w7 hbox hb; have BK182 := Aside0.mk hbox; have GW182 := gS w hg (lU); have GE182 := GW182; replace HB := bH (lU) hb; clear hb hbox hg; have hcz8_0 := cz BK182 0 (.int .u64 a1_0); have hcz8_1 := cz BK182 1 (.int .u64 a1_1); have hfz8_0 := fz BK182 0; have hfz8_1 := fz BK182 1) | ((with_reducible refine gate_callee (f := 50) rfl ?_); refine goesL_ (some 11) rfl rfl Try.func50 (by kernel_rfl) rfl #[.agg #[.int .u64 a1_0, .int .u64 a1_1], .agg #[.int .u64 a1_0, .int .u64 a1_1]] rfl aE ?_; (with_reducible refine (spec_l1Sum.calls a1_0 a1_1 a1_0 a1_1 t183 t184 _ A4.out).mono ?_); rintro e w9 ⟨rfl, hb⟩; refine ⟨_, rfl, ?_⟩; replace BK182 := bB (bV BK182) hb; replace HB := bH (lV1 GE182) hb; (try clear hb)) | ((with_reducible refine gate_dst (N := 7) rfl ?_); refine box_event rfl (N := 7) rfl (cs := #[.int .u64 0, .int .u64 0]) (t := 63) sE ?_; intro gb185 hg w10 hbox hb; have BK185 := Aside0.mk hbox; have GW185 := gS w hg (lV1 GE182); have GE185 := GW185; replace HB := bH (lV1 GE182) hb; have NB182_185 := nL hg (bV BK182); have NB185_182 := nG hg (bV BK182); replace BK182 := bB (bV BK182) hb; clear hb hbox hg; have hnb11 := NB185_182.out; have hnc11 := NB182_185.out; have hcz12_0 := cz BK185 0 (.int .u64 0); have hcz12_1 := cz BK185 1 (.int .u64 0); have hfz12_0 := fz BK185 0; have hfz12_1 := fz BK185 1) | ((with_reducible refine gate_store (t := 63) (p := 7) rfl ?_); refine store_event (t := 63) (p := 7) (v := ?vo_w13) (w1 := ((w10.setCell ⟨gb185, 0, none⟩ (.int .u64 t183)).setCell ⟨gb185, 1, none⟩ (.int .u64 t184))) ?hg ?ho ?hn ?hr ?_; (case ho => rfl); (case hg => rfl); (case hn => rfl); (case hr => first | (go_simp; done) | (go_simp; rfl) | (have hq0_ := (blk_cell BK185.out 0).trans (show _ = some _ from rfl); have hf0_ := blk_frozen BK185.out 0; have hq1_ := (blk_cell BK185.out 1).trans (show _ = some _ from rfl); have hf1_ := blk_frozen BK185.out 1; first | (go_simp; done) | (go_simp; rfl))); intro w13 hw; replace BK182 : Aside0 (w13.heap[gb182]? = some (.cells #[.int .u64 a1_0, .int .u64 a1_1] 63 (0, 0))) := ⟨(by rw [hw]; exact (bG NB182_185 BK182))⟩; replace BK185 : Aside0 (w13.heap[gb185]? = some (.cells #[.int .u64 t183, .int .u64 t184] 63 (0, 0))) := ⟨(by rw [hw]; exact (by refine bU ?_; refine blk_put (cs := #[.int .u64 t183, .int .u64 0]) ?_ 1 _ rfl; refine bU ?_; refine blk_put (cs := #[.int .u64 0, .int .u64 0]) ?_ 0 _ rfl; refine bU ?_; exact BK185.out))⟩; replace HB : Aside0 (Below w.heap.size w w13) := ⟨(by rw [hw]; exact (lV2 GE182 GE185))⟩; clear hw; have hcz14_0 := cz BK185 0 (.int .u64 t183); have hcz14_1 := cz BK185 1 (.int .u64 t184); have hfz14_0 := fz BK185 0; have hfz14_1 := fz BK185 1) | ((with_reducible refine gate_callee (f := 51) rfl ?_); refine goesL_ (some 14) rfl rfl Try.func51 (by kernel_rfl) rfl #[.agg #[.int .u64 t183, .int .u64 t184], .int .u64 a2] rfl aE ?_; (with_reducible refine (spec_l1Plus.calls t183 t184 a2 t186 t187 _ A5.out).mono ?_); rintro e w15 ⟨rfl, hb⟩; refine ⟨_, rfl, ?_⟩; replace BK182 := bB (bV BK182) hb; replace BK185 := bB (bV BK185) hb; replace HB := bH (lV2 GE182 GE185) hb; (try clear hb); have hcz16_0 := cz BK185 0 (.int .u64 t183); have hcz16_1 := cz BK185 1 (.int .u64 t184); have hfz16_0 := fz BK185 0; have hfz16_1 := fz BK185 1) | ((with_reducible refine gate_store (t := 63) (p := 7) rfl ?_); refine store_event (t := 63) (p := 7) (v := ?vo_w17) (w1 := ((w15.setCell ⟨gb185, 0, none⟩ (.int .u64 t186)).setCell ⟨gb185, 1, none⟩ (.int .u64 t187))) ?hg ?ho ?hn ?hr ?_; (case ho => rfl); (case hg => rfl); (case hn => rfl); (case hr => first | (go_simp; done) | (go_simp; rfl) | (have hq0_ := (blk_cell BK185.out 0).trans (show _ = some _ from rfl); have hf0_ := blk_frozen BK185.out 0; have hq1_ := (blk_cell BK185.out 1).trans (show _ = some _ from rfl); have hf1_ := blk_frozen BK185.out 1; first | (go_simp; done) | (go_simp; rfl))); intro w17 hw; replace BK182 : Aside0 (w17.heap[gb182]? = some (.cells #[.int .u64 a1_0, .int .u64 a1_1] 63 (0, 0))) := ⟨(by rw [hw]; exact (bG NB182_185 BK182))⟩; replace BK185 : Aside0 (w17.heap[gb185]? = some (.cells #[.int .u64 t186, .int .u64 t187] 63 (0, 0))) := ⟨(by rw [hw]; exact (by refine bU ?_; refine blk_put (cs := #[.int .u64 t186, .int .u64 t184]) ?_ 1 _ rfl; refine bU ?_; refine blk_put (cs := #[.int .u64 t183, .int .u64 t184]) ?_ 0 _ rfl; refine bU ?_; exact BK185.out))⟩; replace HB : Aside0 (Below w.heap.size w w17) := ⟨(by rw [hw]; exact (lV2 GE182 GE185))⟩; clear hw))
 (try simp only [Act.put, List.setIfInBounds_toArray, List.set_cons_zero, List.set_cons_succ])
 go_cut [] (fun wc => ∃ (kq : Nat) (x186000_5 : Int) (x186001_5 : Int), Aside0 (spec_l1Near.j0 kq a0 a2 x186000_5 x186001_5 = some r) ∧ Aside0 (kq ≤ k) ∧ Aside0 (wc.heap[gb182]? = some (.cells #[.int .u64 a1_0, .int .u64 a1_1] 63 (0, 0))) ∧ Aside0 (wc.heap[gb185]? = some (.cells #[.int .u64 x186000_5, .int .u64 x186001_5] 63 (0, 0))) ∧ Aside0 (Below w.heap.size w wc))
 case first =>
  have H := HC6.out
  clear HC6
  by_cases c18 : a0 = true
  ·subst c18
   have H1 : (if t187 = 0 then (spec_l1Near.j0 k true a2 (IntKind.u64.wrap (t186 - 1)) (IntKind.u64.wrap (t187 - 1))) else (spec_l1Near.j0 k true a2 t186 (IntKind.u64.wrap (t187 - 1)))) = some r := by rw [if_pos rfl] at H; exact H
   clear H
   have H := H1
   clear H1
   by_cases c19 : t187 = 0
   ·rw [if_pos c19] at H
    have c19b0 : (t187 == 0) = true := beq_iff_eq.mpr c19
    have c19b1 : (t187 != 0) = false := bne_eq_false_iff_eq.mpr c19
    clear c19
    (first | rw [c19b0] | (simp only [i64_w, i32_w]; rw [c19b0]) | (rw [c19b2]; simp only [Bool.not_false, Bool.not_true]) | skip)
    have H' := Aside0.mk H
    clear H
    have hnb20 := NB185_182.out
    have hnc20 := NB182_185.out
    have hcz21_0 := cz BK185 0 (.int .u64 t186)
    have hcz21_1 := cz BK185 1 (.int .u64 t187)
    have hfz21_0 := fz BK185 0
    have hfz21_1 := fz BK185 1
    go_wp2_with (first | ((with_reducible refine gate_store (t := 61) (p := 22) rfl ?_); refine store_event (t := 61) (p := 22) (v := ?vo_w22) (w1 := (w17.setCell ⟨gb185, 0, none⟩ (.int .u64 (IntKind.u64.wrap (t186 - 1))))) ?hg ?ho ?hn ?hr ?_; (case ho => rfl); (case hg => rfl); (case hn => rfl); (case hr => first | (go_simp; done) | (go_simp; rfl) | (have hq0_ := (blk_cell BK185.out 0).trans (show _ = some _ from rfl); have hf0_ := blk_frozen BK185.out 0; first | (go_simp; done) | (go_simp; rfl))); intro w22 hw; replace BK182 : Aside0 (w22.heap[gb182]? = some (.cells #[.int .u64 a1_0, .int .u64 a1_1] 63 (0, 0))) := ⟨(by rw [hw]; exact (bG NB182_185 BK182))⟩; replace BK185 : Aside0 (w22.heap[gb185]? = some (.cells #[.int .u64 (IntKind.u64.wrap (t186 - 1)), .int .u64 t187] 63 (0, 0))) := ⟨(by rw [hw]; exact (by refine bU ?_; refine blk_put (cs := #[.int .u64 t186, .int .u64 t187]) ?_ 0 _ rfl; refine bU ?_; exact BK185.out))⟩; replace HB : Aside0 (Below w.heap.size w w22) := ⟨(by rw [hw]; exact (lV2 GE182 GE185))⟩; clear hw; have hcz23_0 := cz BK185 0 (.int .u64 (IntKind.u64.wrap (t186 - 1))); have hcz23_1 := cz BK185 1 (.int .u64 t187); have hfz23_0 := fz BK185 0; have hfz23_1 := fz BK185 1) | ((with_reducible refine gate_store (t := 61) (p := 26) rfl ?_); refine store_event (t := 61) (p := 26) (v := ?vo_w24) (w1 := (w22.setCell ⟨gb185, 1, none⟩ (.int .u64 (IntKind.u64.wrap (t187 - 1))))) ?hg ?ho ?hn ?hr ?_; (case ho => rfl); (case hg => rfl); (case hn => rfl); (case hr => first | (go_simp; done) | (go_simp; rfl) | (have hq0_ := (blk_cell BK185.out 1).trans (show _ = some _ from rfl); have hf0_ := blk_frozen BK185.out 1; first | (go_simp; done) | (go_simp; rfl))); intro w24 hw; replace BK182 : Aside0 (w24.heap[gb182]? = some (.cells #[.int .u64 a1_0, .int .u64 a1_1] 63 (0, 0))) := ⟨(by rw [hw]; exact (bG NB182_185 BK182))⟩; replace BK185 : Aside0 (w24.heap[gb185]? = some (.cells #[.int .u64 (IntKind.u64.wrap (t186 - 1)), .int .u64 (IntKind.u64.wrap (t187 - 1))] 63 (0, 0))) := ⟨(by rw [hw]; exact (by refine bU ?_; refine blk_put (cs := #[.int .u64 (IntKind.u64.wrap (t186 - 1)), .int .u64 t187]) ?_ 1 _ rfl; refine bU ?_; exact BK185.out))⟩; replace HB : Aside0 (Below w.heap.size w w24) := ⟨(by rw [hw]; exact (lV2 GE182 GE185))⟩; clear hw))
    go_meet
    case rel => exact ⟨_, (IntKind.u64.wrap (t186 - 1)), (IntKind.u64.wrap (t187 - 1)), H', ⟨by first | omega | exact Nat.le_refl _⟩, ⟨by refine bU ?_; exact BK182.out⟩, ⟨by refine bU ?_; exact BK185.out⟩, ⟨by repeat (first | (with_reducible first | exact HB.out | apply below_alloc | apply pw_below_drewN | apply below_drew1 | refine below_set ?_ GE182.out | refine below_set ?_ GE185.out) | exact HB.out)⟩⟩
   ·rw [if_neg c19] at H
    have c19b0 : (t187 == 0) = false := beq_eq_false_iff_ne.mpr c19
    have c19b1 : (t187 != 0) = true := bne_iff_ne.mpr c19
    (first | rw [c19b0] | (simp only [i64_w, i32_w]; rw [c19b0]) | (rw [c19b2]; simp only [Bool.not_false, Bool.not_true]) | skip)
    have H' := Aside0.mk H
    clear H
    have hnb25 := NB185_182.out
    have hnc25 := NB182_185.out
    have hcz26_0 := cz BK185 0 (.int .u64 t186)
    have hcz26_1 := cz BK185 1 (.int .u64 t187)
    have hfz26_0 := fz BK185 0
    have hfz26_1 := fz BK185 1
    go_wp2_with (first | ((with_reducible refine gate_store (t := 61) (p := 26) rfl ?_); refine store_event (t := 61) (p := 26) (v := ?vo_w27) (w1 := (w17.setCell ⟨gb185, 1, none⟩ (.int .u64 (IntKind.u64.wrap (t187 - 1))))) ?hg ?ho ?hn ?hr ?_; (case ho => rfl); (case hg => rfl); (case hn => rfl); (case hr => first | (go_simp; done) | (go_simp; rfl) | (have hq0_ := (blk_cell BK185.out 1).trans (show _ = some _ from rfl); have hf0_ := blk_frozen BK185.out 1; first | (go_simp; done) | (go_simp; rfl))); intro w27 hw; replace BK182 : Aside0 (w27.heap[gb182]? = some (.cells #[.int .u64 a1_0, .int .u64 a1_1] 63 (0, 0))) := ⟨(by rw [hw]; exact (bG NB182_185 BK182))⟩; replace BK185 : Aside0 (w27.heap[gb185]? = some (.cells #[.int .u64 t186, .int .u64 (IntKind.u64.wrap (t187 - 1))] 63 (0, 0))) := ⟨(by rw [hw]; exact (by refine bU ?_; refine blk_put (cs := #[.int .u64 t186, .int .u64 t187]) ?_ 1 _ rfl; refine bU ?_; exact BK185.out))⟩; replace HB : Aside0 (Below w.heap.size w w27) := ⟨(by rw [hw]; exact (lV2 GE182 GE185))⟩; clear hw))
    go_meet
    case rel => exact ⟨_, (t186), (IntKind.u64.wrap (t187 - 1)), H', ⟨by first | omega | exact Nat.le_refl _⟩, ⟨by refine bU ?_; exact BK182.out⟩, ⟨by refine bU ?_; exact BK185.out⟩, ⟨by repeat (first | (with_reducible first | exact HB.out | apply below_alloc | apply pw_below_drewN | apply below_drew1 | refine below_set ?_ GE182.out | refine below_set ?_ GE185.out) | exact HB.out)⟩⟩
  ·replace c18 := Bool.eq_false_iff.mpr c18
   subst c18
   have H1 : (spec_l1Near.j0 k false a2 t186 t187) = some r := by rw [if_neg (show ¬ (false = true) by decide)] at H; exact H
   clear H
   have H := H1
   clear H1
   have H' := Aside0.mk H
   clear H
   go_wp2
   go_meet
   case rel => exact ⟨_, (t186), (t187), H', ⟨by first | omega | exact Nat.le_refl _⟩, ⟨by refine bU ?_; exact BK182.out⟩, ⟨by refine bU ?_; exact BK185.out⟩, ⟨by repeat (first | (with_reducible first | exact HB.out | apply below_alloc | apply pw_below_drewN | apply below_drew1 | refine below_set ?_ GE182.out | refine below_set ?_ GE185.out) | exact HB.out)⟩⟩
 case rest =>
  clear HC6
  try clear c1
  try clear q1
  try clear c2
  try clear p2
  try clear c3
  try clear c5
  try clear c11
  try clear c18
  try clear c19
  try clear c19b0
  try clear c19b1
  try clear c19b2
  try clear c20
  try clear c25
  try clear hcz12_0
  try clear hcz12_1
  try clear hcz14_0
  try clear hcz14_1
  try clear hcz16_0
  try clear hcz16_1
  try clear hcz21_0
  try clear hcz21_1
  try clear hcz23_0
  try clear hcz23_1
  try clear hcz26_0
  try clear hcz26_1
  try clear hcz8_0
  try clear hcz8_1
  try clear hfz12_0
  try clear hfz12_1
  try clear hfz14_0
  try clear hfz14_1
  try clear hfz16_0
  try clear hfz16_1
  try clear hfz21_0
  try clear hfz21_1
  try clear hfz23_0
  try clear hfz23_1
  try clear hfz26_0
  try clear hfz26_1
  try clear hfz8_0
  try clear hfz8_1
  obtain ⟨kq, x186000_5, x186001_5, HA, HJ5, BK182, BK185, HB⟩ := hcut
  cases kq with
  | zero => exact absurd HA.out (by simp [spec_l1Near.j0])
  | succ kj5 =>
   have H := HA.out
   clear HA
   simp only [spec_l1Near.j0] at H
   replace H := Option.bind_eq_some_iff.mp H
   obtain ⟨t188, A280, H⟩ := H
   replace H : (if a0 = true then ((spec_l1Cut.f (wrap64 (-(wrap64 (t188))))).bind fun t189 => (some t189)) else ((spec_l1Cut.f (wrap64 (t188))).bind fun t190 => (some t190))) = some r := H
   have A28 := Aside0.mk A280
   clear A280
   by_cases c29 : a0 = true
   ·subst c29
    have H1 : ((spec_l1Cut.f (wrap64 (-(wrap64 (t188))))).bind fun t189 => (some t189)) = some r := by rw [if_pos rfl] at H; exact H
    clear H
    have H := H1
    clear H1
    replace H := Option.bind_eq_some_iff.mp H
    obtain ⟨t189, A300, H⟩ := H
    replace H : (some t189) = some r := H
    have A30 := Aside0.mk A300
    clear A300
    obtain rfl := Option.some.inj H
    have hnb31 := NB185_182.out
    have hnc31 := NB182_185.out
    have hcz32_0 := cz BK185 0 (.int .u64 x186000_5)
    have hcz32_1 := cz BK185 1 (.int .u64 x186001_5)
    have hfz32_0 := fz BK185 0
    have hfz32_1 := fz BK185 1
    go_wp2_with (first | ((with_reducible refine gate_callee (f := 52) rfl ?_); refine goesL_ (some 30) rfl rfl Try.func52 (by kernel_rfl) rfl #[.agg #[.int .u64 x186000_5, .int .u64 x186001_5], .int .u64 (IntKind.u64.wrap (2 * a2)), .int .u64 4398046511104] rfl aE ?_; (with_reducible refine (spec_l1Over.calls kj5 x186000_5 x186001_5 (IntKind.u64.wrap (2 * a2)) 4398046511104 t188 _ A28.out).mono ?_); rintro e w33 ⟨rfl, hb⟩; refine ⟨_, rfl, ?_⟩; replace BK182 := bB (bV BK182) hb; replace BK185 := bB (bV BK185) hb; replace HB := bH (lV2 GE182 GE185) hb; (try clear hb)) | ((with_reducible refine gate_callee (f := 53) rfl ?_); refine goesL_ (some 36) rfl rfl Try.func53 (by kernel_rfl) rfl #[.int .i64 (wrap64 (-(wrap64 (t188))))] rfl aE ?_; (with_reducible refine (spec_l1Cut.calls (wrap64 (-(wrap64 (t188)))) t189 _ A30.out).mono ?_); rintro e w' ⟨rfl, ⟨nd, rfl⟩⟩; refine ⟨_, rfl, ?_⟩))
    go_ret
    exact ⟨eE, lV2 GE182 GE185⟩
   ·replace c29 := Bool.eq_false_iff.mpr c29
    subst c29
    have H1 : ((spec_l1Cut.f (wrap64 (t188))).bind fun t190 => (some t190)) = some r := by rw [if_neg (show ¬ (false = true) by decide)] at H; exact H
    clear H
    have H := H1
    clear H1
    replace H := Option.bind_eq_some_iff.mp H
    obtain ⟨t190, A340, H⟩ := H
    replace H : (some t190) = some r := H
    have A34 := Aside0.mk A340
    clear A340
    obtain rfl := Option.some.inj H
    have hnb35 := NB185_182.out
    have hnc35 := NB182_185.out
    have hcz36_0 := cz BK185 0 (.int .u64 x186000_5)
    have hcz36_1 := cz BK185 1 (.int .u64 x186001_5)
    have hfz36_0 := fz BK185 0
    have hfz36_1 := fz BK185 1
    go_wp2_with (first | ((with_reducible refine gate_callee (f := 52) rfl ?_); refine goesL_ (some 30) rfl rfl Try.func52 (by kernel_rfl) rfl #[.agg #[.int .u64 x186000_5, .int .u64 x186001_5], .int .u64 (IntKind.u64.wrap (2 * a2)), .int .u64 4398046511104] rfl aE ?_; (with_reducible refine (spec_l1Over.calls kj5 x186000_5 x186001_5 (IntKind.u64.wrap (2 * a2)) 4398046511104 t188 _ A28.out).mono ?_); rintro e w37 ⟨rfl, hb⟩; refine ⟨_, rfl, ?_⟩; replace BK182 := bB (bV BK182) hb; replace BK185 := bB (bV BK185) hb; replace HB := bH (lV2 GE182 GE185) hb; (try clear hb)) | ((with_reducible refine gate_callee (f := 53) rfl ?_); refine goesL_ (some 36) rfl rfl Try.func53 (by kernel_rfl) rfl #[.int .i64 (wrap64 (t188))] rfl aE ?_; (with_reducible refine (spec_l1Cut.calls (wrap64 (t188)) t190 _ A34.out).mono ?_); rintro e w' ⟨rfl, ⟨nd, rfl⟩⟩; refine ⟨_, rfl, ?_⟩))
    go_ret
    exact ⟨eE, lV2 GE182 GE185⟩
def spec_l1Abs.f (a0 : Int) : Option (Int) := if a0 < 0 then (some (wrap64 (-a0))) else (some a0)
set_option maxHeartbeats 8000000 in
set_option maxRecDepth 100000 in
theorem spec_l1Abs.calls (a0 : Int) (r : Int) (w : World) (h : spec_l1Abs.f a0 = some r) :
  Calls Try.prog 39 #[.int .i64 a0] w fun e w' => e = .returned (.int .i64 r) ∧ Drawn0 w w' := by
 have H : (if a0 < 0 then (some (wrap64 (-a0))) else (some a0)) = some r := h
 clear h
 by_cases c2 : a0 < 0
 ·rw [if_pos c2] at H
  have c2b0 : decide (a0 < 0) = true := decide_eq_true c2
  clear c2
  obtain rfl := Option.some.inj H
  go_enter Try.func39, Try.ntmps39
  go_wp2
  go_ret
  exact ⟨by first | rfl | (simp; done) | (simp [*]; done) | exact not_isEmpty _ | exact (not_isEmpty _).symm | exact is_empty _ | exact (is_empty _).symm, by repeat (first | exact Drawn0.refl _ | apply Drawn0.step)⟩
 ·rw [if_neg c2] at H
  have c2b0 : decide (a0 < 0) = false := decide_eq_false c2
  clear c2
  obtain rfl := Option.some.inj H
  go_enter Try.func39, Try.ntmps39
  go_wp2
  go_ret
  exact ⟨by first | rfl | (simp; done) | (simp [*]; done) | exact not_isEmpty _ | exact (not_isEmpty _).symm | exact is_empty _ | exact (is_empty _).symm, by repeat (first | exact Drawn0.refl _ | apply Drawn0.step)⟩
def spec_FixMul.j0 : Nat → Int → Int → Bool → Option (Int)
 | 0, _, _, _ => none
 | k + 1, x0, x1, x12 => if x12 = true then (some 0) else ((spec_l1Abs.f x0).bind fun t193 => ((spec_l1Abs.f x1).bind fun t194 => ((spec_l1Times.f (IntKind.u64.wrap (t193)) (IntKind.u64.wrap (t194))).bind fun bt195 => ((spec_l1Near.f k ((decide (x0 < 0)) != (decide (x1 < 0))) bt195.1 bt195.2 65536).bind fun t197 => (some t197)))))
def spec_FixMul.f (k : Nat) (a0 : Int) (a1 : Int) : Option (Int) := (spec_GoodFixed.f a0).bind fun t191 => (if t191 = true then ((spec_GoodFixed.f a1).bind fun t192 => (spec_FixMul.j0 k a0 a1 (!t192))) else (spec_FixMul.j0 k a0 a1 true))
theorem spec_FixMul.mono_l : ∀ k, (∀ y0 y1 y2, LeO (spec_FixMul.j0 k y0 y1 y2) (spec_FixMul.j0 (k + 1) y0 y1 y2))
 | 0 => fun _ _ _ r h => by simp [spec_FixMul.j0] at h
 | k + 1 => by
  have ih0 := spec_FixMul.mono_l k
  ·intro y0 y1 y2
   unfold spec_FixMul.j0
   repeat' first
   | (with_reducible exact ih0 _ _ _)
   | (with_reducible exact spec_l1Near.mono _ _ _ _ _)
   | (with_reducible exact LeO.refl _)
   | (with_reducible exact LeO.none _)
   | (with_reducible refine LeO.ite ?_ ?_)
   | (with_reducible refine LeO.bind ?_ (fun _ => ?_))
   | exact ih0 _ _ _
   | exact spec_l1Near.mono _ _ _ _ _
   | exact LeO.none _
   | refine LeO.ite ?_ ?_
   | refine LeO.bind ?_ (fun _ => ?_)
theorem spec_FixMul.mono : ∀ a0 a1 k, LeO (spec_FixMul.f k a0 a1) (spec_FixMul.f (k + 1) a0 a1) := by
 intro a0 a1 k
 have ih0 := spec_FixMul.mono_l k
 unfold spec_FixMul.f
 repeat' first
   | (with_reducible exact ih0 _ _ _)
   | (with_reducible exact spec_l1Near.mono _ _ _ _ _)
   | (with_reducible exact LeO.refl _)
   | (with_reducible exact LeO.none _)
   | (with_reducible refine LeO.ite ?_ ?_)
   | (with_reducible refine LeO.bind ?_ (fun _ => ?_))
   | exact ih0 _ _ _
   | exact spec_l1Near.mono _ _ _ _ _
   | exact LeO.none _
   | refine LeO.ite ?_ ?_
   | refine LeO.bind ?_ (fun _ => ?_)
set_option maxHeartbeats 8000000 in
set_option maxRecDepth 100000 in
theorem spec_FixMul.calls (k : Nat) (a0 : Int) (a1 : Int) (r : Int) (w : World) (h : spec_FixMul.f k a0 a1 = some r) :
  Calls Try.prog 22 #[.int .i64 a0, .int .i64 a1] w fun e w' => e = .returned (.int .i64 r) ∧ Below w.heap.size w w' := by
 have HB := Aside0.mk (Below.refl w.heap.size w)
 have H : ((spec_GoodFixed.f a0).bind fun t191 => (if t191 = true then ((spec_GoodFixed.f a1).bind fun t192 => (spec_FixMul.j0 k a0 a1 (!t192))) else (spec_FixMul.j0 k a0 a1 true))) = some r := h
 clear h
 have HC3 := Aside0.mk H
 clear H
 go_enter Try.func22, Try.ntmps22
 go_upto_region 1 with (fail)
 go_cut [12] (fun v12 wc => ∃ (kq : Nat) (x12_2 : Bool), v12 = .bool x12_2 ∧ Aside0 (spec_FixMul.j0 kq a0 a1 x12_2 = some r) ∧ Aside0 (kq ≤ k) ∧ Aside0 (Below w.heap.size w wc))
 case first =>
  have H := HC3.out
  clear HC3
  replace H := Option.bind_eq_some_iff.mp H
  obtain ⟨t191, A40, H⟩ := H
  replace H : (if t191 = true then ((spec_GoodFixed.f a1).bind fun t192 => (spec_FixMul.j0 k a0 a1 (!t192))) else (spec_FixMul.j0 k a0 a1 true)) = some r := H
  have A4 := Aside0.mk A40
  clear A40
  by_cases c5 : t191 = true
  ·subst c5
   have H1 : ((spec_GoodFixed.f a1).bind fun t192 => (spec_FixMul.j0 k a0 a1 (!t192))) = some r := by rw [if_pos rfl] at H; exact H
   clear H
   have H := H1
   clear H1
   replace H := Option.bind_eq_some_iff.mp H
   obtain ⟨t192, A60, H⟩ := H
   replace H : (spec_FixMul.j0 k a0 a1 (!t192)) = some r := H
   have A6 := Aside0.mk A60
   clear A60
   have H' := Aside0.mk H
   clear H
   go_wp2_with (first | ((with_reducible refine gate_callee (f := 36) rfl ?_); refine goesL_ (some 6) rfl rfl Try.func36 (by kernel_rfl) rfl #[.int .i64 a0] rfl aE ?_; (with_reducible refine (spec_GoodFixed.calls a0 true _ A4.out).mono ?_); rintro e w' ⟨rfl, ⟨nd, rfl⟩⟩; refine ⟨_, rfl, ?_⟩) | (go_at_call 36; (with_reducible refine (spec_GoodFixed.calls a1 t192 _ A6.out).mono ?_); rintro e w' ⟨rfl, ⟨nd, rfl⟩⟩))
   go_meet
   case rel => exact ⟨_, (!t192), tE, H', ⟨by first | omega | exact Nat.le_refl _⟩, ⟨by repeat (first | (with_reducible first | exact HB.out | apply below_alloc | apply pw_below_drewN | apply below_drew1) | exact HB.out)⟩⟩
  ·replace c5 := Bool.eq_false_iff.mpr c5
   subst c5
   have H1 : (spec_FixMul.j0 k a0 a1 true) = some r := by rw [if_neg (show ¬ (false = true) by decide)] at H; exact H
   clear H
   have H := H1
   clear H1
   have H' := Aside0.mk H
   clear H
   go_wp2_with (first | ((with_reducible refine gate_callee (f := 36) rfl ?_); refine goesL_ (some 6) rfl rfl Try.func36 (by kernel_rfl) rfl #[.int .i64 a0] rfl aE ?_; (with_reducible refine (spec_GoodFixed.calls a0 false _ A4.out).mono ?_); rintro e w' ⟨rfl, ⟨nd, rfl⟩⟩; refine ⟨_, rfl, ?_⟩))
   go_meet
   case rel => exact ⟨_, (true), tE, H', ⟨by first | omega | exact Nat.le_refl _⟩, ⟨by repeat (first | (with_reducible first | exact HB.out | apply below_alloc | apply pw_below_drewN | apply below_drew1) | exact HB.out)⟩⟩
 case rest =>
  clear HC3
  try clear c2
  try clear p2
  try clear c3
  try clear c5
  obtain ⟨kq, x12_2, rfl, HA, HJ2, HB⟩ := hcut
  cases kq with
  | zero => exact absurd HA.out (by simp [spec_FixMul.j0])
  | succ kj2 =>
   have H := HA.out
   clear HA
   simp only [spec_FixMul.j0] at H
   by_cases c7 : x12_2 = true
   ·subst c7
    have H1 : (some 0) = some r := by rw [if_pos rfl] at H; exact H
    clear H
    have H := H1
    clear H1
    obtain rfl := Option.some.inj H
    go_wp2
    go_ret
    exact ⟨eE, lU⟩
   ·replace c7 := Bool.eq_false_iff.mpr c7
    subst c7
    have H1 : ((spec_l1Abs.f a0).bind fun t193 => ((spec_l1Abs.f a1).bind fun t194 => ((spec_l1Times.f (IntKind.u64.wrap (t193)) (IntKind.u64.wrap (t194))).bind fun bt195 => ((spec_l1Near.f kj2 ((decide (a0 < 0)) != (decide (a1 < 0))) bt195.1 bt195.2 65536).bind fun t197 => (some t197))))) = some r := by rw [if_neg (show ¬ (false = true) by decide)] at H; exact H
    clear H
    have H := H1
    clear H1
    replace H := Option.bind_eq_some_iff.mp H
    obtain ⟨t193, A80, H⟩ := H
    replace H : ((spec_l1Abs.f a1).bind fun t194 => ((spec_l1Times.f (IntKind.u64.wrap (t193)) (IntKind.u64.wrap (t194))).bind fun bt195 => ((spec_l1Near.f kj2 ((decide (a0 < 0)) != (decide (a1 < 0))) bt195.1 bt195.2 65536).bind fun t197 => (some t197)))) = some r := H
    have A8 := Aside0.mk A80
    clear A80
    replace H := Option.bind_eq_some_iff.mp H
    obtain ⟨t194, A90, H⟩ := H
    replace H : ((spec_l1Times.f (IntKind.u64.wrap (t193)) (IntKind.u64.wrap (t194))).bind fun bt195 => ((spec_l1Near.f kj2 ((decide (a0 < 0)) != (decide (a1 < 0))) bt195.1 bt195.2 65536).bind fun t197 => (some t197))) = some r := H
    have A9 := Aside0.mk A90
    clear A90
    replace H := Option.bind_eq_some_iff.mp H
    obtain ⟨⟨t195, t196⟩, A100, H⟩ := H
    replace H : ((spec_l1Near.f kj2 ((decide (a0 < 0)) != (decide (a1 < 0))) t195 t196 65536).bind fun t197 => (some t197)) = some r := H
    have A10 := Aside0.mk A100
    clear A100
    replace H := Option.bind_eq_some_iff.mp H
    obtain ⟨t197, A110, H⟩ := H
    replace H : (some t197) = some r := H
    have A11 := Aside0.mk A110
    clear A110
    obtain rfl := Option.some.inj H
    go_wp2_with (first | ((with_reducible refine gate_callee (f := 39) rfl ?_); refine goesL_ (some 19) rfl rfl Try.func39 (by kernel_rfl) rfl #[.int .i64 a0] rfl aE ?_; (with_reducible refine (spec_l1Abs.calls a0 t193 _ A8.out).mono ?_); rintro e w' ⟨rfl, ⟨nd, rfl⟩⟩; refine ⟨_, rfl, ?_⟩) | ((with_reducible refine gate_callee (f := 39) rfl ?_); refine goesL_ (some 22) rfl rfl Try.func39 (by kernel_rfl) rfl #[.int .i64 a1] rfl aE ?_; (with_reducible refine (spec_l1Abs.calls a1 t194 _ A9.out).mono ?_); rintro e w' ⟨rfl, ⟨nd, rfl⟩⟩; refine ⟨_, rfl, ?_⟩) | ((with_reducible refine gate_callee (f := 38) rfl ?_); refine goesL_ (some 24) rfl rfl Try.func38 (by kernel_rfl) rfl #[.int .u64 (IntKind.u64.wrap (t193)), .int .u64 (IntKind.u64.wrap (t194))] rfl aE ?_; (with_reducible refine (spec_l1Times.calls (IntKind.u64.wrap (t193)) (IntKind.u64.wrap (t194)) t195 t196 _ A10.out).mono ?_); rintro e w12 ⟨rfl, hb⟩; refine ⟨_, rfl, ?_⟩; replace HB := bH (lU) hb; (try clear hb)) | ((with_reducible refine gate_callee (f := 37) rfl ?_); refine goesL_ (some 25) rfl rfl Try.func37 (by kernel_rfl) rfl #[.bool ((decide (a0 < 0)) != (decide (a1 < 0))), .agg #[.int .u64 t195, .int .u64 t196], .int .u64 65536] rfl aE ?_; (with_reducible refine (spec_l1Near.calls kj2 ((decide (a0 < 0)) != (decide (a1 < 0))) t195 t196 65536 t197 _ A11.out).mono ?_); rintro e w13 ⟨rfl, hb⟩; refine ⟨_, rfl, ?_⟩; replace HB := bH (lU) hb; (try clear hb)))
    go_ret
    exact ⟨eE, lU⟩
def spec_l1Down.f (a0 : Int) (a1 : Int) : Option (Int) := if a1 = 0 then (none) else (if (Int.tmod a0 a1) = 0 then (some (wrap64 (Int.tdiv a0 a1))) else (if ((decide (a0 < 0)) != (decide (a1 < 0))) = true then (some (wrap64 ((wrap64 (Int.tdiv a0 a1)) - 1))) else (some (wrap64 (Int.tdiv a0 a1)))))
set_option maxHeartbeats 8000000 in
set_option maxRecDepth 100000 in
theorem spec_l1Down.calls (a0 : Int) (a1 : Int) (r : Int) (w : World) (h : spec_l1Down.f a0 a1 = some r) :
  Calls Try.prog 54 #[.int .i64 a0, .int .i64 a1] w fun e w' => e = .returned (.int .i64 r) ∧ Drawn0 w w' := by
 have H : (if a1 = 0 then (none) else (if (Int.tmod a0 a1) = 0 then (some (wrap64 (Int.tdiv a0 a1))) else (if ((decide (a0 < 0)) != (decide (a1 < 0))) = true then (some (wrap64 ((wrap64 (Int.tdiv a0 a1)) - 1))) else (some (wrap64 (Int.tdiv a0 a1)))))) = some r := h
 clear h
 by_cases c3 : a1 = 0
 ·rw [if_pos c3] at H
  exact absurd H (by simp)
 ·rw [if_neg c3] at H
  have c3b0 : (a1 == 0) = false := beq_eq_false_iff_ne.mpr c3
  have c3b1 : (a1 != 0) = true := bne_iff_ne.mpr c3
  by_cases c4 : (Int.tmod a0 a1) = 0
  ·rw [if_pos c4] at H
   have c4b0 : ((Int.tmod a0 a1) == 0) = true := beq_iff_eq.mpr c4
   have c4b1 : ((Int.tmod a0 a1) != 0) = false := bne_eq_false_iff_eq.mpr c4
   clear c4
   obtain rfl := Option.some.inj H
   go_enter Try.func54, Try.ntmps54
   go_wp2
   go_ret
   exact ⟨by first | rfl | (simp; done) | (simp [*]; done) | exact not_isEmpty _ | exact (not_isEmpty _).symm | exact is_empty _ | exact (is_empty _).symm, by repeat (first | exact Drawn0.refl _ | apply Drawn0.step)⟩
  ·rw [if_neg c4] at H
   have c4b0 : ((Int.tmod a0 a1) == 0) = false := beq_eq_false_iff_ne.mpr c4
   have c4b1 : ((Int.tmod a0 a1) != 0) = true := bne_iff_ne.mpr c4
   by_cases c5 : ((decide (a0 < 0)) != (decide (a1 < 0))) = true
   ·rw [if_pos c5] at H
    have c5b0 : ((decide (a0 < 0)) != (decide (a1 < 0))) = true := c5
    (try (have c5b1 : decide ((decide (a0 < 0)) = (decide (a1 < 0))) = false := by simpa using c5))
    (try (have c5b2 : ((decide (a0 < 0)) == (decide (a1 < 0))) = false := by simpa using c5))
    (try (have c5b3 : ¬ ((decide (a0 < 0)) = (decide (a1 < 0))) := by simpa using c5))
    clear c5
    obtain rfl := Option.some.inj H
    go_enter Try.func54, Try.ntmps54
    go_wp2
    go_ret
    exact ⟨by first | rfl | (simp; done) | (simp [*]; done) | exact not_isEmpty _ | exact (not_isEmpty _).symm | exact is_empty _ | exact (is_empty _).symm, by repeat (first | exact Drawn0.refl _ | apply Drawn0.step)⟩
   ·rw [if_neg c5] at H
    have c5b0 : ((decide (a0 < 0)) != (decide (a1 < 0))) = false := by simpa using c5
    (try (have c5b1 : decide ((decide (a0 < 0)) = (decide (a1 < 0))) = true := by simpa using c5))
    (try (have c5b2 : ((decide (a0 < 0)) == (decide (a1 < 0))) = true := by simpa using c5))
    clear c5
    obtain rfl := Option.some.inj H
    go_enter Try.func54, Try.ntmps54
    go_wp2
    go_ret
    exact ⟨by first | rfl | (simp; done) | (simp [*]; done) | exact not_isEmpty _ | exact (not_isEmpty _).symm | exact is_empty _ | exact (is_empty _).symm, by repeat (first | exact Drawn0.refl _ | apply Drawn0.step)⟩
def spec_l1Mod.f (a0 : Int) (a1 : Int) : Option (Int) := (spec_l1Down.f a0 a1).bind fun t198 => (some (wrap64 (a0 - (wrap64 (a1 * t198)))))
set_option maxHeartbeats 8000000 in
set_option maxRecDepth 100000 in
theorem spec_l1Mod.calls (a0 : Int) (a1 : Int) (r : Int) (w : World) (h : spec_l1Mod.f a0 a1 = some r) :
  Calls Try.prog 40 #[.int .i64 a0, .int .i64 a1] w fun e w' => e = .returned (.int .i64 r) ∧ Drawn0 w w' := by
 have H : ((spec_l1Down.f a0 a1).bind fun t198 => (some (wrap64 (a0 - (wrap64 (a1 * t198)))))) = some r := h
 clear h
 replace H := Option.bind_eq_some_iff.mp H
 obtain ⟨t198, A30, H⟩ := H
 replace H : (some (wrap64 (a0 - (wrap64 (a1 * t198))))) = some r := H
 have A3 := Aside0.mk A30
 clear A30
 obtain rfl := Option.some.inj H
 go_enter Try.func40, Try.ntmps40
 go_wp2_with (first | ((with_reducible refine gate_callee (f := 54) rfl ?_); refine goesL_ (some 9) rfl rfl Try.func54 (by kernel_rfl) rfl #[.int .i64 a0, .int .i64 a1] rfl aE ?_; (with_reducible refine (spec_l1Down.calls a0 a1 t198 _ A3.out).mono ?_); rintro e w' ⟨rfl, ⟨nd, rfl⟩⟩; refine ⟨_, rfl, ?_⟩))
 go_ret
 exact ⟨by first | rfl | (simp; done) | (simp [*]; done) | exact not_isEmpty _ | exact (not_isEmpty _).symm | exact is_empty _ | exact (is_empty _).symm, by repeat (first | exact Drawn0.refl _ | apply Drawn0.step)⟩
def spec_l1Table.f  : Option (List Int) := some (([0, 6424, 12785, 19024, 25080, 30893, 36410, 41576, 46341, 50660, 54491, 57798, 60547, 62714, 64277, 65220, 65536] : List Int))
set_option maxHeartbeats 8000000 in
set_option maxRecDepth 100000 in
theorem spec_l1Table.calls  (r : List Int) (w : World) (h : spec_l1Table.f  = some r) :
  Calls Try.prog 41 #[] w fun e w' => ∃ v0_ : Value, e = .returned (v0_) ∧ Kd.R (Kd.int .i64) 3 w' w.heap.size (fun _ => True) v0_ r ∧ Below w.heap.size w w' := by
 have HB := Aside0.mk (Below.refl w.heap.size w)
 have H : (some (([0, 6424, 12785, 19024, 25080, 30893, 36410, 41576, 46341, 50660, 54491, 57798, 60547, 62714, 64277, 65220, 65536] : List Int))) = some r := h
 clear h
 obtain ⟨y199, hy199⟩ : ∃ y_ : List Int, y_ = (([0, 6424, 12785, 19024, 25080, 30893, 36410, 41576, 46341, 50660, 54491, 57798, 60547, 62714, 64277, 65220, 65536] : List Int)) := ⟨_, rfl⟩
 replace H : (some y199) = some r := by first | (rw [hy199]; with_reducible exact H) | (have H2_ := (Option.bind_some _ _).symm.trans H; rw [hy199]; with_reducible exact H2_) | (have H2_ := (Option.bind_some _ _).symm.trans H; with_reducible exact H2_) | with_reducible exact H | (rw [hy199]; exact H) | exact H
 have Ny199 := Aside0.mk hy199
 clear hy199
 obtain rfl := Option.some.inj H
 go_enter Try.func41, Try.ntmps41
 go_wp2_with (first | ((with_reducible refine gate_dst (N := 1) rfl ?_); refine Kd.R_lit (Kd.int .i64) _ 3 ?hg (N := 1) ?hd (xs := ([0, 6424, 12785, 19024, 25080, 30893, 36410, 41576, 46341, 50660, 54491, 57798, 60547, 62714, 64277, 65220, 65536] : List Int)) (inner := [.int .i64 0, .int .i64 6424, .int .i64 12785, .int .i64 19024, .int .i64 25080, .int .i64 30893, .int .i64 36410, .int .i64 41576, .int .i64 46341, .int .i64 50660, .int .i64 54491, .int .i64 57798, .int .i64 60547, .int .i64 62714, .int .i64 64277, .int .i64 65220, .int .i64 65536]) (ok := fun _ => True) (okp := fun _ => True) ?hr ?hp (fun _ hk => hk) trivial (Below.refl _ _) (Nat.le_refl _) (by simp) ?_; (case hd => rfl); (case hg => rfl); (case hr => exact sE); (case hp => exact (Reps.one (show Kd.M (Kd.int .i64) _ _ _ 0 [.int .i64 0] from rfl) (Reps.one (show Kd.M (Kd.int .i64) _ _ _ 6424 [.int .i64 6424] from rfl) (Reps.one (show Kd.M (Kd.int .i64) _ _ _ 12785 [.int .i64 12785] from rfl) (Reps.one (show Kd.M (Kd.int .i64) _ _ _ 19024 [.int .i64 19024] from rfl) (Reps.one (show Kd.M (Kd.int .i64) _ _ _ 25080 [.int .i64 25080] from rfl) (Reps.one (show Kd.M (Kd.int .i64) _ _ _ 30893 [.int .i64 30893] from rfl) (Reps.one (show Kd.M (Kd.int .i64) _ _ _ 36410 [.int .i64 36410] from rfl) (Reps.one (show Kd.M (Kd.int .i64) _ _ _ 41576 [.int .i64 41576] from rfl) (Reps.one (show Kd.M (Kd.int .i64) _ _ _ 46341 [.int .i64 46341] from rfl) (Reps.one (show Kd.M (Kd.int .i64) _ _ _ 50660 [.int .i64 50660] from rfl) (Reps.one (show Kd.M (Kd.int .i64) _ _ _ 54491 [.int .i64 54491] from rfl) (Reps.one (show Kd.M (Kd.int .i64) _ _ _ 57798 [.int .i64 57798] from rfl) (Reps.one (show Kd.M (Kd.int .i64) _ _ _ 60547 [.int .i64 60547] from rfl) (Reps.one (show Kd.M (Kd.int .i64) _ _ _ 62714 [.int .i64 62714] from rfl) (Reps.one (show Kd.M (Kd.int .i64) _ _ _ 64277 [.int .i64 64277] from rfl) (Reps.one (show Kd.M (Kd.int .i64) _ _ _ 65220 [.int .i64 65220] from rfl) (Reps.one (show Kd.M (Kd.int .i64) _ _ _ 65536 [.int .i64 65536] from rfl) (Reps.none _ _))))))))))))))))))); intro v200 w1 ho2 hb hg_ hnew_; clear hg_ hnew_; (first | rw [← Ny199.out] at ho2 | (simp only [Int.reduceToNat] at ho2; rw [← Ny199.out] at ho2)); have HO201 := Aside0.mk (Kd.R_lower ho2 (below_size (lU))); replace HB := bH (lU) hb; clear hb ho2))
 go_ret
 exact ⟨_, eE, by (with_reducible repeat (first | apply Kd.R_alloc | apply Kd.R_drewN | apply Kd.R_drew)); exact HO201.out, lU⟩
def spec_SinOf.f : Nat → Int → Option (Int)
 | 0, _ => none
 | k + 1, a0 => (spec_l1Mod.f a0 4096).bind fun t202 => (if t202 ≥ 2048 then ((spec_SinOf.f k (wrap64 (t202 - 2048))).bind fun t203 => (some (wrap64 (-t203)))) else (if t202 > 1024 then ((spec_SinOf.f k (wrap64 (2048 - t202))).bind fun t204 => (some t204)) else (if t202 = 1024 then (some 65536) else ((spec_l1Table.f).bind fun t205 => (if 0 ≤ (wrap64 (Int.tdiv t202 64)) then (if (wrap64 (Int.tdiv t202 64)) < (t205.length : Int) then (if 0 ≤ (wrap64 ((wrap64 (Int.tdiv t202 64)) + 1)) then (if (wrap64 ((wrap64 (Int.tdiv t202 64)) + 1)) < (t205.length : Int) then (some (wrap64 (Int.tdiv (wrap64 ((wrap64 ((wrap64 ((rd t205 (wrap64 (Int.tdiv t202 64))) * (wrap64 (64 - (Int.tmod t202 64))))) + (wrap64 ((rd t205 (wrap64 ((wrap64 (Int.tdiv t202 64)) + 1))) * (Int.tmod t202 64))))) + 32)) 64))) else (none)) else (none)) else (none)) else (none))))))
theorem spec_SinOf.mono_l : ∀ k, (∀ y0, LeO (spec_SinOf.f k y0) (spec_SinOf.f (k + 1) y0))
 | 0 => fun _ r h => by simp [spec_SinOf.f] at h
 | k + 1 => by
  have ih0 := spec_SinOf.mono_l k
  ·intro y0
   unfold spec_SinOf.f
   repeat' first
   | (with_reducible exact ih0 _)
   | (with_reducible exact LeO.refl _)
   | (with_reducible exact LeO.none _)
   | (with_reducible refine LeO.ite ?_ ?_)
   | (with_reducible refine LeO.bind ?_ (fun _ => ?_))
   | exact ih0 _
   | exact LeO.none _
   | refine LeO.ite ?_ ?_
   | refine LeO.bind ?_ (fun _ => ?_)
theorem spec_SinOf.mono : ∀ a0 k, LeO (spec_SinOf.f k a0) (spec_SinOf.f (k + 1) a0) := by
 intro a0 k
 have ih0 := spec_SinOf.mono_l k
 exact ih0 a0
set_option maxHeartbeats 8000000 in
set_option maxRecDepth 100000 in
theorem spec_SinOf.calls (k : Nat) : ∀ (a0 : Int) (r : Int) (w : World) (h : spec_SinOf.f k a0 = some r),
  Calls Try.prog 24 #[.int .i64 a0] w fun e w' => e = .returned (.int .i64 r) ∧ Below w.heap.size w w' := by
 induction k using Nat.strongRecOn with
 | _ k ih =>
 intro a0 r w h
 cases k with
 | zero => exact absurd h (by simp [spec_SinOf.f])
 | succ k =>
 simp only [spec_SinOf.f] at h
 have HB := Aside0.mk (Below.refl w.heap.size w)
 have H : ((spec_l1Mod.f a0 4096).bind fun t202 => (if t202 ≥ 2048 then ((spec_SinOf.f k (wrap64 (t202 - 2048))).bind fun t203 => (some (wrap64 (-t203)))) else (if t202 > 1024 then ((spec_SinOf.f k (wrap64 (2048 - t202))).bind fun t204 => (some t204)) else (if t202 = 1024 then (some 65536) else ((spec_l1Table.f).bind fun t205 => (if 0 ≤ (wrap64 (Int.tdiv t202 64)) then (if (wrap64 (Int.tdiv t202 64)) < (t205.length : Int) then (if 0 ≤ (wrap64 ((wrap64 (Int.tdiv t202 64)) + 1)) then (if (wrap64 ((wrap64 (Int.tdiv t202 64)) + 1)) < (t205.length : Int) then (some (wrap64 (Int.tdiv (wrap64 ((wrap64 ((wrap64 ((rd t205 (wrap64 (Int.tdiv t202 64))) * (wrap64 (64 - (Int.tmod t202 64))))) + (wrap64 ((rd t205 (wrap64 ((wrap64 (Int.tdiv t202 64)) + 1))) * (Int.tmod t202 64))))) + 32)) 64))) else (none)) else (none)) else (none)) else (none))))))) = some r := h
 clear h
 replace H := Option.bind_eq_some_iff.mp H
 obtain ⟨t202, A20, H⟩ := H
 replace H : (if t202 ≥ 2048 then ((spec_SinOf.f k (wrap64 (t202 - 2048))).bind fun t203 => (some (wrap64 (-t203)))) else (if t202 > 1024 then ((spec_SinOf.f k (wrap64 (2048 - t202))).bind fun t204 => (some t204)) else (if t202 = 1024 then (some 65536) else ((spec_l1Table.f).bind fun t205 => (if 0 ≤ (wrap64 (Int.tdiv t202 64)) then (if (wrap64 (Int.tdiv t202 64)) < (t205.length : Int) then (if 0 ≤ (wrap64 ((wrap64 (Int.tdiv t202 64)) + 1)) then (if (wrap64 ((wrap64 (Int.tdiv t202 64)) + 1)) < (t205.length : Int) then (some (wrap64 (Int.tdiv (wrap64 ((wrap64 ((wrap64 ((rd t205 (wrap64 (Int.tdiv t202 64))) * (wrap64 (64 - (Int.tmod t202 64))))) + (wrap64 ((rd t205 (wrap64 ((wrap64 (Int.tdiv t202 64)) + 1))) * (Int.tmod t202 64))))) + 32)) 64))) else (none)) else (none)) else (none)) else (none)))))) = some r := H
 have A2 := Aside0.mk A20
 clear A20
 by_cases c3 : t202 ≥ 2048
 ·rw [if_pos c3] at H
  have c3b0 : decide (2048 ≤ t202) = true := decide_eq_true c3
  clear c3
  replace H := Option.bind_eq_some_iff.mp H
  obtain ⟨t203, A40, H⟩ := H
  replace H : (some (wrap64 (-t203))) = some r := H
  have A4 := Aside0.mk A40
  clear A40
  obtain rfl := Option.some.inj H
  go_enter Try.func24, Try.ntmps24
  go_wp2_with (first | (go_at_call 40; (with_reducible refine (spec_l1Mod.calls a0 4096 t202 _ A2.out).mono ?_); rintro e w' ⟨rfl, ⟨nd, rfl⟩⟩; (try first | exact ⟨rfl, _, World.drewN_drewN _ _ _⟩ | exact ⟨rfl, _, Eq.trans (World.drewN_drewN _ _ _) (congrArg (World.drewN _) (Nat.add_assoc _ _ _))⟩)) | (go_at_call 24; (with_reducible refine (ih k (by omega) (wrap64 (t202 - 2048)) t203 _ A4.out).mono ?_); rintro e w5 ⟨rfl, hb⟩; replace HB := bH (lU) hb; (try clear hb)))
  repeat (go_quiet (first | (go_at_call 40; (with_reducible refine (spec_l1Mod.calls a0 4096 t202 _ A2.out).mono ?_); rintro e w' ⟨rfl, ⟨nd, rfl⟩⟩; (try first | exact ⟨rfl, _, World.drewN_drewN _ _ _⟩ | exact ⟨rfl, _, Eq.trans (World.drewN_drewN _ _ _) (congrArg (World.drewN _) (Nat.add_assoc _ _ _))⟩)) | (go_at_call 24; (with_reducible refine (ih k (by omega) (wrap64 (t202 - 2048)) t203 _ A4.out).mono ?_); rintro e w5 ⟨rfl, hb⟩; replace HB := bH (lU) hb; (try clear hb))); try go_wp2_with (first | (go_at_call 40; (with_reducible refine (spec_l1Mod.calls a0 4096 t202 _ A2.out).mono ?_); rintro e w' ⟨rfl, ⟨nd, rfl⟩⟩; (try first | exact ⟨rfl, _, World.drewN_drewN _ _ _⟩ | exact ⟨rfl, _, Eq.trans (World.drewN_drewN _ _ _) (congrArg (World.drewN _) (Nat.add_assoc _ _ _))⟩)) | (go_at_call 24; (with_reducible refine (ih k (by omega) (wrap64 (t202 - 2048)) t203 _ A4.out).mono ?_); rintro e w5 ⟨rfl, hb⟩; replace HB := bH (lU) hb; (try clear hb))))
  go_ret
  exact ⟨eE, lU⟩
 ·rw [if_neg c3] at H
  have c3b0 : decide (2048 ≤ t202) = false := decide_eq_false c3
  clear c3
  by_cases c6 : t202 > 1024
  ·rw [if_pos c6] at H
   have c6b0 : decide (1024 < t202) = true := decide_eq_true c6
   clear c6
   replace H := Option.bind_eq_some_iff.mp H
   obtain ⟨t204, A70, H⟩ := H
   replace H : (some t204) = some r := H
   have A7 := Aside0.mk A70
   clear A70
   obtain rfl := Option.some.inj H
   go_enter Try.func24, Try.ntmps24
   go_wp2_with (first | (go_at_call 40; (with_reducible refine (spec_l1Mod.calls a0 4096 t202 _ A2.out).mono ?_); rintro e w' ⟨rfl, ⟨nd, rfl⟩⟩; (try first | exact ⟨rfl, _, World.drewN_drewN _ _ _⟩ | exact ⟨rfl, _, Eq.trans (World.drewN_drewN _ _ _) (congrArg (World.drewN _) (Nat.add_assoc _ _ _))⟩)) | (go_at_call 24; (with_reducible refine (ih k (by omega) (wrap64 (2048 - t202)) t204 _ A7.out).mono ?_); rintro e w8 ⟨rfl, hb⟩; replace HB := bH (lU) hb; (try clear hb)))
   repeat (go_quiet (first | (go_at_call 40; (with_reducible refine (spec_l1Mod.calls a0 4096 t202 _ A2.out).mono ?_); rintro e w' ⟨rfl, ⟨nd, rfl⟩⟩; (try first | exact ⟨rfl, _, World.drewN_drewN _ _ _⟩ | exact ⟨rfl, _, Eq.trans (World.drewN_drewN _ _ _) (congrArg (World.drewN _) (Nat.add_assoc _ _ _))⟩)) | (go_at_call 24; (with_reducible refine (ih k (by omega) (wrap64 (2048 - t202)) t204 _ A7.out).mono ?_); rintro e w8 ⟨rfl, hb⟩; replace HB := bH (lU) hb; (try clear hb))); try go_wp2_with (first | (go_at_call 40; (with_reducible refine (spec_l1Mod.calls a0 4096 t202 _ A2.out).mono ?_); rintro e w' ⟨rfl, ⟨nd, rfl⟩⟩; (try first | exact ⟨rfl, _, World.drewN_drewN _ _ _⟩ | exact ⟨rfl, _, Eq.trans (World.drewN_drewN _ _ _) (congrArg (World.drewN _) (Nat.add_assoc _ _ _))⟩)) | (go_at_call 24; (with_reducible refine (ih k (by omega) (wrap64 (2048 - t202)) t204 _ A7.out).mono ?_); rintro e w8 ⟨rfl, hb⟩; replace HB := bH (lU) hb; (try clear hb))))
   go_ret
   exact ⟨eE, lU⟩
  ·rw [if_neg c6] at H
   have c6b0 : decide (1024 < t202) = false := decide_eq_false c6
   clear c6
   by_cases c9 : t202 = 1024
   ·rw [if_pos c9] at H
    have c9b0 : (t202 == 1024) = true := beq_iff_eq.mpr c9
    have c9b1 : (t202 != 1024) = false := bne_eq_false_iff_eq.mpr c9
    clear c9
    obtain rfl := Option.some.inj H
    go_enter Try.func24, Try.ntmps24
    go_wp2_with (first | (go_at_call 40; (with_reducible refine (spec_l1Mod.calls a0 4096 t202 _ A2.out).mono ?_); rintro e w' ⟨rfl, ⟨nd, rfl⟩⟩; (try first | exact ⟨rfl, _, World.drewN_drewN _ _ _⟩ | exact ⟨rfl, _, Eq.trans (World.drewN_drewN _ _ _) (congrArg (World.drewN _) (Nat.add_assoc _ _ _))⟩)))
    repeat (go_quiet (first | (go_at_call 40; (with_reducible refine (spec_l1Mod.calls a0 4096 t202 _ A2.out).mono ?_); rintro e w' ⟨rfl, ⟨nd, rfl⟩⟩; (try first | exact ⟨rfl, _, World.drewN_drewN _ _ _⟩ | exact ⟨rfl, _, Eq.trans (World.drewN_drewN _ _ _) (congrArg (World.drewN _) (Nat.add_assoc _ _ _))⟩))); try go_wp2_with (first | (go_at_call 40; (with_reducible refine (spec_l1Mod.calls a0 4096 t202 _ A2.out).mono ?_); rintro e w' ⟨rfl, ⟨nd, rfl⟩⟩; (try first | exact ⟨rfl, _, World.drewN_drewN _ _ _⟩ | exact ⟨rfl, _, Eq.trans (World.drewN_drewN _ _ _) (congrArg (World.drewN _) (Nat.add_assoc _ _ _))⟩))))
    go_ret
    exact ⟨eE, lU⟩
   ·rw [if_neg c9] at H
    have c9b0 : (t202 == 1024) = false := beq_eq_false_iff_ne.mpr c9
    have c9b1 : (t202 != 1024) = true := bne_iff_ne.mpr c9
    replace H := Option.bind_eq_some_iff.mp H
    obtain ⟨t205, A100, H⟩ := H
    replace H : (if 0 ≤ (wrap64 (Int.tdiv t202 64)) then (if (wrap64 (Int.tdiv t202 64)) < (t205.length : Int) then (if 0 ≤ (wrap64 ((wrap64 (Int.tdiv t202 64)) + 1)) then (if (wrap64 ((wrap64 (Int.tdiv t202 64)) + 1)) < (t205.length : Int) then (some (wrap64 (Int.tdiv (wrap64 ((wrap64 ((wrap64 ((rd t205 (wrap64 (Int.tdiv t202 64))) * (wrap64 (64 - (Int.tmod t202 64))))) + (wrap64 ((rd t205 (wrap64 ((wrap64 (Int.tdiv t202 64)) + 1))) * (Int.tmod t202 64))))) + 32)) 64))) else (none)) else (none)) else (none)) else (none)) = some r := H
    have A10 := Aside0.mk A100
    clear A100
    obtain ⟨ji11, hji11⟩ : ∃ j_ : Int, (wrap64 (Int.tdiv t202 64)) = j_ := ⟨_, rfl⟩
    replace H : (if 0 ≤ (ji11) then (if (ji11) < (t205.length : Int) then (if 0 ≤ (wrap64 ((ji11) + 1)) then (if (wrap64 ((ji11) + 1)) < (t205.length : Int) then (some (wrap64 (Int.tdiv (wrap64 ((wrap64 ((wrap64 ((rd t205 (ji11)) * (wrap64 (64 - (Int.tmod t202 64))))) + (wrap64 ((rd t205 (wrap64 ((ji11) + 1))) * (Int.tmod t202 64))))) + 32)) 64))) else (none)) else (none)) else (none)) else (none)) = some r := by first | (rw [hji11] at H; exact H) | (simp only [hji11] at H ⊢; exact H)
    (try rw [hji11] at A2)
    (try rw [hji11] at A10)
    have hji11w : (IntKind.i64.wrap (Int.tdiv t202 64)) = ji11 := (i64_w _).trans hji11
    by_cases c12 : 0 ≤ (ji11)
    ·rw [if_pos c12] at H
     have c12b0 : decide (0 ≤ (ji11)) = true := decide_eq_true c12
     clear c12
     by_cases c13 : (ji11) < (t205.length : Int)
     ·rw [if_pos c13] at H
      have c13b0 : decide ((ji11) < (t205.length : Int)) = true := decide_eq_true c13
      clear c13
      obtain ⟨ji14, hji14⟩ : ∃ j_ : Int, (wrap64 ((ji11) + 1)) = j_ := ⟨_, rfl⟩
      replace H : (if 0 ≤ (ji14) then (if (ji14) < (t205.length : Int) then (some (wrap64 (Int.tdiv (wrap64 ((wrap64 ((wrap64 ((rd t205 (ji11)) * (wrap64 (64 - (Int.tmod t202 64))))) + (wrap64 ((rd t205 (ji14)) * (Int.tmod t202 64))))) + 32)) 64))) else (none)) else (none)) = some r := by first | (rw [hji14] at H; exact H) | (simp only [hji14] at H ⊢; exact H)
      (try rw [hji14] at A2)
      (try rw [hji14] at A10)
      have hji14w : (IntKind.i64.wrap ((ji11) + 1)) = ji14 := (i64_w _).trans hji14
      by_cases c15 : 0 ≤ (ji14)
      ·rw [if_pos c15] at H
       have c15b0 : decide (0 ≤ (ji14)) = true := decide_eq_true c15
       clear c15
       by_cases c16 : (ji14) < (t205.length : Int)
       ·rw [if_pos c16] at H
        have c16b0 : decide ((ji14) < (t205.length : Int)) = true := decide_eq_true c16
        clear c16
        obtain rfl := Option.some.inj H
        go_enter Try.func24, Try.ntmps24
        go_wp2_with (first | (go_at_call 40; (with_reducible refine (spec_l1Mod.calls a0 4096 t202 _ A2.out).mono ?_); rintro e w' ⟨rfl, ⟨nd, rfl⟩⟩; (try first | exact ⟨rfl, _, World.drewN_drewN _ _ _⟩ | exact ⟨rfl, _, Eq.trans (World.drewN_drewN _ _ _) (congrArg (World.drewN _) (Nat.add_assoc _ _ _))⟩)) | (go_at_call 41; (with_reducible refine (spec_l1Table.calls  t205 _ A10.out).mono ?_); rintro e w17 ⟨v206, rfl, ho0, hb⟩; have HO207 := Aside0.mk (Kd.R_lower ho0 (below_size (lU))); replace HB := bH (lU) hb; (try clear hb); (try clear ho0); obtain ⟨Ao18, co18, eo18⟩ := Kd.R_slice HO207.out; subst eo18; have p208 : 0 ≤ ((ji11) : Int) := of_decide_eq_true hE; have q208 : (ji11) < (t205.length : Int) := of_decide_eq_true hE; obtain ⟨ad208, e208, hx208_0⟩ := Kd.at_int (Kd.R_reads' HO207.out).2.2 (ji11) p208 q208; cases e208; replace p208 := eq_true p208; replace q208 := eq_true q208; have p209 : 0 ≤ ((ji14) : Int) := of_decide_eq_true hE; have q209 : (ji14) < (t205.length : Int) := of_decide_eq_true hE; obtain ⟨ad209, e209, hx209_0⟩ := Kd.at_int (Kd.R_reads' HO207.out).2.2 (ji14) p209 q209; obtain rfl : ad208 = ad209 := (by injection e209); replace p209 := eq_true p209; replace q209 := eq_true q209))
        repeat (go_quiet (first | (go_at_call 40; (with_reducible refine (spec_l1Mod.calls a0 4096 t202 _ A2.out).mono ?_); rintro e w' ⟨rfl, ⟨nd, rfl⟩⟩; (try first | exact ⟨rfl, _, World.drewN_drewN _ _ _⟩ | exact ⟨rfl, _, Eq.trans (World.drewN_drewN _ _ _) (congrArg (World.drewN _) (Nat.add_assoc _ _ _))⟩)) | (go_at_call 41; (with_reducible refine (spec_l1Table.calls  t205 _ A10.out).mono ?_); rintro e w17 ⟨v206, rfl, ho0, hb⟩; have HO207 := Aside0.mk (Kd.R_lower ho0 (below_size (lU))); replace HB := bH (lU) hb; (try clear hb); (try clear ho0); obtain ⟨Ao18, co18, eo18⟩ := Kd.R_slice HO207.out; subst eo18; have p208 : 0 ≤ ((ji11) : Int) := of_decide_eq_true hE; have q208 : (ji11) < (t205.length : Int) := of_decide_eq_true hE; obtain ⟨ad208, e208, hx208_0⟩ := Kd.at_int (Kd.R_reads' HO207.out).2.2 (ji11) p208 q208; cases e208; replace p208 := eq_true p208; replace q208 := eq_true q208; have p209 : 0 ≤ ((ji14) : Int) := of_decide_eq_true hE; have q209 : (ji14) < (t205.length : Int) := of_decide_eq_true hE; obtain ⟨ad209, e209, hx209_0⟩ := Kd.at_int (Kd.R_reads' HO207.out).2.2 (ji14) p209 q209; obtain rfl : ad208 = ad209 := (by injection e209); replace p209 := eq_true p209; replace q209 := eq_true q209)); try go_wp2_with (first | (go_at_call 40; (with_reducible refine (spec_l1Mod.calls a0 4096 t202 _ A2.out).mono ?_); rintro e w' ⟨rfl, ⟨nd, rfl⟩⟩; (try first | exact ⟨rfl, _, World.drewN_drewN _ _ _⟩ | exact ⟨rfl, _, Eq.trans (World.drewN_drewN _ _ _) (congrArg (World.drewN _) (Nat.add_assoc _ _ _))⟩)) | (go_at_call 41; (with_reducible refine (spec_l1Table.calls  t205 _ A10.out).mono ?_); rintro e w17 ⟨v206, rfl, ho0, hb⟩; have HO207 := Aside0.mk (Kd.R_lower ho0 (below_size (lU))); replace HB := bH (lU) hb; (try clear hb); (try clear ho0); obtain ⟨Ao18, co18, eo18⟩ := Kd.R_slice HO207.out; subst eo18; have p208 : 0 ≤ ((ji11) : Int) := of_decide_eq_true hE; have q208 : (ji11) < (t205.length : Int) := of_decide_eq_true hE; obtain ⟨ad208, e208, hx208_0⟩ := Kd.at_int (Kd.R_reads' HO207.out).2.2 (ji11) p208 q208; cases e208; replace p208 := eq_true p208; replace q208 := eq_true q208; have p209 : 0 ≤ ((ji14) : Int) := of_decide_eq_true hE; have q209 : (ji14) < (t205.length : Int) := of_decide_eq_true hE; obtain ⟨ad209, e209, hx209_0⟩ := Kd.at_int (Kd.R_reads' HO207.out).2.2 (ji14) p209 q209; obtain rfl : ad208 = ad209 := (by injection e209); replace p209 := eq_true p209; replace q209 := eq_true q209)))
        go_ret
        exact ⟨by first | rfl | (simp [errW_none, errW_some] <;> rfl) | (simp only [← hji11, ← hji14]; first | rfl | (simp [errW_none, errW_some] <;> rfl)) | (simp [*, errW_none, errW_some] <;> rfl), lU⟩
       ·rw [if_neg c16] at H
        exact absurd H (by simp)
      ·rw [if_neg c15] at H
       exact absurd H (by simp)
     ·rw [if_neg c13] at H
      exact absurd H (by simp)
    ·rw [if_neg c12] at H
     exact absurd H (by simp)
def spec_CosOf.f (k : Nat) (a0 : Int) : Option (Int) := (spec_l1Mod.f a0 4096).bind fun t210 => ((spec_SinOf.f k (wrap64 (t210 + 1024))).bind fun t211 => (some t211))
theorem spec_CosOf.mono : ∀ a0 k, LeO (spec_CosOf.f k a0) (spec_CosOf.f (k + 1) a0) := by
 intro a0 k
 unfold spec_CosOf.f
 repeat' first
   | (with_reducible exact spec_SinOf.mono _ _)
   | (with_reducible exact LeO.refl _)
   | (with_reducible exact LeO.none _)
   | (with_reducible refine LeO.ite ?_ ?_)
   | (with_reducible refine LeO.bind ?_ (fun _ => ?_))
   | exact spec_SinOf.mono _ _
   | exact LeO.none _
   | refine LeO.ite ?_ ?_
   | refine LeO.bind ?_ (fun _ => ?_)
set_option maxHeartbeats 8000000 in
set_option maxRecDepth 100000 in
theorem spec_CosOf.calls (k : Nat) (a0 : Int) (r : Int) (w : World) (h : spec_CosOf.f k a0 = some r) :
  Calls Try.prog 23 #[.int .i64 a0] w fun e w' => e = .returned (.int .i64 r) ∧ Below w.heap.size w w' := by
 have HB := Aside0.mk (Below.refl w.heap.size w)
 have H : ((spec_l1Mod.f a0 4096).bind fun t210 => ((spec_SinOf.f k (wrap64 (t210 + 1024))).bind fun t211 => (some t211))) = some r := h
 clear h
 replace H := Option.bind_eq_some_iff.mp H
 obtain ⟨t210, A20, H⟩ := H
 replace H : ((spec_SinOf.f k (wrap64 (t210 + 1024))).bind fun t211 => (some t211)) = some r := H
 have A2 := Aside0.mk A20
 clear A20
 replace H := Option.bind_eq_some_iff.mp H
 obtain ⟨t211, A30, H⟩ := H
 replace H : (some t211) = some r := H
 have A3 := Aside0.mk A30
 clear A30
 obtain rfl := Option.some.inj H
 go_enter Try.func23, Try.ntmps23
 go_wp2_with (first | ((with_reducible refine gate_callee (f := 40) rfl ?_); refine goesL_ (some 4) rfl rfl Try.func40 (by kernel_rfl) rfl #[.int .i64 a0, .int .i64 4096] rfl aE ?_; (with_reducible refine (spec_l1Mod.calls a0 4096 t210 _ A2.out).mono ?_); rintro e w' ⟨rfl, ⟨nd, rfl⟩⟩; refine ⟨_, rfl, ?_⟩) | ((with_reducible refine gate_callee (f := 24) rfl ?_); refine goesL_ (some 6) rfl rfl Try.func24 (by kernel_rfl) rfl #[.int .i64 (wrap64 (t210 + 1024))] rfl aE ?_; (with_reducible refine (spec_SinOf.calls k (wrap64 (t210 + 1024)) t211 _ A3.out).mono ?_); rintro e w4 ⟨rfl, hb⟩; refine ⟨_, rfl, ?_⟩; replace HB := bH (lU) hb; (try clear hb)))
 go_ret
 exact ⟨eE, lU⟩
end Go.Proofs.Ythgfobcckoedaaa.PFnExactRunCloud
