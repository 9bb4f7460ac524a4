/- Texts of the row of the law FnExactMakeOrder, laid together. -/
import Derived.Test.YtifejplilaefiaaZFnExactMakeOrder3
namespace Go.Proofs.Ytifejplilaefiaa.PFnExactMakeOrder
open Go.RowKit Go.Proofs.YtifejplilaefiaaW.PrintWords Go.Proofs.YtifejplilaefiaaW.PrintLast Go.Proofs.YtifejplilaefiaaW.PrintMore
attribute [local go_sem] max2_int min2_int max_two min_two max_three min_three max_four min_four   -- for this text's walks alone
set_option linter.unusedVariables false
set_option linter.unusedSimpArgs false
def spec_MakeOrder.f (k : Nat) (l0 : List (S63)) : Option (List ByteArray × Bool) := (spec_GoodAssets.f k l0).bind fun t177 => (if t177 = true then ((spec_l21Order.f k l0).bind fun t178 => (some (t178, true))) else (some (([] : List ByteArray), false)))
theorem spec_MakeOrder.mono : ∀ a0 k, LeO (spec_MakeOrder.f k a0) (spec_MakeOrder.f (k + 1) a0) := by
 intro a0 k
 unfold spec_MakeOrder.f
 repeat' first
   | (with_reducible exact spec_GoodAssets.mono _ _)
   | (with_reducible exact spec_l21Order.mono _ _)
   | (with_reducible exact LeO.refl _)
   | (with_reducible exact LeO.none _)
   | (with_reducible refine LeO.ite ?_ ?_)
   | (with_reducible refine LeO.bind ?_ (fun _ => ?_))
   | exact spec_GoodAssets.mono _ _
   | exact spec_l21Order.mono _ _
   | exact LeO.none _
   | refine LeO.ite ?_ ?_
   | refine LeO.bind ?_ (fun _ => ?_)
set_option maxHeartbeats 8000000 in
set_option maxRecDepth 100000 in
theorem spec_MakeOrder.calls (k : Nat) (A0 : Option Addr) (c0 : Nat) (l0 : List (S63)) (r1 : List ByteArray) (r2 : Bool) (w : World) (hr0 : Kd.C k63 w A0 l0.length l0) (hc0 : l0.length ≤ c0) (h : spec_MakeOrder.f k l0 = some (r1, r2)) :
  Calls Try.prog 12 #[.slice A0 l0.length c0] w fun e w' => ∃ v0_ : Value, e = .returned (.tuple #[v0_, .bool r2]) ∧ Kd.R Kd.string 9 w' w.heap.size (fun _ => True) v0_ r1 ∧ Below w.heap.size w w' := by
 have HR0 := Aside0.mk hr0
 have HC0 := Aside0.mk hc0
 clear hr0 hc0
 have HB := Aside0.mk (Below.refl w.heap.size w)
 have H : ((spec_GoodAssets.f k l0).bind fun t177 => (if t177 = true then ((spec_l21Order.f k l0).bind fun t178 => (some (t178, true))) else (some (([] : List ByteArray), false)))) = some (r1, r2) := h
 clear h
 replace H := Option.bind_eq_some_iff.mp H
 obtain ⟨t177, A20, H⟩ := H
 replace H : (if t177 = true then ((spec_l21Order.f k l0).bind fun t178 => (some (t178, true))) else (some (([] : List ByteArray), false))) = some (r1, r2) := H
 have A2 := Aside0.mk A20
 clear A20
 by_cases c3 : t177 = true
 ·subst c3
  have H1 : ((spec_l21Order.f k l0).bind fun t178 => (some (t178, true))) = some (r1, r2) := by rw [if_pos rfl] at H; exact H
  clear H
  have H := H1
  clear H1
  replace H := Option.bind_eq_some_iff.mp H
  obtain ⟨t178, A40, H⟩ := H
  replace H : (some (t178, true)) = some (r1, r2) := H
  have A4 := Aside0.mk A40
  clear A40
  simp only [Option.some.injEq, Prod.mk.injEq] at H
  obtain ⟨rfl, rfl⟩ := H
  go_enter Try.func12, Try.ntmps12
  go_wp2_with (first | ((with_reducible refine gate_callee (f := 8) rfl ?_); refine goesL_ (some 5) rfl rfl Try.func8 (by kernel_rfl) rfl #[.slice A0 l0.length c0] rfl aE ?_; (with_reducible refine (spec_GoodAssets.calls k _ _ l0 true _ ?side1 ?side2 A2.out).mono ?_); (case side1 => repeat (first | exact HR0.out | (with_reducible refine Kd.C_alloc ?_ _) | (with_reducible refine Kd.C_drewN ?_ _) | (with_reducible refine Kd.C_drew ?_))); (case side2 => exact HC0.out); rintro e w5 ⟨rfl, hb⟩; refine ⟨_, rfl, ?_⟩; replace HB := bH (lU) hb; (try clear hb)) | ((with_reducible refine gate_callee (f := 32) rfl ?_); refine goesL_ (some 8) rfl rfl Try.func32 (by kernel_rfl) rfl #[.slice A0 l0.length c0] rfl aE ?_; (with_reducible refine (spec_l21Order.calls k _ _ l0 t178 _ ?side1 ?side2 A4.out).mono ?_); (case side1 => exact cU (Kd.C_below HR0.out HB.out)); (case side2 => exact HC0.out); rintro e w6 ⟨v179, rfl, ho0, hb⟩; refine ⟨_, rfl, ?_⟩; have HO180 := Aside0.mk (Kd.R_lower ho0 (below_size (lU))); replace HB := bH (lU) hb; (try clear hb); (try clear ho0)))
  go_ret2
  exact ⟨_, eE, by (with_reducible repeat (first | apply Kd.R_alloc | apply Kd.R_drewN | apply Kd.R_drew)); exact HO180.out, lU⟩
 ·replace c3 := Bool.eq_false_iff.mpr c3
  subst c3
  have H1 : (some (([] : List ByteArray), false)) = some (r1, r2) := by rw [if_neg (show ¬ (false = true) by decide)] at H; exact H
  clear H
  have H := H1
  clear H1
  simp only [Option.some.injEq, Prod.mk.injEq] at H
  obtain ⟨rfl, rfl⟩ := H
  go_enter Try.func12, Try.ntmps12
  go_wp2_with (first | ((with_reducible refine gate_callee (f := 8) rfl ?_); refine goesL_ (some 5) rfl rfl Try.func8 (by kernel_rfl) rfl #[.slice A0 l0.length c0] rfl aE ?_; (with_reducible refine (spec_GoodAssets.calls k _ _ l0 false _ ?side1 ?side2 A2.out).mono ?_); (case side1 => repeat (first | exact HR0.out | (with_reducible refine Kd.C_alloc ?_ _) | (with_reducible refine Kd.C_drewN ?_ _) | (with_reducible refine Kd.C_drew ?_))); (case side2 => exact HC0.out); rintro e w7 ⟨rfl, hb⟩; refine ⟨_, rfl, ?_⟩; replace HB := bH (lU) hb; (try clear hb)))
  go_ret2
  exact ⟨_, eE, by first | exact Kd.R_nil _ _ _ _ _ | exact Kd.N_nil _ _ _ _ _ | exact Kd.V_nil _ _ _ _ _ | exact Kd.Q_nil _ _ _ _ _ | exact Kd.S_nil _ _ _ _ _, lU⟩
def impl_inRange.f (a0 : Int) (a1 : Int) (a2 : Int) : Option (Bool) := if a1 ≤ a0 then (some (decide (a0 ≤ a2))) else (some false)
set_option maxHeartbeats 8000000 in
set_option maxRecDepth 100000 in
theorem impl_inRange.calls (a0 : Int) (a1 : Int) (a2 : Int) (r : Bool) (w : World) (h : impl_inRange.f a0 a1 a2 = some r) :
  Calls Try.prog 47 #[.int .i64 a0, .int .i64 a1, .int .i64 a2] w fun e w' => e = .returned (.bool r) ∧ Drawn0 w w' := by
 have H : (if a1 ≤ a0 then (some (decide (a0 ≤ a2))) else (some false)) = some r := h
 clear h
 by_cases c4 : a1 ≤ a0
 ·rw [if_pos c4] at H
  have c4b0 : decide (a1 ≤ a0) = true := decide_eq_true c4
  clear c4
  obtain rfl := Option.some.inj H
  go_enter Try.func47, Try.ntmps47
  go_wp2
  go_ret
  exact ⟨by first | rfl | (simp; done) | (simp [*]; done) | exact not_isEmpty _ | exact (not_isEmpty _).symm | exact is_empty _ | exact (is_empty _).symm, by repeat (first | exact Drawn0.refl _ | apply Drawn0.step)⟩
 ·rw [if_neg c4] at H
  have c4b0 : decide (a1 ≤ a0) = false := decide_eq_false c4
  clear c4
  obtain rfl := Option.some.inj H
  go_enter Try.func47, Try.ntmps47
  go_wp2
  go_ret
  exact ⟨by first | rfl | (simp; done) | (simp [*]; done) | exact not_isEmpty _ | exact (not_isEmpty _).symm | exact is_empty _ | exact (is_empty _).symm, by repeat (first | exact Drawn0.refl _ | apply Drawn0.step)⟩
def impl_isLetter.f (a0 : Int) : Option (Bool) := if a0 ≥ 97 then (if a0 ≤ 122 then (some true) else (if a0 ≥ 65 then (some (decide (a0 ≤ 90))) else (some false))) else (if a0 ≥ 65 then (some (decide (a0 ≤ 90))) else (some false))
set_option maxHeartbeats 8000000 in
set_option maxRecDepth 100000 in
theorem impl_isLetter.calls (a0 : Int) (r : Bool) (w : World) (h : impl_isLetter.f a0 = some r) :
  Calls Try.prog 73 #[.int .u8 a0] w fun e w' => e = .returned (.bool r) ∧ Drawn0 w w' := by
 have H : (if a0 ≥ 97 then (if a0 ≤ 122 then (some true) else (if a0 ≥ 65 then (some (decide (a0 ≤ 90))) else (some false))) else (if a0 ≥ 65 then (some (decide (a0 ≤ 90))) else (some false))) = some r := h
 clear h
 by_cases c2 : a0 ≥ 97
 ·rw [if_pos c2] at H
  have c2b0 : decide (97 ≤ a0) = true := decide_eq_true c2
  clear c2
  by_cases c3 : a0 ≤ 122
  ·rw [if_pos c3] at H
   have c3b0 : decide (a0 ≤ 122) = true := decide_eq_true c3
   clear c3
   obtain rfl := Option.some.inj H
   go_enter Try.func73, Try.ntmps73
   go_wp2
   go_ret
   exact ⟨by first | rfl | (simp; done) | (simp [*]; done) | exact not_isEmpty _ | exact (not_isEmpty _).symm | exact is_empty _ | exact (is_empty _).symm, by repeat (first | exact Drawn0.refl _ | apply Drawn0.step)⟩
  ·rw [if_neg c3] at H
   have c3b0 : decide (a0 ≤ 122) = false := decide_eq_false c3
   clear c3
   by_cases c4 : a0 ≥ 65
   ·rw [if_pos c4] at H
    have c4b0 : decide (65 ≤ a0) = true := decide_eq_true c4
    clear c4
    obtain rfl := Option.some.inj H
    go_enter Try.func73, Try.ntmps73
    go_wp2
    go_ret
    exact ⟨by first | rfl | (simp; done) | (simp [*]; done) | exact not_isEmpty _ | exact (not_isEmpty _).symm | exact is_empty _ | exact (is_empty _).symm, by repeat (first | exact Drawn0.refl _ | apply Drawn0.step)⟩
   ·rw [if_neg c4] at H
    have c4b0 : decide (65 ≤ a0) = false := decide_eq_false c4
    clear c4
    obtain rfl := Option.some.inj H
    go_enter Try.func73, Try.ntmps73
    go_wp2
    go_ret
    exact ⟨by first | rfl | (simp; done) | (simp [*]; done) | exact not_isEmpty _ | exact (not_isEmpty _).symm | exact is_empty _ | exact (is_empty _).symm, by repeat (first | exact Drawn0.refl _ | apply Drawn0.step)⟩
 ·rw [if_neg c2] at H
  have c2b0 : decide (97 ≤ a0) = false := decide_eq_false c2
  clear c2
  by_cases c5 : a0 ≥ 65
  ·rw [if_pos c5] at H
   have c5b0 : decide (65 ≤ a0) = true := decide_eq_true c5
   clear c5
   obtain rfl := Option.some.inj H
   go_enter Try.func73, Try.ntmps73
   go_wp2
   go_ret
   exact ⟨by first | rfl | (simp; done) | (simp [*]; done) | exact not_isEmpty _ | exact (not_isEmpty _).symm | exact is_empty _ | exact (is_empty _).symm, by repeat (first | exact Drawn0.refl _ | apply Drawn0.step)⟩
  ·rw [if_neg c5] at H
   have c5b0 : decide (65 ≤ a0) = false := decide_eq_false c5
   clear c5
   obtain rfl := Option.some.inj H
   go_enter Try.func73, Try.ntmps73
   go_wp2
   go_ret
   exact ⟨by first | rfl | (simp; done) | (simp [*]; done) | exact not_isEmpty _ | exact (not_isEmpty _).symm | exact is_empty _ | exact (is_empty _).symm, by repeat (first | exact Drawn0.refl _ | apply Drawn0.step)⟩
def impl_isDigit.f (a0 : Int) : Option (Bool) := if a0 ≥ 48 then (some (decide (a0 ≤ 57))) else (some false)
set_option maxHeartbeats 8000000 in
set_option maxRecDepth 100000 in
theorem impl_isDigit.calls (a0 : Int) (r : Bool) (w : World) (h : impl_isDigit.f a0 = some r) :
  Calls Try.prog 74 #[.int .u8 a0] w fun e w' => e = .returned (.bool r) ∧ Drawn0 w w' := by
 have H : (if a0 ≥ 48 then (some (decide (a0 ≤ 57))) else (some false)) = some r := h
 clear h
 by_cases c2 : a0 ≥ 48
 ·rw [if_pos c2] at H
  have c2b0 : decide (48 ≤ a0) = true := decide_eq_true c2
  clear c2
  obtain rfl := Option.some.inj H
  go_enter Try.func74, Try.ntmps74
  go_wp2
  go_ret
  exact ⟨by first | rfl | (simp; done) | (simp [*]; done) | exact not_isEmpty _ | exact (not_isEmpty _).symm | exact is_empty _ | exact (is_empty _).symm, by repeat (first | exact Drawn0.refl _ | apply Drawn0.step)⟩
 ·rw [if_neg c2] at H
  have c2b0 : decide (48 ≤ a0) = false := decide_eq_false c2
  clear c2
  obtain rfl := Option.some.inj H
  go_enter Try.func74, Try.ntmps74
  go_wp2
  go_ret
  exact ⟨by first | rfl | (simp; done) | (simp [*]; done) | exact not_isEmpty _ | exact (not_isEmpty _).symm | exact is_empty _ | exact (is_empty _).symm, by repeat (first | exact Drawn0.refl _ | apply Drawn0.step)⟩
def impl_GoodName.l0 : Nat → ByteArray → Int → Int → Option (Bool)
 | 0, _, _, _ => none
 | k + 1, x0, x5, x6 => if x6 < x5 then (if 0 ≤ x6 then (if x6 < (x0.size : Int) then ((impl_isLetter.f (bt x0 x6)).bind fun t182 => (if t182 = true then (impl_GoodName.l0 k x0 x5 (wrap64 (x6 + 1))) else (if (bt x0 x6) = 95 then (impl_GoodName.l0 k x0 x5 (wrap64 (x6 + 1))) else (if x6 = 0 then (some false) else ((impl_isDigit.f (bt x0 x6)).bind fun t183 => (if t183 = true then (impl_GoodName.l0 k x0 x5 (wrap64 (x6 + 1))) else (some false))))))) else (none)) else (none)) else ((impl_inRange.f (x0.size : Int) 1 20).bind fun t181 => (some t181))
def impl_GoodName.f (k : Nat) (a0 : ByteArray) : Option (Bool) := impl_GoodName.l0 k a0 (a0.size : Int) 0
theorem impl_GoodName.mono_l : ∀ k, (∀ y0 y1 y2, LeO (impl_GoodName.l0 k y0 y1 y2) (impl_GoodName.l0 (k + 1) y0 y1 y2))
 | 0 => fun _ _ _ r h => by simp [impl_GoodName.l0] at h
 | k + 1 => by
  have ih0 := impl_GoodName.mono_l k
  ·intro y0 y1 y2
   unfold impl_GoodName.l0
   repeat' first
   | (with_reducible exact ih0 _ _ _)
   | (with_reducible exact LeO.refl _)
   | (with_reducible exact LeO.none _)
   | (with_reducible refine LeO.ite ?_ ?_)
   | (with_reducible refine LeO.bind ?_ (fun _ => ?_))
   | exact ih0 _ _ _
   | exact LeO.none _
   | refine LeO.ite ?_ ?_
   | refine LeO.bind ?_ (fun _ => ?_)
theorem impl_GoodName.mono : ∀ a0 k, LeO (impl_GoodName.f k a0) (impl_GoodName.f (k + 1) a0) := by
 intro a0 k
 have ih0 := impl_GoodName.mono_l k
 unfold impl_GoodName.f
 repeat' first
   | (with_reducible exact ih0 _ _ _)
   | (with_reducible exact LeO.refl _)
   | (with_reducible exact LeO.none _)
   | (with_reducible refine LeO.ite ?_ ?_)
   | (with_reducible refine LeO.bind ?_ (fun _ => ?_))
   | exact ih0 _ _ _
   | exact LeO.none _
   | refine LeO.ite ?_ ?_
   | refine LeO.bind ?_ (fun _ => ?_)
set_option maxHeartbeats 8000000 in
set_option maxRecDepth 100000 in
theorem impl_GoodName.calls (k : Nat) (a0 : ByteArray) (r : Bool) (w : World) (h : impl_GoodName.f k a0 = some r) :
  Calls Try.prog 34 #[.string a0] w fun e w' => e = .returned (.bool r) ∧ Drawn0 w w' := by
 have H : (impl_GoodName.l0 k a0 (a0.size : Int) 0) = some r := h
 clear h
 have H' := Aside0.mk H
 clear H
 go_enter Try.func34, Try.ntmps34
 go_wp2
 go_loopg [6] k (fun kq v6 w' => ∃ (x6_1 : Int), v6 = .int .i64 x6_1 ∧ Aside0 (impl_GoodName.l0 kq a0 (a0.size : Int) x6_1 = some r) ∧ Aside0 (kq ≤ k) ∧ Drawn0 w w')
 case atStart => exact ⟨(0), tE, H', ⟨Nat.le_refl _⟩, by repeat (first | exact Drawn0.refl _ | apply Drawn0.step)⟩
 case round =>
  clear H'
  obtain ⟨x6_1, rfl, HA, HK1, ⟨m1, rfl⟩⟩ := hrel
  cases gk with
  | zero => exact absurd HA.out (by simp [impl_GoodName.l0])
  | succ k1 =>
   have H := HA.out
   clear HA
   simp only [impl_GoodName.l0] at H
   by_cases c2 : x6_1 < (a0.size : Int)
   ·rw [if_pos c2] at H
    have c2b0 : decide (x6_1 < (a0.size : Int)) = true := decide_eq_true c2
    clear c2
    by_cases c3 : 0 ≤ x6_1
    ·rw [if_pos c3] at H
     have c3b0 : decide (0 ≤ x6_1) = true := decide_eq_true c3
     clear c3
     by_cases c4 : x6_1 < (a0.size : Int)
     ·rw [if_pos c4] at H
      have c4b0 : decide (x6_1 < (a0.size : Int)) = true := decide_eq_true c4
      clear c4
      replace H := Option.bind_eq_some_iff.mp H
      obtain ⟨t182, A60, H⟩ := H
      replace H : (if t182 = true then (impl_GoodName.l0 k1 a0 (a0.size : Int) (wrap64 (x6_1 + 1))) else (if (bt a0 x6_1) = 95 then (impl_GoodName.l0 k1 a0 (a0.size : Int) (wrap64 (x6_1 + 1))) else (if x6_1 = 0 then (some false) else ((impl_isDigit.f (bt a0 x6_1)).bind fun t183 => (if t183 = true then (impl_GoodName.l0 k1 a0 (a0.size : Int) (wrap64 (x6_1 + 1))) else (some false)))))) = some r := H
      have A6 := Aside0.mk A60
      clear A60
      by_cases c7 : t182 = true
      ·subst c7
       have H1 : (impl_GoodName.l0 k1 a0 (a0.size : Int) (wrap64 (x6_1 + 1))) = some r := by rw [if_pos rfl] at H; exact H
       clear H
       have H := H1
       clear H1
       have H' := Aside0.mk H
       clear H
       have p5 : 0 ≤ (x6_1 : Int) := of_decide_eq_true hE
       have q5 : x6_1 < (a0.size : Int) := of_decide_eq_true hE
       have hx5 := bt_at a0 x6_1
       replace p5 := eq_true p5
       replace q5 := eq_true q5
       go_wp2_with (first | ((with_reducible refine gate_callee (f := 73) rfl ?_); refine goesL_ (some 12) rfl rfl Try.func73 (by kernel_rfl) rfl #[.int .u8 (bt a0 x6_1)] rfl aE ?_; (with_reducible refine (impl_isLetter.calls (bt a0 x6_1) true _ A6.out).mono ?_); rintro e w' ⟨rfl, ⟨nd, rfl⟩⟩; refine ⟨_, rfl, ?_⟩))
       go_roundg k1
       case measure => have := HK1.out; omega
       case rel => exact ⟨(wrap64 (x6_1 + 1)), tE, H', ⟨by have := HK1.out; omega⟩, by repeat (first | exact Drawn0.refl _ | apply Drawn0.step)⟩
      ·replace c7 := Bool.eq_false_iff.mpr c7
       subst c7
       have H1 : (if (bt a0 x6_1) = 95 then (impl_GoodName.l0 k1 a0 (a0.size : Int) (wrap64 (x6_1 + 1))) else (if x6_1 = 0 then (some false) else ((impl_isDigit.f (bt a0 x6_1)).bind fun t183 => (if t183 = true then (impl_GoodName.l0 k1 a0 (a0.size : Int) (wrap64 (x6_1 + 1))) else (some false))))) = some r := by rw [if_neg (show ¬ (false = true) by decide)] at H; exact H
       clear H
       have H := H1
       clear H1
       by_cases c9 : (bt a0 x6_1) = 95
       ·rw [if_pos c9] at H
        have c9b0 : ((bt a0 x6_1) == 95) = true := beq_iff_eq.mpr c9
        have c9b1 : ((bt a0 x6_1) != 95) = false := bne_eq_false_iff_eq.mpr c9
        clear c9
        have H' := Aside0.mk H
        clear H
        have p5 : 0 ≤ (x6_1 : Int) := of_decide_eq_true hE
        have q5 : x6_1 < (a0.size : Int) := of_decide_eq_true hE
        have hx5 := bt_at a0 x6_1
        replace p5 := eq_true p5
        replace q5 := eq_true q5
        go_wp2_with (first | ((with_reducible refine gate_callee (f := 73) rfl ?_); refine goesL_ (some 12) rfl rfl Try.func73 (by kernel_rfl) rfl #[.int .u8 (bt a0 x6_1)] rfl aE ?_; (with_reducible refine (impl_isLetter.calls (bt a0 x6_1) false _ A6.out).mono ?_); rintro e w' ⟨rfl, ⟨nd, rfl⟩⟩; refine ⟨_, rfl, ?_⟩; have p8 : 0 ≤ (x6_1 : Int) := of_decide_eq_true hE; have q8 : x6_1 < (a0.size : Int) := of_decide_eq_true hE; have hx8 := bt_at a0 x6_1; replace p8 := eq_true p8; replace q8 := eq_true q8))
        go_roundg k1
        case measure => have := HK1.out; omega
        case rel => exact ⟨(wrap64 (x6_1 + 1)), tE, H', ⟨by have := HK1.out; omega⟩, by repeat (first | exact Drawn0.refl _ | apply Drawn0.step)⟩
       ·rw [if_neg c9] at H
        have c9b0 : ((bt a0 x6_1) == 95) = false := beq_eq_false_iff_ne.mpr c9
        have c9b1 : ((bt a0 x6_1) != 95) = true := bne_iff_ne.mpr c9
        by_cases c10 : x6_1 = 0
        ·rw [if_pos c10] at H
         have c10b0 : (x6_1 == 0) = true := beq_iff_eq.mpr c10
         have c10b1 : (x6_1 != 0) = false := bne_eq_false_iff_eq.mpr c10
         clear c10
         obtain rfl := Option.some.inj H
         have p5 : 0 ≤ (x6_1 : Int) := of_decide_eq_true hE
         have q5 : x6_1 < (a0.size : Int) := of_decide_eq_true hE
         have hx5 := bt_at a0 x6_1
         replace p5 := eq_true p5
         replace q5 := eq_true q5
         go_wp2_with (first | ((with_reducible refine gate_callee (f := 73) rfl ?_); refine goesL_ (some 12) rfl rfl Try.func73 (by kernel_rfl) rfl #[.int .u8 (bt a0 x6_1)] rfl aE ?_; (with_reducible refine (impl_isLetter.calls (bt a0 x6_1) false _ A6.out).mono ?_); rintro e w' ⟨rfl, ⟨nd, rfl⟩⟩; refine ⟨_, rfl, ?_⟩; have p8 : 0 ≤ (x6_1 : Int) := of_decide_eq_true hE; have q8 : x6_1 < (a0.size : Int) := of_decide_eq_true hE; have hx8 := bt_at a0 x6_1; replace p8 := eq_true p8; replace q8 := eq_true q8))
         go_ret
         exact ⟨by first | rfl | (simp; done) | (simp [*]; done) | exact not_isEmpty _ | exact (not_isEmpty _).symm | exact is_empty _ | exact (is_empty _).symm, by repeat (first | exact Drawn0.refl _ | apply Drawn0.step)⟩
        ·rw [if_neg c10] at H
         have c10b0 : (x6_1 == 0) = false := beq_eq_false_iff_ne.mpr c10
         have c10b1 : (x6_1 != 0) = true := bne_iff_ne.mpr c10
         replace H := Option.bind_eq_some_iff.mp H
         obtain ⟨t183, A120, H⟩ := H
         replace H : (if t183 = true then (impl_GoodName.l0 k1 a0 (a0.size : Int) (wrap64 (x6_1 + 1))) else (some false)) = some r := H
         have A12 := Aside0.mk A120
         clear A120
         by_cases c13 : t183 = true
         ·subst c13
          have H1 : (impl_GoodName.l0 k1 a0 (a0.size : Int) (wrap64 (x6_1 + 1))) = some r := by rw [if_pos rfl] at H; exact H
          clear H
          have H := H1
          clear H1
          have H' := Aside0.mk H
          clear H
          have p5 : 0 ≤ (x6_1 : Int) := of_decide_eq_true hE
          have q5 : x6_1 < (a0.size : Int) := of_decide_eq_true hE
          have hx5 := bt_at a0 x6_1
          replace p5 := eq_true p5
          replace q5 := eq_true q5
          go_wp2_with (first | ((with_reducible refine gate_callee (f := 73) rfl ?_); refine goesL_ (some 12) rfl rfl Try.func73 (by kernel_rfl) rfl #[.int .u8 (bt a0 x6_1)] rfl aE ?_; (with_reducible refine (impl_isLetter.calls (bt a0 x6_1) false _ A6.out).mono ?_); rintro e w' ⟨rfl, ⟨nd, rfl⟩⟩; refine ⟨_, rfl, ?_⟩; have p8 : 0 ≤ (x6_1 : Int) := of_decide_eq_true hE; have q8 : x6_1 < (a0.size : Int) := of_decide_eq_true hE; have hx8 := bt_at a0 x6_1; replace p8 := eq_true p8; replace q8 := eq_true q8; have p11 : 0 ≤ (x6_1 : Int) := of_decide_eq_true hE; have q11 : x6_1 < (a0.size : Int) := of_decide_eq_true hE; have hx11 := bt_at a0 x6_1; replace p11 := eq_true p11; replace q11 := eq_true q11) | (go_at_call 74; (with_reducible refine (impl_isDigit.calls (bt a0 x6_1) true _ A12.out).mono ?_); rintro e w' ⟨rfl, ⟨nd, rfl⟩⟩))
          go_roundg k1
          case measure => have := HK1.out; omega
          case rel => exact ⟨(wrap64 (x6_1 + 1)), tE, H', ⟨by have := HK1.out; omega⟩, by repeat (first | exact Drawn0.refl _ | apply Drawn0.step)⟩
         ·replace c13 := Bool.eq_false_iff.mpr c13
          subst c13
          have H1 : (some false) = some r := by rw [if_neg (show ¬ (false = true) by decide)] at H; exact H
          clear H
          have H := H1
          clear H1
          obtain rfl := Option.some.inj H
          have p5 : 0 ≤ (x6_1 : Int) := of_decide_eq_true hE
          have q5 : x6_1 < (a0.size : Int) := of_decide_eq_true hE
          have hx5 := bt_at a0 x6_1
          replace p5 := eq_true p5
          replace q5 := eq_true q5
          go_wp2_with (first | ((with_reducible refine gate_callee (f := 73) rfl ?_); refine goesL_ (some 12) rfl rfl Try.func73 (by kernel_rfl) rfl #[.int .u8 (bt a0 x6_1)] rfl aE ?_; (with_reducible refine (impl_isLetter.calls (bt a0 x6_1) false _ A6.out).mono ?_); rintro e w' ⟨rfl, ⟨nd, rfl⟩⟩; refine ⟨_, rfl, ?_⟩; have p8 : 0 ≤ (x6_1 : Int) := of_decide_eq_true hE; have q8 : x6_1 < (a0.size : Int) := of_decide_eq_true hE; have hx8 := bt_at a0 x6_1; replace p8 := eq_true p8; replace q8 := eq_true q8; have p11 : 0 ≤ (x6_1 : Int) := of_decide_eq_true hE; have q11 : x6_1 < (a0.size : Int) := of_decide_eq_true hE; have hx11 := bt_at a0 x6_1; replace p11 := eq_true p11; replace q11 := eq_true q11) | (go_at_call 74; (with_reducible refine (impl_isDigit.calls (bt a0 x6_1) false _ A12.out).mono ?_); rintro e w' ⟨rfl, ⟨nd, rfl⟩⟩))
          go_ret
          exact ⟨by first | rfl | (simp; done) | (simp [*]; done) | exact not_isEmpty _ | exact (not_isEmpty _).symm | exact is_empty _ | exact (is_empty _).symm, by repeat (first | exact Drawn0.refl _ | apply Drawn0.step)⟩
     ·rw [if_neg c4] at H
      exact absurd H (by simp)
    ·rw [if_neg c3] at H
     exact absurd H (by simp)
   ·rw [if_neg c2] at H
    have c2b0 : decide (x6_1 < (a0.size : Int)) = false := decide_eq_false c2
    clear c2
    replace H := Option.bind_eq_some_iff.mp H
    obtain ⟨t181, A140, H⟩ := H
    replace H : (some t181) = some r := H
    have A14 := Aside0.mk A140
    clear A140
    obtain rfl := Option.some.inj H
    go_wp2_with (first | ((with_reducible refine gate_callee (f := 47) rfl ?_); refine goesL_ (some 34) rfl rfl Try.func47 (by kernel_rfl) rfl #[.int .i64 (a0.size : Int), .int .i64 1, .int .i64 20] rfl aE ?_; (with_reducible refine (impl_inRange.calls (a0.size : Int) 1 20 t181 _ A14.out).mono ?_); rintro e w' ⟨rfl, ⟨nd, rfl⟩⟩; refine ⟨_, rfl, ?_⟩))
    go_ret
    exact ⟨by first | rfl | (simp; done) | (simp [*]; done) | exact not_isEmpty _ | exact (not_isEmpty _).symm | exact is_empty _ | exact (is_empty _).symm, by repeat (first | exact Drawn0.refl _ | apply Drawn0.step)⟩
def impl_areNames.l0 : Nat → List ByteArray → List ByteArray → Int → Int → Option (Bool)
 | 0, _, _, _, _ => none
 | k + 1, x0, x5, x6, x7 => if x7 < x6 then (if 0 ≤ x7 then (if x7 < (x5.length : Int) then ((impl_GoodName.f k (rdOf ByteArray.empty x5 x7)).bind fun t185 => (if t185 = true then (if x7 > 0 then (if 0 ≤ (wrap64 (x7 - 1)) then (if (wrap64 (x7 - 1)) < (x0.length : Int) then (if ((Op.bytesLess ((rdOf ByteArray.empty x0 (wrap64 (x7 - 1))).toList) ((rdOf ByteArray.empty x5 x7).toList)) = true) then (impl_areNames.l0 k x0 x5 x6 (wrap64 (x7 + 1))) else (some false)) else (none)) else (none)) else (impl_areNames.l0 k x0 x5 x6 (wrap64 (x7 + 1)))) else (some false))) else (none)) else (none)) else (some true)
def impl_areNames.f (k : Nat) (l0 : List ByteArray) : Option (Bool) := impl_areNames.l0 k l0 l0 (l0.length : Int) 0
theorem impl_areNames.mono_l : ∀ k, (∀ y0 y1 y2 y3, LeO (impl_areNames.l0 k y0 y1 y2 y3) (impl_areNames.l0 (k + 1) y0 y1 y2 y3))
 | 0 => fun _ _ _ _ r h => by simp [impl_areNames.l0] at h
 | k + 1 => by
  have ih0 := impl_areNames.mono_l k
  ·intro y0 y1 y2 y3
   unfold impl_areNames.l0
   repeat' first
   | (with_reducible exact ih0 _ _ _ _)
   | (with_reducible exact impl_GoodName.mono _ _)
   | (with_reducible exact LeO.refl _)
   | (with_reducible exact LeO.none _)
   | (with_reducible refine LeO.ite ?_ ?_)
   | (with_reducible refine LeO.bind ?_ (fun _ => ?_))
   | exact ih0 _ _ _ _
   | exact impl_GoodName.mono _ _
   | exact LeO.none _
   | refine LeO.ite ?_ ?_
   | refine LeO.bind ?_ (fun _ => ?_)
theorem impl_areNames.mono : ∀ a0 k, LeO (impl_areNames.f k a0) (impl_areNames.f (k + 1) a0) := by
 intro a0 k
 have ih0 := impl_areNames.mono_l k
 unfold impl_areNames.f
 repeat' first
   | (with_reducible exact ih0 _ _ _ _)
   | (with_reducible exact impl_GoodName.mono _ _)
   | (with_reducible exact LeO.refl _)
   | (with_reducible exact LeO.none _)
   | (with_reducible refine LeO.ite ?_ ?_)
   | (with_reducible refine LeO.bind ?_ (fun _ => ?_))
   | exact ih0 _ _ _ _
   | exact impl_GoodName.mono _ _
   | exact LeO.none _
   | refine LeO.ite ?_ ?_
   | refine LeO.bind ?_ (fun _ => ?_)
set_option maxHeartbeats 8000000 in
set_option maxRecDepth 100000 in
theorem impl_areNames.calls (k : Nat) (A0 : Option Addr) (c0 : Nat) (l0 : List ByteArray) (r : Bool) (w : World) (hr0 : Kd.C Kd.string w A0 l0.length l0) (hc0 : l0.length ≤ c0) (h : impl_areNames.f k l0 = some r) :
  Calls Try.prog 35 #[.slice A0 l0.length c0] w fun e w' => e = .returned (.bool r) ∧ Drawn0 w w' := by
 have HR0 := Aside0.mk hr0
 have HC0 := Aside0.mk hc0
 clear hr0 hc0
 have H : (impl_areNames.l0 k l0 l0 (l0.length : Int) 0) = some r := h
 clear h
 have H' := Aside0.mk H
 clear H
 go_enter Try.func35, Try.ntmps35
 go_wp2
 go_loopg [7] k (fun kq v7 w' => ∃ (x7_1 : Int), v7 = .int .i64 x7_1 ∧ Aside0 (impl_areNames.l0 kq l0 l0 (l0.length : Int) x7_1 = some r) ∧ Aside0 (kq ≤ k) ∧ Drawn0 w w')
 case atStart => exact ⟨(0), tE, H', ⟨Nat.le_refl _⟩, by repeat (first | exact Drawn0.refl _ | apply Drawn0.step)⟩
 case round =>
  clear H'
  obtain ⟨x7_1, rfl, HA, HK1, ⟨m1, rfl⟩⟩ := hrel
  cases gk with
  | zero => exact absurd HA.out (by simp [impl_areNames.l0])
  | succ k1 =>
   have H := HA.out
   clear HA
   simp only [impl_areNames.l0] at H
   by_cases c2 : x7_1 < (l0.length : Int)
   ·rw [if_pos c2] at H
    have c2b0 : decide (x7_1 < (l0.length : Int)) = true := decide_eq_true c2
    clear c2
    by_cases c3 : 0 ≤ x7_1
    ·rw [if_pos c3] at H
     have c3b0 : decide (0 ≤ x7_1) = true := decide_eq_true c3
     clear c3
     by_cases c4 : x7_1 < (l0.length : Int)
     ·rw [if_pos c4] at H
      have c4b0 : decide (x7_1 < (l0.length : Int)) = true := decide_eq_true c4
      clear c4
      replace H := Option.bind_eq_some_iff.mp H
      obtain ⟨t185, A50, H⟩ := H
      replace H : (if t185 = true then (if x7_1 > 0 then (if 0 ≤ (wrap64 (x7_1 - 1)) then (if (wrap64 (x7_1 - 1)) < (l0.length : Int) then (if ((Op.bytesLess ((rdOf ByteArray.empty l0 (wrap64 (x7_1 - 1))).toList) ((rdOf ByteArray.empty l0 x7_1).toList)) = true) then (impl_areNames.l0 k1 l0 l0 (l0.length : Int) (wrap64 (x7_1 + 1))) else (some false)) else (none)) else (none)) else (impl_areNames.l0 k1 l0 l0 (l0.length : Int) (wrap64 (x7_1 + 1)))) else (some false)) = some r := H
      have A5 := Aside0.mk A50
      clear A50
      by_cases c6 : t185 = true
      ·subst c6
       have H1 : (if x7_1 > 0 then (if 0 ≤ (wrap64 (x7_1 - 1)) then (if (wrap64 (x7_1 - 1)) < (l0.length : Int) then (if ((Op.bytesLess ((rdOf ByteArray.empty l0 (wrap64 (x7_1 - 1))).toList) ((rdOf ByteArray.empty l0 x7_1).toList)) = true) then (impl_areNames.l0 k1 l0 l0 (l0.length : Int) (wrap64 (x7_1 + 1))) else (some false)) else (none)) else (none)) else (impl_areNames.l0 k1 l0 l0 (l0.length : Int) (wrap64 (x7_1 + 1)))) = some r := by rw [if_pos rfl] at H; exact H
       clear H
       have H := H1
       clear H1
       by_cases c7 : x7_1 > 0
       ·rw [if_pos c7] at H
        have c7b0 : decide (0 < x7_1) = true := decide_eq_true c7
        clear c7
        obtain ⟨ji8, hji8⟩ : ∃ j_ : Int, (wrap64 (x7_1 - 1)) = j_ := ⟨_, rfl⟩
        replace H : (if 0 ≤ (ji8) then (if (ji8) < (l0.length : Int) then (if ((Op.bytesLess ((rdOf ByteArray.empty l0 (ji8)).toList) ((rdOf ByteArray.empty l0 x7_1).toList)) = true) then (impl_areNames.l0 k1 l0 l0 (l0.length : Int) (wrap64 (x7_1 + 1))) else (some false)) else (none)) else (none)) = some r := by first | (rw [hji8] at H; exact H) | (simp only [hji8] at H ⊢; exact H)
        (try rw [hji8] at A5)
        have hji8w : (IntKind.i64.wrap (x7_1 - 1)) = ji8 := (i64_w _).trans hji8
        by_cases c9 : 0 ≤ (ji8)
        ·rw [if_pos c9] at H
         have c9b0 : decide (0 ≤ (ji8)) = true := decide_eq_true c9
         clear c9
         by_cases c10 : (ji8) < (l0.length : Int)
         ·rw [if_pos c10] at H
          have c10b0 : decide ((ji8) < (l0.length : Int)) = true := decide_eq_true c10
          clear c10
          by_cases c11 : ((Op.bytesLess ((rdOf ByteArray.empty l0 (ji8)).toList) ((rdOf ByteArray.empty l0 x7_1).toList)) = true)
          ·rw [if_pos c11] at H
           have c11b0 : (Op.bytesLess ((rdOf ByteArray.empty l0 (ji8)).toList) ((rdOf ByteArray.empty l0 x7_1).toList)) = true := c11
           clear c11
           have H' := Aside0.mk H
           clear H
           have p184 : 0 ≤ (x7_1 : Int) := of_decide_eq_true hE
           have q184 : x7_1 < (l0.length : Int) := of_decide_eq_true hE
           obtain ⟨ad184, e184, hx184_0⟩ := Kd.at_string HR0.out x7_1 p184 q184
           cases e184
           replace p184 := eq_true p184
           replace q184 := eq_true q184
           go_wp2_with (first | ((with_reducible refine gate_callee (f := 34) rfl ?_); refine goesL_ (some 13) rfl rfl Try.func34 (by kernel_rfl) rfl #[.string (rdOf ByteArray.empty l0 x7_1)] rfl aE ?_; (with_reducible refine (impl_GoodName.calls k1 (rdOf ByteArray.empty l0 x7_1) true _ A5.out).mono ?_); rintro e w' ⟨rfl, ⟨nd, rfl⟩⟩; refine ⟨_, rfl, ?_⟩; have p186 : 0 ≤ ((ji8) : Int) := of_decide_eq_true hE; have q186 : (ji8) < (l0.length : Int) := of_decide_eq_true hE; obtain ⟨ad186, e186, hx186_0⟩ := Kd.at_string HR0.out (ji8) p186 q186; obtain rfl : ad184 = ad186 := (by injection e186); replace p186 := eq_true p186; replace q186 := eq_true q186))
           go_roundg k1
           case measure => have := HK1.out; omega
           case rel => exact ⟨(wrap64 (x7_1 + 1)), tE, H', ⟨by have := HK1.out; omega⟩, by repeat (first | exact Drawn0.refl _ | apply Drawn0.step)⟩
          ·rw [if_neg c11] at H
           have c11b0 : (Op.bytesLess ((rdOf ByteArray.empty l0 (ji8)).toList) ((rdOf ByteArray.empty l0 x7_1).toList)) = false := by simpa using c11
           clear c11
           obtain rfl := Option.some.inj H
           have p184 : 0 ≤ (x7_1 : Int) := of_decide_eq_true hE
           have q184 : x7_1 < (l0.length : Int) := of_decide_eq_true hE
           obtain ⟨ad184, e184, hx184_0⟩ := Kd.at_string HR0.out x7_1 p184 q184
           cases e184
           replace p184 := eq_true p184
           replace q184 := eq_true q184
           go_wp2_with (first | ((with_reducible refine gate_callee (f := 34) rfl ?_); refine goesL_ (some 13) rfl rfl Try.func34 (by kernel_rfl) rfl #[.string (rdOf ByteArray.empty l0 x7_1)] rfl aE ?_; (with_reducible refine (impl_GoodName.calls k1 (rdOf ByteArray.empty l0 x7_1) true _ A5.out).mono ?_); rintro e w' ⟨rfl, ⟨nd, rfl⟩⟩; refine ⟨_, rfl, ?_⟩; have p186 : 0 ≤ ((ji8) : Int) := of_decide_eq_true hE; have q186 : (ji8) < (l0.length : Int) := of_decide_eq_true hE; obtain ⟨ad186, e186, hx186_0⟩ := Kd.at_string HR0.out (ji8) p186 q186; obtain rfl : ad184 = ad186 := (by injection e186); replace p186 := eq_true p186; replace q186 := eq_true q186))
           go_ret
           exact ⟨by first | rfl | (simp; done) | (simp only [← hji8] <;> (first | rfl | simp)) | (simp [*]; done) | exact not_isEmpty _ | exact (not_isEmpty _).symm | exact is_empty _ | exact (is_empty _).symm, by repeat (first | exact Drawn0.refl _ | apply Drawn0.step)⟩
         ·rw [if_neg c10] at H
          exact absurd H (by simp)
        ·rw [if_neg c9] at H
         exact absurd H (by simp)
       ·rw [if_neg c7] at H
        have c7b0 : decide (0 < x7_1) = false := decide_eq_false c7
        clear c7
        have H' := Aside0.mk H
        clear H
        have p184 : 0 ≤ (x7_1 : Int) := of_decide_eq_true hE
        have q184 : x7_1 < (l0.length : Int) := of_decide_eq_true hE
        obtain ⟨ad184, e184, hx184_0⟩ := Kd.at_string HR0.out x7_1 p184 q184
        cases e184
        replace p184 := eq_true p184
        replace q184 := eq_true q184
        go_wp2_with (first | ((with_reducible refine gate_callee (f := 34) rfl ?_); refine goesL_ (some 13) rfl rfl Try.func34 (by kernel_rfl) rfl #[.string (rdOf ByteArray.empty l0 x7_1)] rfl aE ?_; (with_reducible refine (impl_GoodName.calls k1 (rdOf ByteArray.empty l0 x7_1) true _ A5.out).mono ?_); rintro e w' ⟨rfl, ⟨nd, rfl⟩⟩; refine ⟨_, rfl, ?_⟩))
        go_roundg k1
        case measure => have := HK1.out; omega
        case rel => exact ⟨(wrap64 (x7_1 + 1)), tE, H', ⟨by have := HK1.out; omega⟩, by repeat (first | exact Drawn0.refl _ | apply Drawn0.step)⟩
      ·replace c6 := Bool.eq_false_iff.mpr c6
       subst c6
       have H1 : (some false) = some r := by rw [if_neg (show ¬ (false = true) by decide)] at H; exact H
       clear H
       have H := H1
       clear H1
       obtain rfl := Option.some.inj H
       have p184 : 0 ≤ (x7_1 : Int) := of_decide_eq_true hE
       have q184 : x7_1 < (l0.length : Int) := of_decide_eq_true hE
       obtain ⟨ad184, e184, hx184_0⟩ := Kd.at_string HR0.out x7_1 p184 q184
       cases e184
       replace p184 := eq_true p184
       replace q184 := eq_true q184
       go_wp2_with (first | ((with_reducible refine gate_callee (f := 34) rfl ?_); refine goesL_ (some 13) rfl rfl Try.func34 (by kernel_rfl) rfl #[.string (rdOf ByteArray.empty l0 x7_1)] rfl aE ?_; (with_reducible refine (impl_GoodName.calls k1 (rdOf ByteArray.empty l0 x7_1) false _ A5.out).mono ?_); rintro e w' ⟨rfl, ⟨nd, rfl⟩⟩; refine ⟨_, rfl, ?_⟩))
       go_ret
       exact ⟨by first | rfl | (simp; done) | (simp [*]; done) | exact not_isEmpty _ | exact (not_isEmpty _).symm | exact is_empty _ | exact (is_empty _).symm, by repeat (first | exact Drawn0.refl _ | apply Drawn0.step)⟩
     ·rw [if_neg c4] at H
      exact absurd H (by simp)
    ·rw [if_neg c3] at H
     exact absurd H (by simp)
   ·rw [if_neg c2] at H
    have c2b0 : decide (x7_1 < (l0.length : Int)) = false := decide_eq_false c2
    clear c2
    obtain rfl := Option.some.inj H
    go_wp2
    go_ret
    exact ⟨by first | rfl | (simp; done) | (simp [*]; done) | exact not_isEmpty _ | exact (not_isEmpty _).symm | exact is_empty _ | exact (is_empty _).symm, by repeat (first | exact Drawn0.refl _ | apply Drawn0.step)⟩
def impl_assetAt_1.f (a0_0 : ByteArray) (l0_1 : List ByteArray) (l0_2 : List Int) (a1_0_0 : ByteArray) : Option (Bool) := some (a0_0.toList == a1_0_0.toList)
set_option maxHeartbeats 8000000 in
set_option maxRecDepth 100000 in
theorem impl_assetAt_1.calls (a0_0 : ByteArray) (A0_1 : Option Addr) (c0_1 : Nat) (l0_1 : List ByteArray) (A0_2 : Option Addr) (c0_2 : Nat) (l0_2 : List Int) (gb28 : Nat) (a1_0_0 : ByteArray) (r : Bool) (w : World) (hr0_1 : Kd.C Kd.string w A0_1 l0_1.length l0_1) (hc0_1 : l0_1.length ≤ c0_1) (hr0_2 : Kd.C (Kd.int .u8) w A0_2 l0_2.length l0_2) (hc0_2 : l0_2.length ≤ c0_2) (hk28 : w.heap[gb28]? = some (.cells #[.string a1_0_0] 9 (0, 0))) (h : impl_assetAt_1.f a0_0 l0_1 l0_2 a1_0_0 = some r) :
  Calls Try.prog 77 #[.agg #[.string a0_0, .slice A0_1 l0_1.length c0_1, .slice A0_2 l0_2.length c0_2], .pointer (some ⟨gb28, 0, none⟩)] w fun e w' => e = .returned (.bool r) ∧ Below w.heap.size w w' := by
 have hu63 := Try.underlying63
 have HR0_1 := Aside0.mk hr0_1
 have HC0_1 := Aside0.mk hc0_1
 clear hr0_1 hc0_1
 have HR0_2 := Aside0.mk hr0_2
 have HC0_2 := Aside0.mk hc0_2
 clear hr0_2 hc0_2
 have BK28 := Aside0.mk hk28
 clear hk28
 have HB := Aside0.mk (Below.refl w.heap.size w)
 have H : (some (a0_0.toList == a1_0_0.toList)) = some r := h
 clear h
 obtain rfl := Option.some.inj H
 go_enter Try.func77, Try.ntmps77
 go_wp2_with (first | ((with_reducible refine gate_dst (N := 2) rfl ?_); refine box_event rfl (N := 2) rfl (cs := #[.string a0_0, .slice A0_1 l0_1.length c0_1, .slice A0_2 l0_2.length c0_2]) (t := 63) sE ?_; intro gb187 hg w3 hbox hb; have BK187 := Aside0.mk hbox; have GW187 := gS w hg (lU); have GE187 := gS w hg (lU); replace HB := bH (lU) hb; have NB28_187 := nL hg (bV BK28); have NB187_28 := nG hg (bV BK28); replace BK28 := bB (bV BK28) hb; clear hb hbox hg; have hnb4 := NB187_28.out; have hnc4 := NB28_187.out; have hcz5_0 := cz BK187 0 (.string a0_0); have hcz5_1 := cz BK187 1 (.slice A0_1 l0_1.length c0_1); have hcz5_2 := cz BK187 2 (.slice A0_2 l0_2.length c0_2); have hfz5_0 := fz BK187 0; have hfz5_1 := fz BK187 1; have hfz5_2 := fz BK187 2; have hcz6_0 := cz BK28 0 (.string a1_0_0); have hfz6_0 := fz BK28 0))
 go_ret
 exact ⟨eE, lV1 GE187⟩
def slices_IndexFunc_w77.l0 : Nat → List (S63) → Int → Int → ByteArray → Option (Int)
 | 0, _, _, _, _ => none
 | k + 1, x0, x7, x8, x29000 => if x8 < x7 then (if 0 ≤ x8 then (if x8 < (x0.length : Int) then ((impl_assetAt_1.f ((rd_T63 x0 x8).f0) ((rd_T63 x0 x8).f1) ((rd_T63 x0 x8).f2) x29000).bind fun t189 => (if t189 = true then (some x8) else (slices_IndexFunc_w77.l0 k x0 x7 (wrap64 (x8 + 1)) x29000))) else (none)) else (none)) else (some (-1))
def slices_IndexFunc_w77.f (k : Nat) (l0 : List (S63)) (a1_0_0 : ByteArray) : Option (Int) := slices_IndexFunc_w77.l0 k l0 (l0.length : Int) 0 a1_0_0
theorem slices_IndexFunc_w77.mono_l : ∀ k, (∀ y0 y1 y2 y3, LeO (slices_IndexFunc_w77.l0 k y0 y1 y2 y3) (slices_IndexFunc_w77.l0 (k + 1) y0 y1 y2 y3))
 | 0 => fun _ _ _ _ r h => by simp [slices_IndexFunc_w77.l0] at h
 | k + 1 => by
  have ih0 := slices_IndexFunc_w77.mono_l k
  ·intro y0 y1 y2 y3
   unfold slices_IndexFunc_w77.l0
   repeat' first
   | (with_reducible exact ih0 _ _ _ _)
   | (with_reducible exact LeO.refl _)
   | (with_reducible exact LeO.none _)
   | (with_reducible refine LeO.ite ?_ ?_)
   | (with_reducible refine LeO.bind ?_ (fun _ => ?_))
   | exact ih0 _ _ _ _
   | exact LeO.none _
   | refine LeO.ite ?_ ?_
   | refine LeO.bind ?_ (fun _ => ?_)
theorem slices_IndexFunc_w77.mono : ∀ a0 a1 k, LeO (slices_IndexFunc_w77.f k a0 a1) (slices_IndexFunc_w77.f (k + 1) a0 a1) := by
 intro a0 a1 k
 have ih0 := slices_IndexFunc_w77.mono_l k
 unfold slices_IndexFunc_w77.f
 repeat' first
   | (with_reducible exact ih0 _ _ _ _)
   | (with_reducible exact LeO.refl _)
   | (with_reducible exact LeO.none _)
   | (with_reducible refine LeO.ite ?_ ?_)
   | (with_reducible refine LeO.bind ?_ (fun _ => ?_))
   | exact ih0 _ _ _ _
   | exact LeO.none _
   | refine LeO.ite ?_ ?_
   | refine LeO.bind ?_ (fun _ => ?_)
set_option maxHeartbeats 8000000 in
set_option maxRecDepth 100000 in
theorem slices_IndexFunc_w77.calls (k : Nat) (A0 : Option Addr) (c0 : Nat) (l0 : List (S63)) (gb28 : Nat) (a1_0_0 : ByteArray) (r : Int) (w : World) (hr0 : Kd.C k63 w A0 l0.length l0) (hc0 : l0.length ≤ c0) (hk28 : w.heap[gb28]? = some (.cells #[.string a1_0_0] 9 (0, 0))) (h : slices_IndexFunc_w77.f k l0 a1_0_0 = some r) :
  Calls Try.prog 76 #[.slice A0 l0.length c0, .func (.func 77) #[] #[.pointer (some ⟨gb28, 0, none⟩)]] w fun e w' => e = .returned (.int .i64 r) ∧ Below w.heap.size w w' := by
 have hu63 := Try.underlying63
 have HR0 := Aside0.mk hr0
 have HC0 := Aside0.mk hc0
 clear hr0 hc0
 have BK28 := Aside0.mk hk28
 clear hk28
 have HB := Aside0.mk (Below.refl w.heap.size w)
 have H : (slices_IndexFunc_w77.l0 k l0 (l0.length : Int) 0 a1_0_0) = some r := h
 clear h
 have H' := Aside0.mk H
 clear H
 go_enter Try.func76, Try.ntmps76
 go_wp2
 go_loopg [8] k (fun kq v8 w' => ∃ (x8_1 : Int), v8 = .int .i64 x8_1 ∧ Aside0 (slices_IndexFunc_w77.l0 kq l0 (l0.length : Int) x8_1 a1_0_0 = some r) ∧ Aside0 (kq ≤ k) ∧ Aside0 (w'.heap[gb28]? = some (.cells #[.string a1_0_0] 9 (0, 0))) ∧ Aside0 (Below w.heap.size w w'))
 case atStart => exact ⟨(0), tE, H', ⟨Nat.le_refl _⟩, ⟨by refine bU ?_; exact BK28.out⟩, ⟨by repeat (first | (with_reducible first | exact HB.out | apply below_alloc | apply pw_below_drewN | apply below_drew1) | exact HB.out)⟩⟩
 case round =>
  clear H'
  try clear p2
  obtain ⟨x8_1, rfl, HA, HK1, BK28, HB⟩ := hrel
  cases gk with
  | zero => exact absurd HA.out (by simp [slices_IndexFunc_w77.l0])
  | succ k1 =>
   have H := HA.out
   clear HA
   simp only [slices_IndexFunc_w77.l0] at H
   by_cases c3 : x8_1 < (l0.length : Int)
   ·rw [if_pos c3] at H
    have c3b0 : decide (x8_1 < (l0.length : Int)) = true := decide_eq_true c3
    clear c3
    by_cases c4 : 0 ≤ x8_1
    ·rw [if_pos c4] at H
     have c4b0 : decide (0 ≤ x8_1) = true := decide_eq_true c4
     clear c4
     by_cases c5 : x8_1 < (l0.length : Int)
     ·rw [if_pos c5] at H
      have c5b0 : decide (x8_1 < (l0.length : Int)) = true := decide_eq_true c5
      clear c5
      replace H := Option.bind_eq_some_iff.mp H
      obtain ⟨t189, A60, H⟩ := H
      replace H : (if t189 = true then (some x8_1) else (slices_IndexFunc_w77.l0 k1 l0 (l0.length : Int) (wrap64 (x8_1 + 1)) a1_0_0)) = some r := H
      have A6 := Aside0.mk A60
      clear A60
      by_cases c7 : t189 = true
      ·subst c7
       have H1 : (some x8_1) = some r := by rw [if_pos rfl] at H; exact H
       clear H
       have H := H1
       clear H1
       obtain rfl := Option.some.inj H
       have p188 : 0 ≤ (x8_1 : Int) := of_decide_eq_true hE
       have q188 : x8_1 < (l0.length : Int) := of_decide_eq_true hE
       obtain ⟨ad188, A188_1, c188_1, A188_2, c188_2, e188, hx188_0, hx188_1, hx188_2, hl188_1, hi188_1, hl188_2, hi188_2⟩ := at_T63 HR0.out x8_1 p188 q188
       cases e188
       replace hx188_0 := (HB.out.cell (World.block_lt_of_cell? w _ hx188_0)).trans hx188_0
       replace hx188_1 := (HB.out.cell (World.block_lt_of_cell? w _ hx188_1)).trans hx188_1
       replace hx188_2 := (HB.out.cell (World.block_lt_of_cell? w _ hx188_2)).trans hx188_2
       have HR188_1 := Aside0.mk hi188_1
       have HC188_1 := Aside0.mk hl188_1
       clear hi188_1 hl188_1
       have HR188_2 := Aside0.mk hi188_2
       have HC188_2 := Aside0.mk hl188_2
       clear hi188_2 hl188_2
       replace p188 := eq_true p188
       replace q188 := eq_true q188
       go_wp2_with (first | ((with_reducible refine gateD_ rfl ?_); refine goesC_ (some 16) rfl rfl Try.func77 (by kernel_rfl) rfl rfl rfl #[.agg #[.string ((rd_T63 l0 x8_1).f0), .slice A188_1 ((rd_T63 l0 x8_1).f1).length c188_1, .slice A188_2 ((rd_T63 l0 x8_1).f2).length c188_2], .pointer (some ⟨gb28, 0, none⟩)] aE ?_; (with_reducible refine (impl_assetAt_1.calls ((rd_T63 l0 x8_1).f0) _ _ ((rd_T63 l0 x8_1).f1) _ _ ((rd_T63 l0 x8_1).f2) gb28 a1_0_0 true _ ?side1 ?side2 ?side3 ?side4 ?side5 A6.out).mono ?_); (case side1 => exact cU (Kd.C_below HR188_1.out HB.out)); (case side2 => exact HC188_1.out); (case side3 => exact cU (Kd.C_below HR188_2.out HB.out)); (case side4 => exact HC188_2.out); (case side5 => refine bU ?_; exact BK28.out); rintro e w8 ⟨rfl, hb⟩; refine ⟨_, rfl, ?_⟩; replace BK28 := bB (bV BK28) hb; replace HB := bH (lU) hb; (try clear hb)))
       go_ret
       exact ⟨eE, lU⟩
      ·replace c7 := Bool.eq_false_iff.mpr c7
       subst c7
       have H1 : (slices_IndexFunc_w77.l0 k1 l0 (l0.length : Int) (wrap64 (x8_1 + 1)) a1_0_0) = some r := by rw [if_neg (show ¬ (false = true) by decide)] at H; exact H
       clear H
       have H := H1
       clear H1
       have H' := Aside0.mk H
       clear H
       have p188 : 0 ≤ (x8_1 : Int) := of_decide_eq_true hE
       have q188 : x8_1 < (l0.length : Int) := of_decide_eq_true hE
       obtain ⟨ad188, A188_1, c188_1, A188_2, c188_2, e188, hx188_0, hx188_1, hx188_2, hl188_1, hi188_1, hl188_2, hi188_2⟩ := at_T63 HR0.out x8_1 p188 q188
       cases e188
       replace hx188_0 := (HB.out.cell (World.block_lt_of_cell? w _ hx188_0)).trans hx188_0
       replace hx188_1 := (HB.out.cell (World.block_lt_of_cell? w _ hx188_1)).trans hx188_1
       replace hx188_2 := (HB.out.cell (World.block_lt_of_cell? w _ hx188_2)).trans hx188_2
       have HR188_1 := Aside0.mk hi188_1
       have HC188_1 := Aside0.mk hl188_1
       clear hi188_1 hl188_1
       have HR188_2 := Aside0.mk hi188_2
       have HC188_2 := Aside0.mk hl188_2
       clear hi188_2 hl188_2
       replace p188 := eq_true p188
       replace q188 := eq_true q188
       go_wp2_with (first | ((with_reducible refine gateD_ rfl ?_); refine goesC_ (some 16) rfl rfl Try.func77 (by kernel_rfl) rfl rfl rfl #[.agg #[.string ((rd_T63 l0 x8_1).f0), .slice A188_1 ((rd_T63 l0 x8_1).f1).length c188_1, .slice A188_2 ((rd_T63 l0 x8_1).f2).length c188_2], .pointer (some ⟨gb28, 0, none⟩)] aE ?_; (with_reducible refine (impl_assetAt_1.calls ((rd_T63 l0 x8_1).f0) _ _ ((rd_T63 l0 x8_1).f1) _ _ ((rd_T63 l0 x8_1).f2) gb28 a1_0_0 false _ ?side1 ?side2 ?side3 ?side4 ?side5 A6.out).mono ?_); (case side1 => exact cU (Kd.C_below HR188_1.out HB.out)); (case side2 => exact HC188_1.out); (case side3 => exact cU (Kd.C_below HR188_2.out HB.out)); (case side4 => exact HC188_2.out); (case side5 => refine bU ?_; exact BK28.out); rintro e w9 ⟨rfl, hb⟩; refine ⟨_, rfl, ?_⟩; replace BK28 := bB (bV BK28) hb; replace HB := bH (lU) hb; (try clear hb)))
       go_roundg k1
       case measure => have := HK1.out; omega
       case rel => exact ⟨(wrap64 (x8_1 + 1)), tE, H', ⟨by have := HK1.out; omega⟩, ⟨by refine bU ?_; exact BK28.out⟩, ⟨by repeat (first | (with_reducible first | exact HB.out | apply below_alloc | apply pw_below_drewN | apply below_drew1) | exact HB.out)⟩⟩
     ·rw [if_neg c5] at H
      exact absurd H (by simp)
    ·rw [if_neg c4] at H
     exact absurd H (by simp)
   ·rw [if_neg c3] at H
    have c3b0 : decide (x8_1 < (l0.length : Int)) = false := decide_eq_false c3
    clear c3
    obtain rfl := Option.some.inj H
    go_wp2
    go_ret
    exact ⟨eE, lU⟩
def impl_assetAt.f (k : Nat) (l0 : List (S63)) (a1 : ByteArray) : Option (Int) := (slices_IndexFunc_w77.f k l0 a1).bind fun t191 => (some t191)
theorem impl_assetAt.mono : ∀ a0 a1 k, LeO (impl_assetAt.f k a0 a1) (impl_assetAt.f (k + 1) a0 a1) := by
 intro a0 a1 k
 unfold impl_assetAt.f
 repeat' first
   | (with_reducible exact slices_IndexFunc_w77.mono _ _ _)
   | (with_reducible exact LeO.refl _)
   | (with_reducible exact LeO.none _)
   | (with_reducible refine LeO.ite ?_ ?_)
   | (with_reducible refine LeO.bind ?_ (fun _ => ?_))
   | exact slices_IndexFunc_w77.mono _ _ _
   | exact LeO.none _
   | refine LeO.ite ?_ ?_
   | refine LeO.bind ?_ (fun _ => ?_)
set_option maxHeartbeats 8000000 in
set_option maxRecDepth 100000 in
theorem impl_assetAt.calls (k : Nat) (A0 : Option Addr) (c0 : Nat) (l0 : List (S63)) (a1 : ByteArray) (r : Int) (w : World) (hr0 : Kd.C k63 w A0 l0.length l0) (hc0 : l0.length ≤ c0) (h : impl_assetAt.f k l0 a1 = some r) :
  Calls Try.prog 38 #[.slice A0 l0.length c0, .string a1] w fun e w' => e = .returned (.int .i64 r) ∧ Below w.heap.size w w' := by
 have hu9 := Try.underlying9
 have HR0 := Aside0.mk hr0
 have HC0 := Aside0.mk hc0
 clear hr0 hc0
 have HB := Aside0.mk (Below.refl w.heap.size w)
 have H : ((slices_IndexFunc_w77.f k l0 a1).bind fun t191 => (some t191)) = some r := h
 clear h
 replace H := Option.bind_eq_some_iff.mp H
 obtain ⟨t191, A30, H⟩ := H
 replace H : (some t191) = some r := H
 have A3 := Aside0.mk A30
 clear A30
 obtain rfl := Option.some.inj H
 go_enter Try.func38, Try.ntmps38
 go_wp2_with (first | ((with_reducible refine gate_dst (N := 3) rfl ?_); refine box_event rfl (N := 3) rfl (cs := #[.string a1]) (t := 9) sE ?_; intro gb190 hg w4 hbox hb; have BK190 := Aside0.mk hbox; have GW190 := gS w hg (lU); have GE190 := gS w hg (lU); replace HB := bH (lU) hb; clear hb hbox hg) | ((with_reducible refine gate_callee (f := 76) rfl ?_); refine goesL_ (some 7) rfl rfl Try.func76 (by kernel_rfl) rfl #[.slice A0 l0.length c0, .func (.func 77) #[] #[.pointer (some ⟨gb190, 0, none⟩)]] rfl aE ?_; (with_reducible refine (slices_IndexFunc_w77.calls k _ _ l0 gb190 a1 t191 _ ?side1 ?side2 ?side3 A3.out).mono ?_); (case side1 => exact cU (Kd.C_below HR0.out HB.out)); (case side2 => exact HC0.out); (case side3 => refine bU ?_; exact BK190.out); rintro e w5 ⟨rfl, hb⟩; refine ⟨_, rfl, ?_⟩; replace BK190 := bB (bV BK190) hb; replace HB := bH (lV1 GE190) hb; (try clear hb)))
 go_ret
 exact ⟨eE, lV1 GE190⟩
def impl_GoodAssets_1.f (k : Nat) (a0 : ByteArray) (l1_0_0 : List (S63)) : Option (Bool) := (impl_assetAt.f k l1_0_0 a0).bind fun t192 => (some (decide (t192 < 0)))
theorem impl_GoodAssets_1.mono : ∀ a0 a1 k, LeO (impl_GoodAssets_1.f k a0 a1) (impl_GoodAssets_1.f (k + 1) a0 a1) := by
 intro a0 a1 k
 unfold impl_GoodAssets_1.f
 repeat' first
   | (with_reducible exact impl_assetAt.mono _ _ _)
   | (with_reducible exact LeO.refl _)
   | (with_reducible exact LeO.none _)
   | (with_reducible refine LeO.ite ?_ ?_)
   | (with_reducible refine LeO.bind ?_ (fun _ => ?_))
   | exact impl_assetAt.mono _ _ _
   | exact LeO.none _
   | refine LeO.ite ?_ ?_
   | refine LeO.bind ?_ (fun _ => ?_)
set_option maxHeartbeats 8000000 in
set_option maxRecDepth 100000 in
theorem impl_GoodAssets_1.calls (k : Nat) (a0 : ByteArray) (gb28 : Nat) (A1_0_0 : Option Addr) (c1_0_0 : Nat) (l1_0_0 : List (S63)) (r : Bool) (w : World) (hr1_0_0 : Kd.C k63 w A1_0_0 l1_0_0.length l1_0_0) (hc1_0_0 : l1_0_0.length ≤ c1_0_0) (hk28 : w.heap[gb28]? = some (.cells #[.slice A1_0_0 l1_0_0.length c1_0_0] 25 (0, 0))) (h : impl_GoodAssets_1.f k a0 l1_0_0 = some r) :
  Calls Try.prog 37 #[.string a0, .pointer (some ⟨gb28, 0, none⟩)] w fun e w' => e = .returned (.bool r) ∧ Below w.heap.size w w' := by
 have HR1_0_0 := Aside0.mk hr1_0_0
 have HC1_0_0 := Aside0.mk hc1_0_0
 clear hr1_0_0 hc1_0_0
 have BK28 := Aside0.mk hk28
 clear hk28
 have HB := Aside0.mk (Below.refl w.heap.size w)
 have H : ((impl_assetAt.f k l1_0_0 a0).bind fun t192 => (some (decide (t192 < 0)))) = some r := h
 clear h
 replace H := Option.bind_eq_some_iff.mp H
 obtain ⟨t192, A30, H⟩ := H
 replace H : (some (decide (t192 < 0))) = some r := H
 have A3 := Aside0.mk A30
 clear A30
 obtain rfl := Option.some.inj H
 have hcz4_0 := cz BK28 0 (.slice A1_0_0 l1_0_0.length c1_0_0)
 have hfz4_0 := fz BK28 0
 go_enter Try.func37, Try.ntmps37
 go_wp2_with (first | ((with_reducible refine gate_callee (f := 38) rfl ?_); refine goesL_ (some 6) rfl rfl Try.func38 (by kernel_rfl) rfl #[.slice A1_0_0 l1_0_0.length c1_0_0, .string a0] rfl aE ?_; (with_reducible refine (impl_assetAt.calls k _ _ l1_0_0 a0 t192 _ ?side1 ?side2 A3.out).mono ?_); (case side1 => repeat (first | exact HR1_0_0.out | (with_reducible refine Kd.C_alloc ?_ _) | (with_reducible refine Kd.C_drewN ?_ _) | (with_reducible refine Kd.C_drew ?_))); (case side2 => exact HC1_0_0.out); rintro e w5 ⟨rfl, hb⟩; refine ⟨_, rfl, ?_⟩; replace BK28 := bB (bV BK28) hb; replace HB := bH (lU) hb; (try clear hb)))
 go_ret
 exact ⟨eE, lU⟩
def slices_Index_string_string.l0 : Nat → List ByteArray → ByteArray → Int → Int → Option (Int)
 | 0, _, _, _, _ => none
 | k + 1, x0, x1, x7, x8 => if x8 < x7 then (if 0 ≤ x8 then (if x8 < (x0.length : Int) then (if x1.toList = (rdOf ByteArray.empty x0 x8).toList then (some x8) else (slices_Index_string_string.l0 k x0 x1 x7 (wrap64 (x8 + 1)))) else (none)) else (none)) else (some (-1))
def slices_Index_string_string.f (k : Nat) (l0 : List ByteArray) (a1 : ByteArray) : Option (Int) := slices_Index_string_string.l0 k l0 a1 (l0.length : Int) 0
theorem slices_Index_string_string.mono_l : ∀ k, (∀ y0 y1 y2 y3, LeO (slices_Index_string_string.l0 k y0 y1 y2 y3) (slices_Index_string_string.l0 (k + 1) y0 y1 y2 y3))
 | 0 => fun _ _ _ _ r h => by simp [slices_Index_string_string.l0] at h
 | k + 1 => by
  have ih0 := slices_Index_string_string.mono_l k
  ·intro y0 y1 y2 y3
   unfold slices_Index_string_string.l0
   repeat' first
   | (with_reducible exact ih0 _ _ _ _)
   | (with_reducible exact LeO.refl _)
   | (with_reducible exact LeO.none _)
   | (with_reducible refine LeO.ite ?_ ?_)
   | (with_reducible refine LeO.bind ?_ (fun _ => ?_))
   | exact ih0 _ _ _ _
   | exact LeO.none _
   | refine LeO.ite ?_ ?_
   | refine LeO.bind ?_ (fun _ => ?_)
theorem slices_Index_string_string.mono : ∀ a0 a1 k, LeO (slices_Index_string_string.f k a0 a1) (slices_Index_string_string.f (k + 1) a0 a1) := by
 intro a0 a1 k
 have ih0 := slices_Index_string_string.mono_l k
 unfold slices_Index_string_string.f
 repeat' first
   | (with_reducible exact ih0 _ _ _ _)
   | (with_reducible exact LeO.refl _)
   | (with_reducible exact LeO.none _)
   | (with_reducible refine LeO.ite ?_ ?_)
   | (with_reducible refine LeO.bind ?_ (fun _ => ?_))
   | exact ih0 _ _ _ _
   | exact LeO.none _
   | refine LeO.ite ?_ ?_
   | refine LeO.bind ?_ (fun _ => ?_)
set_option maxHeartbeats 8000000 in
set_option maxRecDepth 100000 in
theorem slices_Index_string_string.calls (k : Nat) (A0 : Option Addr) (c0 : Nat) (l0 : List ByteArray) (a1 : ByteArray) (r : Int) (w : World) (hr0 : Kd.C Kd.string w A0 l0.length l0) (hc0 : l0.length ≤ c0) (h : slices_Index_string_string.f k l0 a1 = some r) :
  Calls Try.prog 97 #[.slice A0 l0.length c0, .string a1] w fun e w' => e = .returned (.int .i64 r) ∧ Drawn0 w w' := by
 have HR0 := Aside0.mk hr0
 have HC0 := Aside0.mk hc0
 clear hr0 hc0
 have H : (slices_Index_string_string.l0 k l0 a1 (l0.length : Int) 0) = some r := h
 clear h
 have H' := Aside0.mk H
 clear H
 go_enter Try.func97, Try.ntmps97
 go_wp2
 go_loopg [8] k (fun kq v8 w' => ∃ (x8_1 : Int), v8 = .int .i64 x8_1 ∧ Aside0 (slices_Index_string_string.l0 kq l0 a1 (l0.length : Int) x8_1 = some r) ∧ Aside0 (kq ≤ k) ∧ Drawn0 w w')
 case atStart => exact ⟨(0), tE, H', ⟨Nat.le_refl _⟩, by repeat (first | exact Drawn0.refl _ | apply Drawn0.step)⟩
 case round =>
  clear H'
  try clear p2
  obtain ⟨x8_1, rfl, HA, HK1, ⟨m1, rfl⟩⟩ := hrel
  cases gk with
  | zero => exact absurd HA.out (by simp [slices_Index_string_string.l0])
  | succ k1 =>
   have H := HA.out
   clear HA
   simp only [slices_Index_string_string.l0] at H
   by_cases c3 : x8_1 < (l0.length : Int)
   ·rw [if_pos c3] at H
    have c3b0 : decide (x8_1 < (l0.length : Int)) = true := decide_eq_true c3
    clear c3
    by_cases c4 : 0 ≤ x8_1
    ·rw [if_pos c4] at H
     have c4b0 : decide (0 ≤ x8_1) = true := decide_eq_true c4
     clear c4
     by_cases c5 : x8_1 < (l0.length : Int)
     ·rw [if_pos c5] at H
      have c5b0 : decide (x8_1 < (l0.length : Int)) = true := decide_eq_true c5
      clear c5
      by_cases c6 : a1.toList = (rdOf ByteArray.empty l0 x8_1).toList
      ·rw [if_pos c6] at H
       have c6b0 : (a1.toList == (rdOf ByteArray.empty l0 x8_1).toList) = true := beq_iff_eq.mpr c6
       have c6b1 : (a1.toList != (rdOf ByteArray.empty l0 x8_1).toList) = false := bne_eq_false_iff_eq.mpr c6
       clear c6
       obtain rfl := Option.some.inj H
       have p193 : 0 ≤ (x8_1 : Int) := of_decide_eq_true hE
       have q193 : x8_1 < (l0.length : Int) := of_decide_eq_true hE
       obtain ⟨ad193, e193, hx193_0⟩ := Kd.at_string HR0.out x8_1 p193 q193
       cases e193
       replace p193 := eq_true p193
       replace q193 := eq_true q193
       go_wp2
       go_ret
       exact ⟨by first | rfl | (simp; done) | (simp [*]; done) | exact not_isEmpty _ | exact (not_isEmpty _).symm | exact is_empty _ | exact (is_empty _).symm, by repeat (first | exact Drawn0.refl _ | apply Drawn0.step)⟩
      ·rw [if_neg c6] at H
       have c6b0 : (a1.toList == (rdOf ByteArray.empty l0 x8_1).toList) = false := beq_eq_false_iff_ne.mpr c6
       have c6b1 : (a1.toList != (rdOf ByteArray.empty l0 x8_1).toList) = true := bne_iff_ne.mpr c6
       have H' := Aside0.mk H
       clear H
       have p193 : 0 ≤ (x8_1 : Int) := of_decide_eq_true hE
       have q193 : x8_1 < (l0.length : Int) := of_decide_eq_true hE
       obtain ⟨ad193, e193, hx193_0⟩ := Kd.at_string HR0.out x8_1 p193 q193
       cases e193
       replace p193 := eq_true p193
       replace q193 := eq_true q193
       go_wp2
       go_roundg k1
       case measure => have := HK1.out; omega
       case rel => exact ⟨(wrap64 (x8_1 + 1)), tE, H', ⟨by have := HK1.out; omega⟩, by repeat (first | exact Drawn0.refl _ | apply Drawn0.step)⟩
     ·rw [if_neg c5] at H
      exact absurd H (by simp)
    ·rw [if_neg c4] at H
     exact absurd H (by simp)
   ·rw [if_neg c3] at H
    have c3b0 : decide (x8_1 < (l0.length : Int)) = false := decide_eq_false c3
    clear c3
    obtain rfl := Option.some.inj H
    go_wp2
    go_ret
    exact ⟨by first | rfl | (simp; done) | (simp [*]; done) | exact not_isEmpty _ | exact (not_isEmpty _).symm | exact is_empty _ | exact (is_empty _).symm, by repeat (first | exact Drawn0.refl _ | apply Drawn0.step)⟩
end Go.Proofs.Ytifejplilaefiaa.PFnExactMakeOrder
namespace Go.Proofs.Ytifejplilaefiaa.PFnExactMakeOrder
open Go.RowKit Go.Proofs.YtifejplilaefiaaW.PrintWords Go.Proofs.YtifejplilaefiaaW.PrintLast Go.Proofs.YtifejplilaefiaaW.PrintMore
attribute [local go_sem] max2_int min2_int max_two min_two max_three min_three max_four min_four   -- for this text's walks alone
set_option linter.unusedVariables false
set_option linter.unusedSimpArgs false
def slices_Contains_string_string.f (k : Nat) (l0 : List ByteArray) (a1 : ByteArray) : Option (Bool) := (slices_Index_string_string.f k l0 a1).bind fun t194 => (some (decide (t194 ≥ 0)))
theorem slices_Contains_string_string.mono : ∀ a0 a1 k, LeO (slices_Contains_string_string.f k a0 a1) (slices_Contains_string_string.f (k + 1) a0 a1) := by
 intro a0 a1 k
 unfold slices_Contains_string_string.f
 repeat' first
   | (with_reducible exact slices_Index_string_string.mono _ _ _)
   | (with_reducible exact LeO.refl _)
   | (with_reducible exact LeO.none _)
   | (with_reducible refine LeO.ite ?_ ?_)
   | (with_reducible refine LeO.bind ?_ (fun _ => ?_))
   | exact slices_Index_string_string.mono _ _ _
   | exact LeO.none _
   | refine LeO.ite ?_ ?_
   | refine LeO.bind ?_ (fun _ => ?_)
set_option maxHeartbeats 8000000 in
set_option maxRecDepth 100000 in
theorem slices_Contains_string_string.calls (k : Nat) (A0 : Option Addr) (c0 : Nat) (l0 : List ByteArray) (a1 : ByteArray) (r : Bool) (w : World) (hr0 : Kd.C Kd.string w A0 l0.length l0) (hc0 : l0.length ≤ c0) (h : slices_Contains_string_string.f k l0 a1 = some r) :
  Calls Try.prog 79 #[.slice A0 l0.length c0, .string a1] w fun e w' => e = .returned (.bool r) ∧ Drawn0 w w' := by
 have HR0 := Aside0.mk hr0
 have HC0 := Aside0.mk hc0
 clear hr0 hc0
 have H : ((slices_Index_string_string.f k l0 a1).bind fun t194 => (some (decide (t194 ≥ 0)))) = some r := h
 clear h
 replace H := Option.bind_eq_some_iff.mp H
 obtain ⟨t194, A30, H⟩ := H
 replace H : (some (decide (t194 ≥ 0))) = some r := H
 have A3 := Aside0.mk A30
 clear A30
 obtain rfl := Option.some.inj H
 go_enter Try.func79, Try.ntmps79
 go_wp2_with (first | ((with_reducible refine gate_callee (f := 97) rfl ?_); refine goesL_ (some 7) rfl rfl Try.func97 (by kernel_rfl) rfl #[.slice A0 l0.length c0, .string a1] rfl aE ?_; (with_reducible refine (slices_Index_string_string.calls k _ _ l0 a1 t194 _ ?side1 ?side2 A3.out).mono ?_); (case side1 => repeat (first | exact HR0.out | (with_reducible refine Kd.C_alloc ?_ _) | (with_reducible refine Kd.C_drewN ?_ _) | (with_reducible refine Kd.C_drew ?_))); (case side2 => exact HC0.out); rintro e w' ⟨rfl, ⟨nd, rfl⟩⟩; refine ⟨_, rfl, ?_⟩))
 go_ret
 exact ⟨by first | rfl | (simp; done) | (simp [*]; done) | exact not_isEmpty _ | exact (not_isEmpty _).symm | exact is_empty _ | exact (is_empty _).symm, by repeat (first | exact Drawn0.refl _ | apply Drawn0.step)⟩
def impl_makeOrder_1_1.f (k : Nat) (a0 : ByteArray) (l1_0_0 : List ByteArray) : Option (Bool) := (slices_Contains_string_string.f k l1_0_0 a0).bind fun t195 => (some (!t195))
theorem impl_makeOrder_1_1.mono : ∀ a0 a1 k, LeO (impl_makeOrder_1_1.f k a0 a1) (impl_makeOrder_1_1.f (k + 1) a0 a1) := by
 intro a0 a1 k
 unfold impl_makeOrder_1_1.f
 repeat' first
   | (with_reducible exact slices_Contains_string_string.mono _ _ _)
   | (with_reducible exact LeO.refl _)
   | (with_reducible exact LeO.none _)
   | (with_reducible refine LeO.ite ?_ ?_)
   | (with_reducible refine LeO.bind ?_ (fun _ => ?_))
   | exact slices_Contains_string_string.mono _ _ _
   | exact LeO.none _
   | refine LeO.ite ?_ ?_
   | refine LeO.bind ?_ (fun _ => ?_)
set_option maxHeartbeats 8000000 in
set_option maxRecDepth 100000 in
theorem impl_makeOrder_1_1.calls (k : Nat) (a0 : ByteArray) (gb28 : Nat) (A1_0_0 : Option Addr) (c1_0_0 : Nat) (l1_0_0 : List ByteArray) (r : Bool) (w : World) (hr1_0_0 : Kd.C Kd.string w A1_0_0 l1_0_0.length l1_0_0) (hc1_0_0 : l1_0_0.length ≤ c1_0_0) (hk28 : w.heap[gb28]? = some (.cells #[.slice A1_0_0 l1_0_0.length c1_0_0] 29 (0, 0))) (h : impl_makeOrder_1_1.f k a0 l1_0_0 = some r) :
  Calls Try.prog 80 #[.string a0, .pointer (some ⟨gb28, 0, none⟩)] w fun e w' => e = .returned (.bool r) ∧ Below w.heap.size w w' := by
 have HR1_0_0 := Aside0.mk hr1_0_0
 have HC1_0_0 := Aside0.mk hc1_0_0
 clear hr1_0_0 hc1_0_0
 have BK28 := Aside0.mk hk28
 clear hk28
 have HB := Aside0.mk (Below.refl w.heap.size w)
 have H : ((slices_Contains_string_string.f k l1_0_0 a0).bind fun t195 => (some (!t195))) = some r := h
 clear h
 replace H := Option.bind_eq_some_iff.mp H
 obtain ⟨t195, A30, H⟩ := H
 replace H : (some (!t195)) = some r := H
 have A3 := Aside0.mk A30
 clear A30
 obtain rfl := Option.some.inj H
 have hcz4_0 := cz BK28 0 (.slice A1_0_0 l1_0_0.length c1_0_0)
 have hfz4_0 := fz BK28 0
 go_enter Try.func80, Try.ntmps80
 go_wp2_with (first | ((with_reducible refine gate_callee (f := 79) rfl ?_); refine goesL_ (some 6) rfl rfl Try.func79 (by kernel_rfl) rfl #[.slice A1_0_0 l1_0_0.length c1_0_0, .string a0] rfl aE ?_; (with_reducible refine (slices_Contains_string_string.calls k _ _ l1_0_0 a0 t195 _ ?side1 ?side2 A3.out).mono ?_); (case side1 => repeat (first | exact HR1_0_0.out | (with_reducible refine Kd.C_alloc ?_ _) | (with_reducible refine Kd.C_drewN ?_ _) | (with_reducible refine Kd.C_drew ?_))); (case side2 => exact HC1_0_0.out); rintro e w' ⟨rfl, ⟨nd, rfl⟩⟩; refine ⟨_, rfl, ?_⟩))
 go_ret
 exact ⟨eE, lU⟩
def slices_IndexFunc_w80.l0 : Nat → List ByteArray → Int → Int → List ByteArray → Option (Int)
 | 0, _, _, _, _ => none
 | k + 1, x0, x7, x8, x29000 => if x8 < x7 then (if 0 ≤ x8 then (if x8 < (x0.length : Int) then ((impl_makeOrder_1_1.f k (rdOf ByteArray.empty x0 x8) x29000).bind fun t197 => (if t197 = true then (some x8) else (slices_IndexFunc_w80.l0 k x0 x7 (wrap64 (x8 + 1)) x29000))) else (none)) else (none)) else (some (-1))
def slices_IndexFunc_w80.f (k : Nat) (l0 : List ByteArray) (l1_0_0 : List ByteArray) : Option (Int) := slices_IndexFunc_w80.l0 k l0 (l0.length : Int) 0 l1_0_0
theorem slices_IndexFunc_w80.mono_l : ∀ k, (∀ y0 y1 y2 y3, LeO (slices_IndexFunc_w80.l0 k y0 y1 y2 y3) (slices_IndexFunc_w80.l0 (k + 1) y0 y1 y2 y3))
 | 0 => fun _ _ _ _ r h => by simp [slices_IndexFunc_w80.l0] at h
 | k + 1 => by
  have ih0 := slices_IndexFunc_w80.mono_l k
  ·intro y0 y1 y2 y3
   unfold slices_IndexFunc_w80.l0
   repeat' first
   | (with_reducible exact ih0 _ _ _ _)
   | (with_reducible exact impl_makeOrder_1_1.mono _ _ _)
   | (with_reducible exact LeO.refl _)
   | (with_reducible exact LeO.none _)
   | (with_reducible refine LeO.ite ?_ ?_)
   | (with_reducible refine LeO.bind ?_ (fun _ => ?_))
   | exact ih0 _ _ _ _
   | exact impl_makeOrder_1_1.mono _ _ _
   | exact LeO.none _
   | refine LeO.ite ?_ ?_
   | refine LeO.bind ?_ (fun _ => ?_)
theorem slices_IndexFunc_w80.mono : ∀ a0 a1 k, LeO (slices_IndexFunc_w80.f k a0 a1) (slices_IndexFunc_w80.f (k + 1) a0 a1) := by
 intro a0 a1 k
 have ih0 := slices_IndexFunc_w80.mono_l k
 unfold slices_IndexFunc_w80.f
 repeat' first
   | (with_reducible exact ih0 _ _ _ _)
   | (with_reducible exact impl_makeOrder_1_1.mono _ _ _)
   | (with_reducible exact LeO.refl _)
   | (with_reducible exact LeO.none _)
   | (with_reducible refine LeO.ite ?_ ?_)
   | (with_reducible refine LeO.bind ?_ (fun _ => ?_))
   | exact ih0 _ _ _ _
   | exact impl_makeOrder_1_1.mono _ _ _
   | exact LeO.none _
   | refine LeO.ite ?_ ?_
   | refine LeO.bind ?_ (fun _ => ?_)
set_option maxHeartbeats 8000000 in
set_option maxRecDepth 100000 in
theorem slices_IndexFunc_w80.calls (k : Nat) (A0 : Option Addr) (c0 : Nat) (l0 : List ByteArray) (gb28 : Nat) (A1_0_0 : Option Addr) (c1_0_0 : Nat) (l1_0_0 : List ByteArray) (r : Int) (w : World) (hr0 : Kd.C Kd.string w A0 l0.length l0) (hc0 : l0.length ≤ c0) (hr1_0_0 : Kd.C Kd.string w A1_0_0 l1_0_0.length l1_0_0) (hc1_0_0 : l1_0_0.length ≤ c1_0_0) (hk28 : w.heap[gb28]? = some (.cells #[.slice A1_0_0 l1_0_0.length c1_0_0] 29 (0, 0))) (h : slices_IndexFunc_w80.f k l0 l1_0_0 = some r) :
  Calls Try.prog 75 #[.slice A0 l0.length c0, .func (.func 80) #[] #[.pointer (some ⟨gb28, 0, none⟩)]] w fun e w' => e = .returned (.int .i64 r) ∧ Below w.heap.size w w' := by
 have HR0 := Aside0.mk hr0
 have HC0 := Aside0.mk hc0
 clear hr0 hc0
 have HR1_0_0 := Aside0.mk hr1_0_0
 have HC1_0_0 := Aside0.mk hc1_0_0
 clear hr1_0_0 hc1_0_0
 have BK28 := Aside0.mk hk28
 clear hk28
 have HB := Aside0.mk (Below.refl w.heap.size w)
 have H : (slices_IndexFunc_w80.l0 k l0 (l0.length : Int) 0 l1_0_0) = some r := h
 clear h
 have H' := Aside0.mk H
 clear H
 go_enter Try.func75, Try.ntmps75
 go_wp2
 go_loopg [8] k (fun kq v8 w' => ∃ (x8_1 : Int), v8 = .int .i64 x8_1 ∧ Aside0 (slices_IndexFunc_w80.l0 kq l0 (l0.length : Int) x8_1 l1_0_0 = some r) ∧ Aside0 (kq ≤ k) ∧ Aside0 (w'.heap[gb28]? = some (.cells #[(.slice A1_0_0 l1_0_0.length c1_0_0)] 29 (0, 0))) ∧ Aside0 (Below w.heap.size w w'))
 case atStart => exact ⟨(0), tE, H', ⟨Nat.le_refl _⟩, ⟨by refine bU ?_; exact BK28.out⟩, ⟨by repeat (first | (with_reducible first | exact HB.out | apply below_alloc | apply pw_below_drewN | apply below_drew1) | exact HB.out)⟩⟩
 case round =>
  clear H'
  try clear c1
  try clear p2
  obtain ⟨x8_1, rfl, HA, HK1, BK28, HB⟩ := hrel
  cases gk with
  | zero => exact absurd HA.out (by simp [slices_IndexFunc_w80.l0])
  | succ k1 =>
   have H := HA.out
   clear HA
   simp only [slices_IndexFunc_w80.l0] at H
   by_cases c3 : x8_1 < (l0.length : Int)
   ·rw [if_pos c3] at H
    have c3b0 : decide (x8_1 < (l0.length : Int)) = true := decide_eq_true c3
    clear c3
    by_cases c4 : 0 ≤ x8_1
    ·rw [if_pos c4] at H
     have c4b0 : decide (0 ≤ x8_1) = true := decide_eq_true c4
     clear c4
     by_cases c5 : x8_1 < (l0.length : Int)
     ·rw [if_pos c5] at H
      have c5b0 : decide (x8_1 < (l0.length : Int)) = true := decide_eq_true c5
      clear c5
      replace H := Option.bind_eq_some_iff.mp H
      obtain ⟨t197, A60, H⟩ := H
      replace H : (if t197 = true then (some x8_1) else (slices_IndexFunc_w80.l0 k1 l0 (l0.length : Int) (wrap64 (x8_1 + 1)) l1_0_0)) = some r := H
      have A6 := Aside0.mk A60
      clear A60
      by_cases c7 : t197 = true
      ·subst c7
       have H1 : (some x8_1) = some r := by rw [if_pos rfl] at H; exact H
       clear H
       have H := H1
       clear H1
       obtain rfl := Option.some.inj H
       have p196 : 0 ≤ (x8_1 : Int) := of_decide_eq_true hE
       have q196 : x8_1 < (l0.length : Int) := of_decide_eq_true hE
       obtain ⟨ad196, e196, hx196_0⟩ := Kd.at_string HR0.out x8_1 p196 q196
       cases e196
       replace hx196_0 := (HB.out.cell (World.block_lt_of_cell? w _ hx196_0)).trans hx196_0
       replace p196 := eq_true p196
       replace q196 := eq_true q196
       go_wp2_with (first | ((with_reducible refine gateD_ rfl ?_); refine goesC_ (some 16) rfl rfl Try.func80 (by kernel_rfl) rfl rfl rfl #[.string (rdOf ByteArray.empty l0 x8_1), .pointer (some ⟨gb28, 0, none⟩)] aE ?_; (with_reducible refine (impl_makeOrder_1_1.calls k1 (rdOf ByteArray.empty l0 x8_1) gb28 A1_0_0 c1_0_0 l1_0_0 true _ ?side1 ?side2 ?side3 A6.out).mono ?_); (case side1 => exact cU (Kd.C_below HR1_0_0.out HB.out)); (case side2 => exact HC1_0_0.out); (case side3 => refine bU ?_; exact BK28.out); rintro e w8 ⟨rfl, hb⟩; refine ⟨_, rfl, ?_⟩; replace BK28 := bB (bV BK28) hb; replace HB := bH (lU) hb; (try clear hb)))
       go_ret
       exact ⟨eE, lU⟩
      ·replace c7 := Bool.eq_false_iff.mpr c7
       subst c7
       have H1 : (slices_IndexFunc_w80.l0 k1 l0 (l0.length : Int) (wrap64 (x8_1 + 1)) l1_0_0) = some r := by rw [if_neg (show ¬ (false = true) by decide)] at H; exact H
       clear H
       have H := H1
       clear H1
       have H' := Aside0.mk H
       clear H
       have p196 : 0 ≤ (x8_1 : Int) := of_decide_eq_true hE
       have q196 : x8_1 < (l0.length : Int) := of_decide_eq_true hE
       obtain ⟨ad196, e196, hx196_0⟩ := Kd.at_string HR0.out x8_1 p196 q196
       cases e196
       replace hx196_0 := (HB.out.cell (World.block_lt_of_cell? w _ hx196_0)).trans hx196_0
       replace p196 := eq_true p196
       replace q196 := eq_true q196
       go_wp2_with (first | ((with_reducible refine gateD_ rfl ?_); refine goesC_ (some 16) rfl rfl Try.func80 (by kernel_rfl) rfl rfl rfl #[.string (rdOf ByteArray.empty l0 x8_1), .pointer (some ⟨gb28, 0, none⟩)] aE ?_; (with_reducible refine (impl_makeOrder_1_1.calls k1 (rdOf ByteArray.empty l0 x8_1) gb28 A1_0_0 c1_0_0 l1_0_0 false _ ?side1 ?side2 ?side3 A6.out).mono ?_); (case side1 => exact cU (Kd.C_below HR1_0_0.out HB.out)); (case side2 => exact HC1_0_0.out); (case side3 => refine bU ?_; exact BK28.out); rintro e w9 ⟨rfl, hb⟩; refine ⟨_, rfl, ?_⟩; replace BK28 := bB (bV BK28) hb; replace HB := bH (lU) hb; (try clear hb)))
       go_roundg k1
       case measure => have := HK1.out; omega
       case rel => exact ⟨(wrap64 (x8_1 + 1)), tE, H', ⟨by have := HK1.out; omega⟩, ⟨by refine bU ?_; exact BK28.out⟩, ⟨by repeat (first | (with_reducible first | exact HB.out | apply below_alloc | apply pw_below_drewN | apply below_drew1) | exact HB.out)⟩⟩
     ·rw [if_neg c5] at H
      exact absurd H (by simp)
    ·rw [if_neg c4] at H
     exact absurd H (by simp)
   ·rw [if_neg c3] at H
    have c3b0 : decide (x8_1 < (l0.length : Int)) = false := decide_eq_false c3
    clear c3
    obtain rfl := Option.some.inj H
    go_wp2
    go_ret
    exact ⟨eE, lU⟩
def slices_ContainsFunc_w80.f (k : Nat) (l0 : List ByteArray) (l1_0_0 : List ByteArray) : Option (Bool) := (slices_IndexFunc_w80.f k l0 l1_0_0).bind fun t198 => (some (decide (t198 ≥ 0)))
theorem slices_ContainsFunc_w80.mono : ∀ a0 a1 k, LeO (slices_ContainsFunc_w80.f k a0 a1) (slices_ContainsFunc_w80.f (k + 1) a0 a1) := by
 intro a0 a1 k
 unfold slices_ContainsFunc_w80.f
 repeat' first
   | (with_reducible exact slices_IndexFunc_w80.mono _ _ _)
   | (with_reducible exact LeO.refl _)
   | (with_reducible exact LeO.none _)
   | (with_reducible refine LeO.ite ?_ ?_)
   | (with_reducible refine LeO.bind ?_ (fun _ => ?_))
   | exact slices_IndexFunc_w80.mono _ _ _
   | exact LeO.none _
   | refine LeO.ite ?_ ?_
   | refine LeO.bind ?_ (fun _ => ?_)
set_option maxHeartbeats 8000000 in
set_option maxRecDepth 100000 in
theorem slices_ContainsFunc_w80.calls (k : Nat) (A0 : Option Addr) (c0 : Nat) (l0 : List ByteArray) (gb28 : Nat) (A1_0_0 : Option Addr) (c1_0_0 : Nat) (l1_0_0 : List ByteArray) (r : Bool) (w : World) (hr0 : Kd.C Kd.string w A0 l0.length l0) (hc0 : l0.length ≤ c0) (hr1_0_0 : Kd.C Kd.string w A1_0_0 l1_0_0.length l1_0_0) (hc1_0_0 : l1_0_0.length ≤ c1_0_0) (hk28 : w.heap[gb28]? = some (.cells #[.slice A1_0_0 l1_0_0.length c1_0_0] 29 (0, 0))) (h : slices_ContainsFunc_w80.f k l0 l1_0_0 = some r) :
  Calls Try.prog 36 #[.slice A0 l0.length c0, .func (.func 80) #[] #[.pointer (some ⟨gb28, 0, none⟩)]] w fun e w' => e = .returned (.bool r) ∧ Below w.heap.size w w' := by
 have HR0 := Aside0.mk hr0
 have HC0 := Aside0.mk hc0
 clear hr0 hc0
 have HR1_0_0 := Aside0.mk hr1_0_0
 have HC1_0_0 := Aside0.mk hc1_0_0
 clear hr1_0_0 hc1_0_0
 have BK28 := Aside0.mk hk28
 clear hk28
 have HB := Aside0.mk (Below.refl w.heap.size w)
 have H : ((slices_IndexFunc_w80.f k l0 l1_0_0).bind fun t198 => (some (decide (t198 ≥ 0)))) = some r := h
 clear h
 replace H := Option.bind_eq_some_iff.mp H
 obtain ⟨t198, A30, H⟩ := H
 replace H : (some (decide (t198 ≥ 0))) = some r := H
 have A3 := Aside0.mk A30
 clear A30
 obtain rfl := Option.some.inj H
 go_enter Try.func36, Try.ntmps36
 go_wp2_with (first | ((with_reducible refine gate_callee (f := 75) rfl ?_); refine goesL_ (some 7) rfl rfl Try.func75 (by kernel_rfl) rfl #[.slice A0 l0.length c0, .func (.func 80) #[] #[.pointer (some ⟨gb28, 0, none⟩)]] rfl aE ?_; (with_reducible refine (slices_IndexFunc_w80.calls k _ _ l0 gb28 A1_0_0 c1_0_0 l1_0_0 t198 _ ?side1 ?side2 ?side3 ?side4 ?side5 A3.out).mono ?_); (case side1 => repeat (first | exact HR0.out | (with_reducible refine Kd.C_alloc ?_ _) | (with_reducible refine Kd.C_drewN ?_ _) | (with_reducible refine Kd.C_drew ?_))); (case side2 => exact HC0.out); (case side3 => repeat (first | exact HR1_0_0.out | (with_reducible refine Kd.C_alloc ?_ _) | (with_reducible refine Kd.C_drewN ?_ _) | (with_reducible refine Kd.C_drew ?_))); (case side4 => exact HC1_0_0.out); (case side5 => refine bU ?_; exact BK28.out); rintro e w4 ⟨rfl, hb⟩; refine ⟨_, rfl, ?_⟩; replace BK28 := bB (bV BK28) hb; replace HB := bH (lU) hb; (try clear hb)))
 go_ret
 exact ⟨eE, lU⟩
def impl_makeOrder_1.f (k : Nat) (a0_0 : ByteArray) (l0_1 : List ByteArray) (l0_2 : List Int) (l1_0_0 : List ByteArray) : Option (Bool) := (slices_Contains_string_string.f k l1_0_0 a0_0).bind fun t200 => (if t200 = true then (some false) else ((slices_ContainsFunc_w80.f k l0_1 l1_0_0).bind fun t201 => (some (!t201))))
theorem impl_makeOrder_1.mono : ∀ a0 a1 a2 a3 k, LeO (impl_makeOrder_1.f k a0 a1 a2 a3) (impl_makeOrder_1.f (k + 1) a0 a1 a2 a3) := by
 intro a0 a1 a2 a3 k
 unfold impl_makeOrder_1.f
 repeat' first
   | (with_reducible exact slices_ContainsFunc_w80.mono _ _ _)
   | (with_reducible exact slices_Contains_string_string.mono _ _ _)
   | (with_reducible exact LeO.refl _)
   | (with_reducible exact LeO.none _)
   | (with_reducible refine LeO.ite ?_ ?_)
   | (with_reducible refine LeO.bind ?_ (fun _ => ?_))
   | exact slices_ContainsFunc_w80.mono _ _ _
   | exact slices_Contains_string_string.mono _ _ _
   | exact LeO.none _
   | refine LeO.ite ?_ ?_
   | refine LeO.bind ?_ (fun _ => ?_)
set_option maxHeartbeats 8000000 in
set_option maxRecDepth 100000 in
theorem impl_makeOrder_1.calls (k : Nat) (a0_0 : ByteArray) (A0_1 : Option Addr) (c0_1 : Nat) (l0_1 : List ByteArray) (A0_2 : Option Addr) (c0_2 : Nat) (l0_2 : List Int) (gb28 : Nat) (A1_0_0 : Option Addr) (c1_0_0 : Nat) (l1_0_0 : List ByteArray) (r : Bool) (w : World) (hr0_1 : Kd.C Kd.string w A0_1 l0_1.length l0_1) (hc0_1 : l0_1.length ≤ c0_1) (hr0_2 : Kd.C (Kd.int .u8) w A0_2 l0_2.length l0_2) (hc0_2 : l0_2.length ≤ c0_2) (hr1_0_0 : Kd.C Kd.string w A1_0_0 l1_0_0.length l1_0_0) (hc1_0_0 : l1_0_0.length ≤ c1_0_0) (hk28 : w.heap[gb28]? = some (.cells #[.slice A1_0_0 l1_0_0.length c1_0_0] 29 (0, 0))) (h : impl_makeOrder_1.f k a0_0 l0_1 l0_2 l1_0_0 = some r) :
  Calls Try.prog 78 #[.agg #[.string a0_0, .slice A0_1 l0_1.length c0_1, .slice A0_2 l0_2.length c0_2], .pointer (some ⟨gb28, 0, none⟩)] w fun e w' => e = .returned (.bool r) ∧ Below w.heap.size w w' := by
 have hu63 := Try.underlying63
 have HR0_1 := Aside0.mk hr0_1
 have HC0_1 := Aside0.mk hc0_1
 clear hr0_1 hc0_1
 have HR0_2 := Aside0.mk hr0_2
 have HC0_2 := Aside0.mk hc0_2
 clear hr0_2 hc0_2
 have HR1_0_0 := Aside0.mk hr1_0_0
 have HC1_0_0 := Aside0.mk hc1_0_0
 clear hr1_0_0 hc1_0_0
 have BK28 := Aside0.mk hk28
 clear hk28
 have HB := Aside0.mk (Below.refl w.heap.size w)
 have H : ((slices_Contains_string_string.f k l1_0_0 a0_0).bind fun t200 => (if t200 = true then (some false) else ((slices_ContainsFunc_w80.f k l0_1 l1_0_0).bind fun t201 => (some (!t201))))) = some r := h
 clear h
 replace H := Option.bind_eq_some_iff.mp H
 obtain ⟨t200, A30, H⟩ := H
 replace H : (if t200 = true then (some false) else ((slices_ContainsFunc_w80.f k l0_1 l1_0_0).bind fun t201 => (some (!t201)))) = some r := H
 have A3 := Aside0.mk A30
 clear A30
 by_cases c4 : t200 = true
 ·subst c4
  have H1 : (some false) = some r := by rw [if_pos rfl] at H; exact H
  clear H
  have H := H1
  clear H1
  obtain rfl := Option.some.inj H
  go_enter Try.func78, Try.ntmps78
  go_wp2_with (first | ((with_reducible refine gate_dst (N := 2) rfl ?_); refine box_event rfl (N := 2) rfl (cs := #[.string a0_0, .slice A0_1 l0_1.length c0_1, .slice A0_2 l0_2.length c0_2]) (t := 63) sE ?_; intro gb199 hg w5 hbox hb; have BK199 := Aside0.mk hbox; have GW199 := gS w hg (lU); have GE199 := gS w hg (lU); replace HB := bH (lU) hb; have NB28_199 := nL hg (bV BK28); have NB199_28 := nG hg (bV BK28); replace BK28 := bB (bV BK28) hb; clear hb hbox hg; have hnb6 := NB28_199.out; have hnc6 := NB199_28.out; have hcz7_0 := cz BK28 0 (.slice A1_0_0 l1_0_0.length c1_0_0); have hfz7_0 := fz BK28 0; have hcz8_0 := cz BK199 0 (.string a0_0); have hcz8_1 := cz BK199 1 (.slice A0_1 l0_1.length c0_1); have hcz8_2 := cz BK199 2 (.slice A0_2 l0_2.length c0_2); have hfz8_0 := fz BK199 0; have hfz8_1 := fz BK199 1; have hfz8_2 := fz BK199 2) | ((with_reducible refine gate_callee (f := 79) rfl ?_); refine goesL_ (some 7) rfl rfl Try.func79 (by kernel_rfl) rfl #[.slice A1_0_0 l1_0_0.length c1_0_0, .string a0_0] rfl aE ?_; (with_reducible refine (slices_Contains_string_string.calls k _ _ l1_0_0 a0_0 true _ ?side1 ?side2 A3.out).mono ?_); (case side1 => exact cU (Kd.C_below HR1_0_0.out HB.out)); (case side2 => exact HC1_0_0.out); rintro e w' ⟨rfl, ⟨nd, rfl⟩⟩; refine ⟨_, rfl, ?_⟩))
  go_ret
  exact ⟨eE, lV1 GE199⟩
 ·replace c4 := Bool.eq_false_iff.mpr c4
  subst c4
  have H1 : ((slices_ContainsFunc_w80.f k l0_1 l1_0_0).bind fun t201 => (some (!t201))) = some r := by rw [if_neg (show ¬ (false = true) by decide)] at H; exact H
  clear H
  have H := H1
  clear H1
  replace H := Option.bind_eq_some_iff.mp H
  obtain ⟨t201, A90, H⟩ := H
  replace H : (some (!t201)) = some r := H
  have A9 := Aside0.mk A90
  clear A90
  obtain rfl := Option.some.inj H
  go_enter Try.func78, Try.ntmps78
  go_wp2_with (first | ((with_reducible refine gate_dst (N := 2) rfl ?_); refine box_event rfl (N := 2) rfl (cs := #[.string a0_0, .slice A0_1 l0_1.length c0_1, .slice A0_2 l0_2.length c0_2]) (t := 63) sE ?_; intro gb199 hg w10 hbox hb; have BK199 := Aside0.mk hbox; have GW199 := gS w hg (lU); have GE199 := gS w hg (lU); replace HB := bH (lU) hb; have NB28_199 := nL hg (bV BK28); have NB199_28 := nG hg (bV BK28); replace BK28 := bB (bV BK28) hb; clear hb hbox hg; have hnb11 := NB28_199.out; have hnc11 := NB199_28.out; have hcz12_0 := cz BK28 0 (.slice A1_0_0 l1_0_0.length c1_0_0); have hfz12_0 := fz BK28 0; have hcz13_0 := cz BK199 0 (.string a0_0); have hcz13_1 := cz BK199 1 (.slice A0_1 l0_1.length c0_1); have hcz13_2 := cz BK199 2 (.slice A0_2 l0_2.length c0_2); have hfz13_0 := fz BK199 0; have hfz13_1 := fz BK199 1; have hfz13_2 := fz BK199 2) | ((with_reducible refine gate_callee (f := 79) rfl ?_); refine goesL_ (some 7) rfl rfl Try.func79 (by kernel_rfl) rfl #[.slice A1_0_0 l1_0_0.length c1_0_0, .string a0_0] rfl aE ?_; (with_reducible refine (slices_Contains_string_string.calls k _ _ l1_0_0 a0_0 false _ ?side1 ?side2 A3.out).mono ?_); (case side1 => exact cU (Kd.C_below HR1_0_0.out HB.out)); (case side2 => exact HC1_0_0.out); rintro e w' ⟨rfl, ⟨nd, rfl⟩⟩; refine ⟨_, rfl, ?_⟩) | (go_at_call 36; (with_reducible refine (slices_ContainsFunc_w80.calls k _ _ l0_1 gb28 A1_0_0 c1_0_0 l1_0_0 t201 _ ?side1 ?side2 ?side3 ?side4 ?side5 A9.out).mono ?_); (case side1 => exact cU (Kd.C_below HR0_1.out (lV1 GE199))); (case side2 => exact HC0_1.out); (case side3 => exact cU (Kd.C_below HR1_0_0.out (lV1 GE199))); (case side4 => exact HC1_0_0.out); (case side5 => refine bU ?_; exact BK28.out); rintro e w14 ⟨rfl, hb⟩; replace BK28 := bB (bV BK28) hb; replace BK199 := bB (bV BK199) hb; replace HB := bH (lV1 GE199) hb; (try clear hb)))
  go_ret
  exact ⟨eE, lV1 GE199⟩
def slices_IndexFunc_w78.l0 : Nat → List (S63) → Int → Int → List ByteArray → Option (Int)
 | 0, _, _, _, _ => none
 | k + 1, x0, x7, x8, x29000 => if x8 < x7 then (if 0 ≤ x8 then (if x8 < (x0.length : Int) then ((impl_makeOrder_1.f k ((rd_T63 x0 x8).f0) ((rd_T63 x0 x8).f1) ((rd_T63 x0 x8).f2) x29000).bind fun t203 => (if t203 = true then (some x8) else (slices_IndexFunc_w78.l0 k x0 x7 (wrap64 (x8 + 1)) x29000))) else (none)) else (none)) else (some (-1))
def slices_IndexFunc_w78.f (k : Nat) (l0 : List (S63)) (l1_0_0 : List ByteArray) : Option (Int) := slices_IndexFunc_w78.l0 k l0 (l0.length : Int) 0 l1_0_0
theorem slices_IndexFunc_w78.mono_l : ∀ k, (∀ y0 y1 y2 y3, LeO (slices_IndexFunc_w78.l0 k y0 y1 y2 y3) (slices_IndexFunc_w78.l0 (k + 1) y0 y1 y2 y3))
 | 0 => fun _ _ _ _ r h => by simp [slices_IndexFunc_w78.l0] at h
 | k + 1 => by
  have ih0 := slices_IndexFunc_w78.mono_l k
  ·intro y0 y1 y2 y3
   unfold slices_IndexFunc_w78.l0
   repeat' first
   | (with_reducible exact ih0 _ _ _ _)
   | (with_reducible exact impl_makeOrder_1.mono _ _ _ _ _)
   | (with_reducible exact LeO.refl _)
   | (with_reducible exact LeO.none _)
   | (with_reducible refine LeO.ite ?_ ?_)
   | (with_reducible refine LeO.bind ?_ (fun _ => ?_))
   | exact ih0 _ _ _ _
   | exact impl_makeOrder_1.mono _ _ _ _ _
   | exact LeO.none _
   | refine LeO.ite ?_ ?_
   | refine LeO.bind ?_ (fun _ => ?_)
theorem slices_IndexFunc_w78.mono : ∀ a0 a1 k, LeO (slices_IndexFunc_w78.f k a0 a1) (slices_IndexFunc_w78.f (k + 1) a0 a1) := by
 intro a0 a1 k
 have ih0 := slices_IndexFunc_w78.mono_l k
 unfold slices_IndexFunc_w78.f
 repeat' first
   | (with_reducible exact ih0 _ _ _ _)
   | (with_reducible exact impl_makeOrder_1.mono _ _ _ _ _)
   | (with_reducible exact LeO.refl _)
   | (with_reducible exact LeO.none _)
   | (with_reducible refine LeO.ite ?_ ?_)
   | (with_reducible refine LeO.bind ?_ (fun _ => ?_))
   | exact ih0 _ _ _ _
   | exact impl_makeOrder_1.mono _ _ _ _ _
   | exact LeO.none _
   | refine LeO.ite ?_ ?_
   | refine LeO.bind ?_ (fun _ => ?_)
set_option maxHeartbeats 8000000 in
set_option maxRecDepth 100000 in
theorem slices_IndexFunc_w78.calls (k : Nat) (A0 : Option Addr) (c0 : Nat) (l0 : List (S63)) (gb28 : Nat) (A1_0_0 : Option Addr) (c1_0_0 : Nat) (l1_0_0 : List ByteArray) (r : Int) (w : World) (hr0 : Kd.C k63 w A0 l0.length l0) (hc0 : l0.length ≤ c0) (hr1_0_0 : Kd.C Kd.string w A1_0_0 l1_0_0.length l1_0_0) (hc1_0_0 : l1_0_0.length ≤ c1_0_0) (hk28 : w.heap[gb28]? = some (.cells #[.slice A1_0_0 l1_0_0.length c1_0_0] 29 (0, 0))) (h : slices_IndexFunc_w78.f k l0 l1_0_0 = some r) :
  Calls Try.prog 76 #[.slice A0 l0.length c0, .func (.func 78) #[] #[.pointer (some ⟨gb28, 0, none⟩)]] w fun e w' => e = .returned (.int .i64 r) ∧ Below w.heap.size w w' := by
 have hu63 := Try.underlying63
 have HR0 := Aside0.mk hr0
 have HC0 := Aside0.mk hc0
 clear hr0 hc0
 have HR1_0_0 := Aside0.mk hr1_0_0
 have HC1_0_0 := Aside0.mk hc1_0_0
 clear hr1_0_0 hc1_0_0
 have BK28 := Aside0.mk hk28
 clear hk28
 have HB := Aside0.mk (Below.refl w.heap.size w)
 have H : (slices_IndexFunc_w78.l0 k l0 (l0.length : Int) 0 l1_0_0) = some r := h
 clear h
 have H' := Aside0.mk H
 clear H
 go_enter Try.func76, Try.ntmps76
 go_wp2
 go_loopg [8] k (fun kq v8 w' => ∃ (x8_1 : Int), v8 = .int .i64 x8_1 ∧ Aside0 (slices_IndexFunc_w78.l0 kq l0 (l0.length : Int) x8_1 l1_0_0 = some r) ∧ Aside0 (kq ≤ k) ∧ Aside0 (w'.heap[gb28]? = some (.cells #[(.slice A1_0_0 l1_0_0.length c1_0_0)] 29 (0, 0))) ∧ Aside0 (Below w.heap.size w w'))
 case atStart => exact ⟨(0), tE, H', ⟨Nat.le_refl _⟩, ⟨by refine bU ?_; exact BK28.out⟩, ⟨by repeat (first | (with_reducible first | exact HB.out | apply below_alloc | apply pw_below_drewN | apply below_drew1) | exact HB.out)⟩⟩
 case round =>
  clear H'
  try clear c1
  try clear p2
  obtain ⟨x8_1, rfl, HA, HK1, BK28, HB⟩ := hrel
  cases gk with
  | zero => exact absurd HA.out (by simp [slices_IndexFunc_w78.l0])
  | succ k1 =>
   have H := HA.out
   clear HA
   simp only [slices_IndexFunc_w78.l0] at H
   by_cases c3 : x8_1 < (l0.length : Int)
   ·rw [if_pos c3] at H
    have c3b0 : decide (x8_1 < (l0.length : Int)) = true := decide_eq_true c3
    clear c3
    by_cases c4 : 0 ≤ x8_1
    ·rw [if_pos c4] at H
     have c4b0 : decide (0 ≤ x8_1) = true := decide_eq_true c4
     clear c4
     by_cases c5 : x8_1 < (l0.length : Int)
     ·rw [if_pos c5] at H
      have c5b0 : decide (x8_1 < (l0.length : Int)) = true := decide_eq_true c5
      clear c5
      replace H := Option.bind_eq_some_iff.mp H
      obtain ⟨t203, A60, H⟩ := H
      replace H : (if t203 = true then (some x8_1) else (slices_IndexFunc_w78.l0 k1 l0 (l0.length : Int) (wrap64 (x8_1 + 1)) l1_0_0)) = some r := H
      have A6 := Aside0.mk A60
      clear A60
      by_cases c7 : t203 = true
      ·subst c7
       have H1 : (some x8_1) = some r := by rw [if_pos rfl] at H; exact H
       clear H
       have H := H1
       clear H1
       obtain rfl := Option.some.inj H
       have p202 : 0 ≤ (x8_1 : Int) := of_decide_eq_true hE
       have q202 : x8_1 < (l0.length : Int) := of_decide_eq_true hE
       obtain ⟨ad202, A202_1, c202_1, A202_2, c202_2, e202, hx202_0, hx202_1, hx202_2, hl202_1, hi202_1, hl202_2, hi202_2⟩ := at_T63 HR0.out x8_1 p202 q202
       cases e202
       replace hx202_0 := (HB.out.cell (World.block_lt_of_cell? w _ hx202_0)).trans hx202_0
       replace hx202_1 := (HB.out.cell (World.block_lt_of_cell? w _ hx202_1)).trans hx202_1
       replace hx202_2 := (HB.out.cell (World.block_lt_of_cell? w _ hx202_2)).trans hx202_2
       have HR202_1 := Aside0.mk hi202_1
       have HC202_1 := Aside0.mk hl202_1
       clear hi202_1 hl202_1
       have HR202_2 := Aside0.mk hi202_2
       have HC202_2 := Aside0.mk hl202_2
       clear hi202_2 hl202_2
       replace p202 := eq_true p202
       replace q202 := eq_true q202
       go_wp2_with (first | ((with_reducible refine gateD_ rfl ?_); refine goesC_ (some 16) rfl rfl Try.func78 (by kernel_rfl) rfl rfl rfl #[.agg #[.string ((rd_T63 l0 x8_1).f0), .slice A202_1 ((rd_T63 l0 x8_1).f1).length c202_1, .slice A202_2 ((rd_T63 l0 x8_1).f2).length c202_2], .pointer (some ⟨gb28, 0, none⟩)] aE ?_; (with_reducible refine (impl_makeOrder_1.calls k1 ((rd_T63 l0 x8_1).f0) _ _ ((rd_T63 l0 x8_1).f1) _ _ ((rd_T63 l0 x8_1).f2) gb28 A1_0_0 c1_0_0 l1_0_0 true _ ?side1 ?side2 ?side3 ?side4 ?side5 ?side6 ?side7 A6.out).mono ?_); (case side1 => exact cU (Kd.C_below HR202_1.out HB.out)); (case side2 => exact HC202_1.out); (case side3 => exact cU (Kd.C_below HR202_2.out HB.out)); (case side4 => exact HC202_2.out); (case side5 => exact cU (Kd.C_below HR1_0_0.out HB.out)); (case side6 => exact HC1_0_0.out); (case side7 => refine bU ?_; exact BK28.out); rintro e w8 ⟨rfl, hb⟩; refine ⟨_, rfl, ?_⟩; replace BK28 := bB (bV BK28) hb; replace HB := bH (lU) hb; (try clear hb)))
       go_ret
       exact ⟨eE, lU⟩
      ·replace c7 := Bool.eq_false_iff.mpr c7
       subst c7
       have H1 : (slices_IndexFunc_w78.l0 k1 l0 (l0.length : Int) (wrap64 (x8_1 + 1)) l1_0_0) = some r := by rw [if_neg (show ¬ (false = true) by decide)] at H; exact H
       clear H
       have H := H1
       clear H1
       have H' := Aside0.mk H
       clear H
       have p202 : 0 ≤ (x8_1 : Int) := of_decide_eq_true hE
       have q202 : x8_1 < (l0.length : Int) := of_decide_eq_true hE
       obtain ⟨ad202, A202_1, c202_1, A202_2, c202_2, e202, hx202_0, hx202_1, hx202_2, hl202_1, hi202_1, hl202_2, hi202_2⟩ := at_T63 HR0.out x8_1 p202 q202
       cases e202
       replace hx202_0 := (HB.out.cell (World.block_lt_of_cell? w _ hx202_0)).trans hx202_0
       replace hx202_1 := (HB.out.cell (World.block_lt_of_cell? w _ hx202_1)).trans hx202_1
       replace hx202_2 := (HB.out.cell (World.block_lt_of_cell? w _ hx202_2)).trans hx202_2
       have HR202_1 := Aside0.mk hi202_1
       have HC202_1 := Aside0.mk hl202_1
       clear hi202_1 hl202_1
       have HR202_2 := Aside0.mk hi202_2
       have HC202_2 := Aside0.mk hl202_2
       clear hi202_2 hl202_2
       replace p202 := eq_true p202
       replace q202 := eq_true q202
       go_wp2_with (first | ((with_reducible refine gateD_ rfl ?_); refine goesC_ (some 16) rfl rfl Try.func78 (by kernel_rfl) rfl rfl rfl #[.agg #[.string ((rd_T63 l0 x8_1).f0), .slice A202_1 ((rd_T63 l0 x8_1).f1).length c202_1, .slice A202_2 ((rd_T63 l0 x8_1).f2).length c202_2], .pointer (some ⟨gb28, 0, none⟩)] aE ?_; (with_reducible refine (impl_makeOrder_1.calls k1 ((rd_T63 l0 x8_1).f0) _ _ ((rd_T63 l0 x8_1).f1) _ _ ((rd_T63 l0 x8_1).f2) gb28 A1_0_0 c1_0_0 l1_0_0 false _ ?side1 ?side2 ?side3 ?side4 ?side5 ?side6 ?side7 A6.out).mono ?_); (case side1 => exact cU (Kd.C_below HR202_1.out HB.out)); (case side2 => exact HC202_1.out); (case side3 => exact cU (Kd.C_below HR202_2.out HB.out)); (case side4 => exact HC202_2.out); (case side5 => exact cU (Kd.C_below HR1_0_0.out HB.out)); (case side6 => exact HC1_0_0.out); (case side7 => refine bU ?_; exact BK28.out); rintro e w9 ⟨rfl, hb⟩; refine ⟨_, rfl, ?_⟩; replace BK28 := bB (bV BK28) hb; replace HB := bH (lU) hb; (try clear hb)))
       go_roundg k1
       case measure => have := HK1.out; omega
       case rel => exact ⟨(wrap64 (x8_1 + 1)), tE, H', ⟨by have := HK1.out; omega⟩, ⟨by refine bU ?_; exact BK28.out⟩, ⟨by repeat (first | (with_reducible first | exact HB.out | apply below_alloc | apply pw_below_drewN | apply below_drew1) | exact HB.out)⟩⟩
     ·rw [if_neg c5] at H
      exact absurd H (by simp)
    ·rw [if_neg c4] at H
     exact absurd H (by simp)
   ·rw [if_neg c3] at H
    have c3b0 : decide (x8_1 < (l0.length : Int)) = false := decide_eq_false c3
    clear c3
    obtain rfl := Option.some.inj H
    go_wp2
    go_ret
    exact ⟨eE, lU⟩
def impl_makeOrder.l0 : Nat → List (S63) → List ByteArray → Option (List ByteArray)
 | 0, _, _ => none
 | k + 1, x0, x208000 => (slices_IndexFunc_w78.f k x0 x208000).bind fun t208 => (if t208 < 0 then (some x208000) else (if 0 ≤ t208 then (if t208 < (x0.length : Int) then (if x208000.length < 8796093022208 then (impl_makeOrder.l0 k x0 (x208000 ++ [(rd_T63 x0 t208).f0])) else (none)) else (none)) else (none)))
def impl_makeOrder.f (k : Nat) (l0 : List (S63)) : Option (List ByteArray) := impl_makeOrder.l0 k l0 (([] : List ByteArray))
theorem impl_makeOrder.mono_l : ∀ k, (∀ y0 y1, LeO (impl_makeOrder.l0 k y0 y1) (impl_makeOrder.l0 (k + 1) y0 y1))
 | 0 => fun _ _ r h => by simp [impl_makeOrder.l0] at h
 | k + 1 => by
  have ih0 := impl_makeOrder.mono_l k
  ·intro y0 y1
   unfold impl_makeOrder.l0
   repeat' first
   | (with_reducible exact ih0 _ _)
   | (with_reducible exact slices_IndexFunc_w78.mono _ _ _)
   | (with_reducible exact LeO.refl _)
   | (with_reducible exact LeO.none _)
   | (with_reducible refine LeO.ite ?_ ?_)
   | (with_reducible refine LeO.bind ?_ (fun _ => ?_))
   | exact ih0 _ _
   | exact slices_IndexFunc_w78.mono _ _ _
   | exact LeO.none _
   | refine LeO.ite ?_ ?_
   | refine LeO.bind ?_ (fun _ => ?_)
theorem impl_makeOrder.mono : ∀ a0 k, LeO (impl_makeOrder.f k a0) (impl_makeOrder.f (k + 1) a0) := by
 intro a0 k
 have ih0 := impl_makeOrder.mono_l k
 unfold impl_makeOrder.f
 repeat' first
   | (with_reducible exact ih0 _ _)
   | (with_reducible exact slices_IndexFunc_w78.mono _ _ _)
   | (with_reducible exact LeO.refl _)
   | (with_reducible exact LeO.none _)
   | (with_reducible refine LeO.ite ?_ ?_)
   | (with_reducible refine LeO.bind ?_ (fun _ => ?_))
   | exact ih0 _ _
   | exact slices_IndexFunc_w78.mono _ _ _
   | exact LeO.none _
   | refine LeO.ite ?_ ?_
   | refine LeO.bind ?_ (fun _ => ?_)
def impl_makeOrder.T5 : Bool × List (List Nat × List Nat) := (true, [([], []), ([], []), ([], []), ([1, 2], [1, 2]), ([3], [3]), ([4], [4]), ([5], [5]), ([0, 6], [0, 6]), ([7, 7, 0, 1, 2, 3, 4, 5, 6, 7], [7])])
def impl_makeOrder.B5 : List Nat := [0, 0, 0, 6, 14, 30, 62, 127, 255]
theorem impl_makeOrder.tab5 : rtab .any (opsOf Try.f39 5) = impl_makeOrder.T5 := by kernel_rfl
theorem impl_makeOrder.bits5 : waitsOk impl_makeOrder.T5.2 impl_makeOrder.B5 = true := by kernel_rfl
set_option maxHeartbeats 8000000 in
set_option maxRecDepth 100000 in
theorem impl_makeOrder.calls (k : Nat) (A0 : Option Addr) (c0 : Nat) (l0 : List (S63)) (r : List ByteArray) (w : World) (hr0 : Kd.C k63 w A0 l0.length l0) (hc0 : l0.length ≤ c0) (h : impl_makeOrder.f k l0 = some r) :
  Calls Try.prog 39 #[.slice A0 l0.length c0] w fun e w' => ∃ v0_ : Value, e = .returned (v0_) ∧ Kd.R Kd.string 9 w' w.heap.size (fun _ => True) v0_ r ∧ Below w.heap.size w w' := by
 have hu29 := Try.underlying29
 have HR0 := Aside0.mk hr0
 have HC0 := Aside0.mk hc0
 clear hr0 hc0
 have HB := Aside0.mk (Below.refl w.heap.size w)
 have H : (impl_makeOrder.l0 k l0 (([] : List ByteArray))) = some r := h
 clear h
 obtain ⟨y204, hy204⟩ : ∃ y_ : List ByteArray, y_ = (([] : List ByteArray)) := ⟨_, rfl⟩
 replace H : (impl_makeOrder.l0 k l0 y204) = some r := by first | (rw [hy204]; with_reducible exact H) | (have H2_ := (Option.bind_some _ _).symm.trans H; rw [hy204]; with_reducible exact H2_) | (have H2_ := (Option.bind_some _ _).symm.trans H; with_reducible exact H2_) | with_reducible exact H | (rw [hy204]; exact H) | exact H
 have Ny204 := Aside0.mk hy204
 clear hy204
 have H' := Aside0.mk H
 clear H
 go_enter Try.func39, Try.ntmps39
 go_wp2_with (first | ((with_reducible refine gate_dst (N := 5) rfl ?_); refine Kd.R_lit Kd.string _ 9 ?hg (N := 5) ?hd (xs := ([] : List ByteArray)) (inner := []) (ok := fun _ => True) (okp := fun _ => True) ?hr ?hp (fun _ hk => hk) trivial (Below.refl _ _) (Nat.le_refl _) (by simp) ?_; (case hd => rfl); (case hg => rfl); (case hr => exact sE); (case hp => exact (Reps.none _ _)); intro v205 w2 ho3 hb hg_ hnew_; clear hg_ hnew_; (first | rw [← Ny204.out] at ho3 | (simp only [Int.reduceToNat] at ho3; rw [← Ny204.out] at ho3)); have HO206 := Aside0.mk (Kd.R_lower ho3 (below_size (lU))); replace HB := bH (lU) hb; clear hb ho3) | ((with_reducible refine gate_dst (N := 3) rfl ?_); refine box_event rfl (N := 3) rfl (cs := #[.slice none 0 0]) (t := 29) sE ?_; intro gb207 hg w4 hbox hb; replace HO206 := Aside0.mk (Kd.R_below (rU HO206.out) hb); have BK207 := Aside0.mk hbox; have GW207 := gS w hg (lU); have GE207 := gS w hg (lU); replace HB := bH (lU) hb; clear hb hbox hg; obtain ⟨Ao5, co5, eo5⟩ := Kd.R_slice HO206.out; subst eo5; have hcz6_0 := cz BK207 0 (.slice none 0 0); have hfz6_0 := fz BK207 0) | ((with_reducible refine gate_store (t := 29) (p := 3) rfl ?_); refine store_event (t := 29) (p := 3) (v := ?vo_w7) (w1 := (w4.setCell ⟨gb207, 0, none⟩ (.slice Ao5 y204.length co5))) ?hg ?ho ?hn ?hr ?_; (case ho => rfl); (case hg => rfl); (case hn => rfl); (case hr => first | (go_simp; done) | (go_simp; rfl) | (have hq0_ := (blk_cell BK207.out 0).trans (show _ = some _ from rfl); have hf0_ := blk_frozen BK207.out 0; first | (go_simp; done) | (go_simp; rfl))); intro w7 hw; replace HO206 : Aside0 (Kd.R Kd.string 9 w7 w.heap.size (fun _ => True) (.slice Ao5 y204.length co5) y204) := ⟨(by rw [hw]; exact (by (with_reducible repeat (first | apply Kd.R_alloc | apply Kd.R_drewN | apply Kd.R_drew)); exact Kd.R_mono (Kd.R_far (p := ⟨gb207, 0, none⟩) (Kd.R_types HO206.out BK207.out (by decide)) (fun _ hk => hk.2) (.slice Ao5 y204.length co5)) (fun _ hk => trivial)))⟩; replace BK207 : Aside0 (w7.heap[gb207]? = some (.cells #[.slice Ao5 y204.length co5] 29 (0, 0))) := ⟨(by rw [hw]; exact (by refine bU ?_; refine blk_put (cs := #[.slice none 0 0]) ?_ 0 _ rfl; refine bU ?_; exact BK207.out))⟩; replace HB : Aside0 (Below w.heap.size w w7) := ⟨(by rw [hw]; exact (lV1 GE207))⟩; clear hw))
 (try simp only [Act.put, List.setIfInBounds_toArray, List.set_cons_zero, List.set_cons_succ])
 go_loopg [] k (fun kq w' => ∃ (x208000_1 : List ByteArray) (u208000 : Value), Aside0 (impl_makeOrder.l0 kq l0 x208000_1 = some r) ∧ Aside0 (kq ≤ k) ∧ Aside0 (Kd.R Kd.string 9 w' w.heap.size (fun _ => True) u208000 x208000_1) ∧ Aside0 (w'.heap[gb207]? = some (.cells #[u208000] 29 (0, 0))) ∧ Aside0 (Below w.heap.size w w'))
 case atStart => exact ⟨(y204), (.slice Ao5 y204.length co5), H', ⟨Nat.le_refl _⟩, ⟨by (with_reducible repeat (first | apply Kd.R_alloc | apply Kd.R_drewN | apply Kd.R_drew)); exact HO206.out⟩, ⟨by refine bU ?_; exact BK207.out⟩, ⟨by repeat (first | (with_reducible first | exact HB.out | apply below_alloc | apply pw_below_drewN | apply below_drew1 | refine below_set ?_ GE207.out) | exact HB.out)⟩⟩
 case round =>
  clear H'
  try clear p2
  try clear c3
  try clear hcz6_0
  try clear hfz6_0
  obtain ⟨x208000_1, u208000, HA, HK1, HO_208000, BK207, HB⟩ := hrel
  cases gk with
  | zero => exact absurd HA.out (by simp [impl_makeOrder.l0])
  | succ k1 =>
   have H := HA.out
   clear HA
   simp only [impl_makeOrder.l0] at H
   replace H := Option.bind_eq_some_iff.mp H
   obtain ⟨t208, A80, H⟩ := H
   replace H : (if t208 < 0 then (some x208000_1) else (if 0 ≤ t208 then (if t208 < (l0.length : Int) then (if x208000_1.length < 8796093022208 then (impl_makeOrder.l0 k1 l0 (x208000_1 ++ [(rd_T63 l0 t208).f0])) else (none)) else (none)) else (none))) = some r := H
   have A8 := Aside0.mk A80
   clear A80
   by_cases c9 : t208 < 0
   ·rw [if_pos c9] at H
    have c9b0 : decide (t208 < 0) = true := decide_eq_true c9
    clear c9
    obtain rfl := Option.some.inj H
    obtain ⟨Ao10, co10, eo10⟩ := Kd.R_slice HO_208000.out
    subst eo10
    go_wp2_with (first | ((with_reducible refine gate_callee (f := 76) rfl ?_); refine goesL_ (some 8) rfl rfl Try.func76 (by kernel_rfl) rfl #[.slice A0 l0.length c0, .func (.func 78) #[] #[.pointer (some ⟨gb207, 0, none⟩)]] rfl aE ?_; (with_reducible refine (slices_IndexFunc_w78.calls k1 _ _ l0 gb207 Ao10 co10 x208000_1 t208 _ ?side1 ?side2 ?side3 ?side4 ?side5 A8.out).mono ?_); (case side1 => exact cU (Kd.C_below HR0.out HB.out)); (case side2 => exact HC0.out); (case side3 => exact cU (Kd.R_reads' HO_208000.out).2.2); (case side4 => exact (Kd.R_reads' HO_208000.out).2.1); (case side5 => refine bU ?_; exact BK207.out); rintro e w11 ⟨rfl, hb⟩; refine ⟨_, rfl, ?_⟩; replace HO_208000 := Aside0.mk (Kd.R_below (rU HO_208000.out) hb); replace BK207 := bB (bV BK207) hb; replace HB := bH (lV1 GE207) hb; (try clear hb); have hcz12_0 := cz BK207 0 (.slice Ao10 x208000_1.length co10); have hfz12_0 := fz BK207 0))
    go_ret
    exact ⟨_, eE, by (with_reducible repeat (first | apply Kd.R_alloc | apply Kd.R_drewN | apply Kd.R_drew)); exact HO_208000.out, lV1 GE207⟩
   ·rw [if_neg c9] at H
    have c9b0 : decide (t208 < 0) = false := decide_eq_false c9
    clear c9
    by_cases c13 : 0 ≤ t208
    ·rw [if_pos c13] at H
     have c13b0 : decide (0 ≤ t208) = true := decide_eq_true c13
     clear c13
     by_cases c14 : t208 < (l0.length : Int)
     ·rw [if_pos c14] at H
      have c14b0 : decide (t208 < (l0.length : Int)) = true := decide_eq_true c14
      clear c14
      by_cases c15 : x208000_1.length < 8796093022208
      ·rw [if_pos c15] at H
       have LMc15 := Aside0.mk c15
       clear c15
       obtain ⟨y210, hy210⟩ : ∃ y_ : List ByteArray, y_ = (x208000_1 ++ [(rd_T63 l0 t208).f0]) := ⟨_, rfl⟩
       replace H : (impl_makeOrder.l0 k1 l0 y210) = some r := by first | (rw [hy210]; with_reducible exact H) | (have H2_ := (Option.bind_some _ _).symm.trans H; rw [hy210]; with_reducible exact H2_) | (have H2_ := (Option.bind_some _ _).symm.trans H; with_reducible exact H2_) | with_reducible exact H | (rw [hy210]; exact H) | exact H
       have Ny210 := Aside0.mk hy210
       clear hy210
       have H' := Aside0.mk H
       clear H
       obtain ⟨Ao16, co16, eo16⟩ := Kd.R_slice HO_208000.out
       subst eo16
       try go_wp2_with (first | ((with_reducible refine gate_callee (f := 76) rfl ?_); refine goesL_ (some 8) rfl rfl Try.func76 (by kernel_rfl) rfl #[.slice A0 l0.length c0, .func (.func 78) #[] #[.pointer (some ⟨gb207, 0, none⟩)]] rfl aE ?_; (with_reducible refine (slices_IndexFunc_w78.calls k1 _ _ l0 gb207 Ao16 co16 x208000_1 t208 _ ?side1 ?side2 ?side3 ?side4 ?side5 A8.out).mono ?_); (case side1 => exact cU (Kd.C_below HR0.out HB.out)); (case side2 => exact HC0.out); (case side3 => exact cU (Kd.R_reads' HO_208000.out).2.2); (case side4 => exact (Kd.R_reads' HO_208000.out).2.1); (case side5 => refine bU ?_; exact BK207.out); rintro e w17 ⟨rfl, hb⟩; refine ⟨_, rfl, ?_⟩; replace HO_208000 := Aside0.mk (Kd.R_below (rU HO_208000.out) hb); replace BK207 := bB (bV BK207) hb; replace HB := bH (lV1 GE207) hb; (try clear hb)))
       replace HO_208000 := Aside0.mk (Kd.R_drew HO_208000.out)
       replace BK207 := Aside0.mk (blk_drew BK207.out)
       replace HB := Aside0.mk (below_drew1 HB.out)
       have p209 : 0 ≤ (t208 : Int) := of_decide_eq_true hE
       have q209 : t208 < (l0.length : Int) := of_decide_eq_true hE
       obtain ⟨ad209, A209_1, c209_1, A209_2, c209_2, e209, hx209_0, hx209_1, hx209_2, hl209_1, hi209_1, hl209_2, hi209_2⟩ := at_T63 HR0.out t208 p209 q209
       have hw209_2 := hx209_2
       have hw209_1 := hx209_1
       have hw209_0 := hx209_0
       cases e209
       replace hx209_0 := (HB.out.cell (World.block_lt_of_cell? w _ hx209_0)).trans hx209_0
       replace hx209_1 := (HB.out.cell (World.block_lt_of_cell? w _ hx209_1)).trans hx209_1
       replace hx209_2 := (HB.out.cell (World.block_lt_of_cell? w _ hx209_2)).trans hx209_2
       have HR209_1 := Aside0.mk hi209_1
       have HC209_1 := Aside0.mk hl209_1
       clear hi209_1 hl209_1
       have HR209_2 := Aside0.mk hi209_2
       have HC209_2 := Aside0.mk hl209_2
       clear hi209_2 hl209_2
       replace p209 := eq_true p209
       replace q209 := eq_true q209
       refine start_ (n := 9) (S := fun w' => w'.cell? ⟨gb207, 0, none⟩ = some (.slice Ao16 x208000_1.length co16) ∧ w'.cell? (ad209.add ((t208).toNat * 3)) = some (.string ((rd_T63 l0 t208).f0)) ∧ w'.cell? ⟨(ad209.add ((t208).toNat * 3)).block, (ad209.add ((t208).toNat * 3)).off + 1, none⟩ = some (.slice A209_1 ((rd_T63 l0 t208).f1).length c209_1) ∧ w'.cell? ⟨(ad209.add ((t208).toNat * 3)).block, (ad209.add ((t208).toNat * 3)).off + 2, none⟩ = some (.slice A209_2 ((rd_T63 l0 t208).f2).length c209_2)) (ds := [8]) #[false, false, false, false, false, false, false, false, false] (by kernel_rfl) rfl rfl ⟨cz BK207 0 _, ((HB.out.cell (World.block_lt_of_cell? w _ hw209_0)).trans hw209_0), ((HB.out.cell (World.block_lt_of_cell? w _ hw209_1)).trans hw209_1), ((HB.out.cell (World.block_lt_of_cell? w _ hw209_2)).trans hw209_2)⟩ (fun hHeld => ?_); refine with_tabW impl_makeOrder.tab5 impl_makeOrder.bits5 (fun HT_ HW_ => ?_)
       generalize w17.drew = w18 at HO_208000 BK207 HB HR209_1 HR209_2 hx209_0 hx209_1 hx209_2 hHeld ⊢
       refine pureA 1 13 (bz 9 2) rfl rfl (any_of HT_.out (by kernel_rfl)) ?_
       refine pureA 2 14 (bz 9 6) rfl rfl (any_of HT_.out (by kernel_rfl)) ?_
       refine pureA 3 15 (bz 9 14) rfl rfl (any_of HT_.out (by kernel_rfl)) ?_
       refine pureA 4 16 (bz 9 30) rfl rfl (any_of HT_.out (by kernel_rfl)) ?_
       refine takeA 0 12 (bz 9 31) rfl rfl (take_ofW HT_.out HW_.out (by kernel_rfl)) hHeld (by rintro w' ⟨s0, s1, s2, s3⟩; go_simp; with_reducible rfl) ?_
       refine takeA 5 17 (bz 9 63) rfl rfl (take_ofW HT_.out HW_.out (by kernel_rfl)) hHeld (by rintro w' ⟨s0, s1, s2, s3⟩; go_simp; with_reducible rfl) ?_
       refine one_ (i := 6) (N := some 18) (bz 9 127) rfl rfl (one_of HT_.out (by kernel_rfl)) (by decide) (fun K hK => ?_)
       refine value_ (w1 := ?_) (v := ?_) (by rfl) rfl ?_ ?_
       rotate_left 2
       ·go_simp
        constructor
        ·rfl
        ·rfl
       refine hK.out _ _ ⟨(blk_cell (blk_alloc BK207.out _) 0).trans rfl, (World.cell?_alloc_lt _ _ _ (World.block_lt_of_cell? _ _ (((HB.out.cell (World.block_lt_of_cell? w _ hw209_0)).trans hw209_0)))).trans (((HB.out.cell (World.block_lt_of_cell? w _ hw209_0)).trans hw209_0)), (World.cell?_alloc_lt _ _ _ (World.block_lt_of_cell? _ _ (((HB.out.cell (World.block_lt_of_cell? w _ hw209_1)).trans hw209_1)))).trans (((HB.out.cell (World.block_lt_of_cell? w _ hw209_1)).trans hw209_1)), (World.cell?_alloc_lt _ _ _ (World.block_lt_of_cell? _ _ (((HB.out.cell (World.block_lt_of_cell? w _ hw209_2)).trans hw209_2)))).trans (((HB.out.cell (World.block_lt_of_cell? w _ hw209_2)).trans hw209_2))⟩ (fun hHeld => ?_)
       clear hK K
       refine norm_ (a' := ?_) ?_ ?_
       rotate_left
       ·show Act.put _ (some 18) _ = _
        simp only [Act.put, List.setIfInBounds_toArray, List.set_cons_zero, List.set_cons_succ, i64_w, i32_w]
        rfl
       refine one_ (i := 7) (N := some 19) (bz 9 255) rfl rfl (one_of HT_.out (by kernel_rfl)) (by decide) (fun K hK => ?_)
       refine Kd.R_append_step Kd.string (w0 := w) w.heap.size (by rfl) (.tmp 12) (.tmp 18) 29 9 (.string ⟨#[]⟩) 16 rfl Try.underlying29 info9 rfl (by decide) (by omega) (.slice Ao16 x208000_1.length co16) x208000_1 ((rd_T63 l0 t208).f0) [.string ((rd_T63 l0 t208).f0)] (fun _ => True) (fun _ => False) rfl rfl ?aP (fun _ hk => hk.elim) ?aF ?aO ?aB ?aS ?aL ?_
       (case aP => exact rfl)
       (case aB => exact (lV1 GE207))
       (case aF => exact (fun _ _ => trivial))
       (case aO => exact (rU HO_208000.out))
       (case aS => exact (below_size (lV1 GE207)))
       (case aL => have := LMc15.out; omega)
       intro v211 w19 ho hb hg hat
       rw [← Ny210.out] at ho
       replace BK207 := Aside0.mk (blk_grown (g := gb207) (o := .cells #[.slice Ao16 x208000_1.length co16] 29 (0, 0)) (bV BK207) hg (Kd.R_ne HO_208000.out BK207.out (by decide)))
       replace HB := Aside0.mk hb
       have HO212 := Aside0.mk ho
       clear HO_208000
       clear ho hb hg hat
       obtain ⟨Ao20, co20, eo20⟩ := Kd.R_slice HO212.out
       (first | subst eo20 | (injection eo20 with f1_ f2_ f3_; have f4_ := f1_.symm; have f5_ := f3_.symm; clear f1_ f2_ f3_; subst f4_; subst f5_))
       refine hK.out _ _ ⟨cz BK207 0 _, ((HB.out.cell (World.block_lt_of_cell? w _ hw209_0)).trans hw209_0), ((HB.out.cell (World.block_lt_of_cell? w _ hw209_1)).trans hw209_1), ((HB.out.cell (World.block_lt_of_cell? w _ hw209_2)).trans hw209_2)⟩ (fun hHeld => ?_)
       clear hK K
       refine norm_ (a' := ?_) ?_ ?_
       rotate_left
       ·show Act.put _ (some 19) _ = _
        simp only [Act.put, List.setIfInBounds_toArray, List.set_cons_zero, List.set_cons_succ, i64_w, i32_w]
        rfl
       refine last_ (i := 8) (N := none) (bz 9 511) rfl rfl (one_of HT_.out (by kernel_rfl)) (by decide) (fun K hK => ?_)
       have hs21 : w19.cell? ⟨gb207, 0, none⟩ = some (.slice Ao16 x208000_1.length co16) := (blk_cell BK207.out 0).trans rfl
       have hfs21 := blk_frozen BK207.out 0
       refine skip_ (w1 := ?_) (by rfl) rfl ?_ ?_
       rotate_left
       ·go_simp
        rfl
       refine hK.out _ _ ?_
       clear hK K
       refine done_ (done_of HT_.out (by kernel_rfl)) ?_
       try go_wp2
       go_roundg k1
       case measure => have := HK1.out; omega
       case rel => exact ⟨(y210), (.slice Ao20 y210.length co20), H', ⟨by have := HK1.out; omega⟩, ⟨by (with_reducible repeat (first | apply Kd.R_alloc | apply Kd.R_drewN | apply Kd.R_drew)); exact Kd.R_mono (Kd.R_far (p := ⟨gb207, 0, none⟩) (Kd.R_types HO212.out BK207.out (by decide)) (fun _ hk => hk.2) (.slice Ao20 y210.length co20)) (fun _ hk => trivial)⟩, ⟨by refine bU ?_; refine blk_put (cs := #[.slice Ao16 x208000_1.length co16]) ?_ 0 _ rfl; refine bU ?_; exact BK207.out⟩, ⟨by repeat (first | (with_reducible first | exact HB.out | apply below_alloc | apply pw_below_drewN | apply below_drew1 | refine below_set ?_ GE207.out) | exact HB.out)⟩⟩
      ·rw [if_neg c15] at H
       exact absurd H (by simp)
     ·rw [if_neg c14] at H
      exact absurd H (by simp)
    ·rw [if_neg c13] at H
     exact absurd H (by simp)
def slices_IndexFunc_w37.l0 : Nat → List ByteArray → Int → Int → List (S63) → Option (Int)
 | 0, _, _, _, _ => none
 | k + 1, x0, x7, x8, x29000 => if x8 < x7 then (if 0 ≤ x8 then (if x8 < (x0.length : Int) then ((impl_GoodAssets_1.f k (rdOf ByteArray.empty x0 x8) x29000).bind fun t214 => (if t214 = true then (some x8) else (slices_IndexFunc_w37.l0 k x0 x7 (wrap64 (x8 + 1)) x29000))) else (none)) else (none)) else (some (-1))
def slices_IndexFunc_w37.f (k : Nat) (l0 : List ByteArray) (l1_0_0 : List (S63)) : Option (Int) := slices_IndexFunc_w37.l0 k l0 (l0.length : Int) 0 l1_0_0
theorem slices_IndexFunc_w37.mono_l : ∀ k, (∀ y0 y1 y2 y3, LeO (slices_IndexFunc_w37.l0 k y0 y1 y2 y3) (slices_IndexFunc_w37.l0 (k + 1) y0 y1 y2 y3))
 | 0 => fun _ _ _ _ r h => by simp [slices_IndexFunc_w37.l0] at h
 | k + 1 => by
  have ih0 := slices_IndexFunc_w37.mono_l k
  ·intro y0 y1 y2 y3
   unfold slices_IndexFunc_w37.l0
   repeat' first
   | (with_reducible exact ih0 _ _ _ _)
   | (with_reducible exact impl_GoodAssets_1.mono _ _ _)
   | (with_reducible exact LeO.refl _)
   | (with_reducible exact LeO.none _)
   | (with_reducible refine LeO.ite ?_ ?_)
   | (with_reducible refine LeO.bind ?_ (fun _ => ?_))
   | exact ih0 _ _ _ _
   | exact impl_GoodAssets_1.mono _ _ _
   | exact LeO.none _
   | refine LeO.ite ?_ ?_
   | refine LeO.bind ?_ (fun _ => ?_)
theorem slices_IndexFunc_w37.mono : ∀ a0 a1 k, LeO (slices_IndexFunc_w37.f k a0 a1) (slices_IndexFunc_w37.f (k + 1) a0 a1) := by
 intro a0 a1 k
 have ih0 := slices_IndexFunc_w37.mono_l k
 unfold slices_IndexFunc_w37.f
 repeat' first
   | (with_reducible exact ih0 _ _ _ _)
   | (with_reducible exact impl_GoodAssets_1.mono _ _ _)
   | (with_reducible exact LeO.refl _)
   | (with_reducible exact LeO.none _)
   | (with_reducible refine LeO.ite ?_ ?_)
   | (with_reducible refine LeO.bind ?_ (fun _ => ?_))
   | exact ih0 _ _ _ _
   | exact impl_GoodAssets_1.mono _ _ _
   | exact LeO.none _
   | refine LeO.ite ?_ ?_
   | refine LeO.bind ?_ (fun _ => ?_)
set_option maxHeartbeats 8000000 in
set_option maxRecDepth 100000 in
theorem slices_IndexFunc_w37.calls (k : Nat) (A0 : Option Addr) (c0 : Nat) (l0 : List ByteArray) (gb28 : Nat) (A1_0_0 : Option Addr) (c1_0_0 : Nat) (l1_0_0 : List (S63)) (r : Int) (w : World) (hr0 : Kd.C Kd.string w A0 l0.length l0) (hc0 : l0.length ≤ c0) (hr1_0_0 : Kd.C k63 w A1_0_0 l1_0_0.length l1_0_0) (hc1_0_0 : l1_0_0.length ≤ c1_0_0) (hk28 : w.heap[gb28]? = some (.cells #[.slice A1_0_0 l1_0_0.length c1_0_0] 25 (0, 0))) (h : slices_IndexFunc_w37.f k l0 l1_0_0 = some r) :
  Calls Try.prog 75 #[.slice A0 l0.length c0, .func (.func 37) #[] #[.pointer (some ⟨gb28, 0, none⟩)]] w fun e w' => e = .returned (.int .i64 r) ∧ Below w.heap.size w w' := by
 have HR0 := Aside0.mk hr0
 have HC0 := Aside0.mk hc0
 clear hr0 hc0
 have HR1_0_0 := Aside0.mk hr1_0_0
 have HC1_0_0 := Aside0.mk hc1_0_0
 clear hr1_0_0 hc1_0_0
 have BK28 := Aside0.mk hk28
 clear hk28
 have HB := Aside0.mk (Below.refl w.heap.size w)
 have H : (slices_IndexFunc_w37.l0 k l0 (l0.length : Int) 0 l1_0_0) = some r := h
 clear h
 have H' := Aside0.mk H
 clear H
 go_enter Try.func75, Try.ntmps75
 go_wp2
 go_loopg [8] k (fun kq v8 w' => ∃ (x8_1 : Int), v8 = .int .i64 x8_1 ∧ Aside0 (slices_IndexFunc_w37.l0 kq l0 (l0.length : Int) x8_1 l1_0_0 = some r) ∧ Aside0 (kq ≤ k) ∧ Aside0 (w'.heap[gb28]? = some (.cells #[(.slice A1_0_0 l1_0_0.length c1_0_0)] 25 (0, 0))) ∧ Aside0 (Below w.heap.size w w'))
 case atStart => exact ⟨(0), tE, H', ⟨Nat.le_refl _⟩, ⟨by refine bU ?_; exact BK28.out⟩, ⟨by repeat (first | (with_reducible first | exact HB.out | apply below_alloc | apply pw_below_drewN | apply below_drew1) | exact HB.out)⟩⟩
 case round =>
  clear H'
  try clear c1
  try clear p2
  obtain ⟨x8_1, rfl, HA, HK1, BK28, HB⟩ := hrel
  cases gk with
  | zero => exact absurd HA.out (by simp [slices_IndexFunc_w37.l0])
  | succ k1 =>
   have H := HA.out
   clear HA
   simp only [slices_IndexFunc_w37.l0] at H
   by_cases c3 : x8_1 < (l0.length : Int)
   ·rw [if_pos c3] at H
    have c3b0 : decide (x8_1 < (l0.length : Int)) = true := decide_eq_true c3
    clear c3
    by_cases c4 : 0 ≤ x8_1
    ·rw [if_pos c4] at H
     have c4b0 : decide (0 ≤ x8_1) = true := decide_eq_true c4
     clear c4
     by_cases c5 : x8_1 < (l0.length : Int)
     ·rw [if_pos c5] at H
      have c5b0 : decide (x8_1 < (l0.length : Int)) = true := decide_eq_true c5
      clear c5
      replace H := Option.bind_eq_some_iff.mp H
      obtain ⟨t214, A60, H⟩ := H
      replace H : (if t214 = true then (some x8_1) else (slices_IndexFunc_w37.l0 k1 l0 (l0.length : Int) (wrap64 (x8_1 + 1)) l1_0_0)) = some r := H
      have A6 := Aside0.mk A60
      clear A60
      by_cases c7 : t214 = true
      ·subst c7
       have H1 : (some x8_1) = some r := by rw [if_pos rfl] at H; exact H
       clear H
       have H := H1
       clear H1
       obtain rfl := Option.some.inj H
       have p213 : 0 ≤ (x8_1 : Int) := of_decide_eq_true hE
       have q213 : x8_1 < (l0.length : Int) := of_decide_eq_true hE
       obtain ⟨ad213, e213, hx213_0⟩ := Kd.at_string HR0.out x8_1 p213 q213
       cases e213
       replace hx213_0 := (HB.out.cell (World.block_lt_of_cell? w _ hx213_0)).trans hx213_0
       replace p213 := eq_true p213
       replace q213 := eq_true q213
       go_wp2_with (first | ((with_reducible refine gateD_ rfl ?_); refine goesC_ (some 16) rfl rfl Try.func37 (by kernel_rfl) rfl rfl rfl #[.string (rdOf ByteArray.empty l0 x8_1), .pointer (some ⟨gb28, 0, none⟩)] aE ?_; (with_reducible refine (impl_GoodAssets_1.calls k1 (rdOf ByteArray.empty l0 x8_1) gb28 A1_0_0 c1_0_0 l1_0_0 true _ ?side1 ?side2 ?side3 A6.out).mono ?_); (case side1 => exact cU (Kd.C_below HR1_0_0.out HB.out)); (case side2 => exact HC1_0_0.out); (case side3 => refine bU ?_; exact BK28.out); rintro e w8 ⟨rfl, hb⟩; refine ⟨_, rfl, ?_⟩; replace BK28 := bB (bV BK28) hb; replace HB := bH (lU) hb; (try clear hb)))
       go_ret
       exact ⟨eE, lU⟩
      ·replace c7 := Bool.eq_false_iff.mpr c7
       subst c7
       have H1 : (slices_IndexFunc_w37.l0 k1 l0 (l0.length : Int) (wrap64 (x8_1 + 1)) l1_0_0) = some r := by rw [if_neg (show ¬ (false = true) by decide)] at H; exact H
       clear H
       have H := H1
       clear H1
       have H' := Aside0.mk H
       clear H
       have p213 : 0 ≤ (x8_1 : Int) := of_decide_eq_true hE
       have q213 : x8_1 < (l0.length : Int) := of_decide_eq_true hE
       obtain ⟨ad213, e213, hx213_0⟩ := Kd.at_string HR0.out x8_1 p213 q213
       cases e213
       replace hx213_0 := (HB.out.cell (World.block_lt_of_cell? w _ hx213_0)).trans hx213_0
       replace p213 := eq_true p213
       replace q213 := eq_true q213
       go_wp2_with (first | ((with_reducible refine gateD_ rfl ?_); refine goesC_ (some 16) rfl rfl Try.func37 (by kernel_rfl) rfl rfl rfl #[.string (rdOf ByteArray.empty l0 x8_1), .pointer (some ⟨gb28, 0, none⟩)] aE ?_; (with_reducible refine (impl_GoodAssets_1.calls k1 (rdOf ByteArray.empty l0 x8_1) gb28 A1_0_0 c1_0_0 l1_0_0 false _ ?side1 ?side2 ?side3 A6.out).mono ?_); (case side1 => exact cU (Kd.C_below HR1_0_0.out HB.out)); (case side2 => exact HC1_0_0.out); (case side3 => refine bU ?_; exact BK28.out); rintro e w9 ⟨rfl, hb⟩; refine ⟨_, rfl, ?_⟩; replace BK28 := bB (bV BK28) hb; replace HB := bH (lU) hb; (try clear hb)))
       go_roundg k1
       case measure => have := HK1.out; omega
       case rel => exact ⟨(wrap64 (x8_1 + 1)), tE, H', ⟨by have := HK1.out; omega⟩, ⟨by refine bU ?_; exact BK28.out⟩, ⟨by repeat (first | (with_reducible first | exact HB.out | apply below_alloc | apply pw_below_drewN | apply below_drew1) | exact HB.out)⟩⟩
     ·rw [if_neg c5] at H
      exact absurd H (by simp)
    ·rw [if_neg c4] at H
     exact absurd H (by simp)
   ·rw [if_neg c3] at H
    have c3b0 : decide (x8_1 < (l0.length : Int)) = false := decide_eq_false c3
    clear c3
    obtain rfl := Option.some.inj H
    go_wp2
    go_ret
    exact ⟨eE, lU⟩
end Go.Proofs.Ytifejplilaefiaa.PFnExactMakeOrder
namespace Go.Proofs.Ytifejplilaefiaa.PFnExactMakeOrder
open Go.RowKit Go.Proofs.YtifejplilaefiaaW.PrintWords Go.Proofs.YtifejplilaefiaaW.PrintLast Go.Proofs.YtifejplilaefiaaW.PrintMore
attribute [local go_sem] max2_int min2_int max_two min_two max_three min_three max_four min_four   -- for this text's walks alone
set_option linter.unusedVariables false
set_option linter.unusedSimpArgs false
def slices_ContainsFunc_w37.f (k : Nat) (l0 : List ByteArray) (l1_0_0 : List (S63)) : Option (Bool) := (slices_IndexFunc_w37.f k l0 l1_0_0).bind fun t215 => (some (decide (t215 ≥ 0)))
theorem slices_ContainsFunc_w37.mono : ∀ a0 a1 k, LeO (slices_ContainsFunc_w37.f k a0 a1) (slices_ContainsFunc_w37.f (k + 1) a0 a1) := by
 intro a0 a1 k
 unfold slices_ContainsFunc_w37.f
 repeat' first
   | (with_reducible exact slices_IndexFunc_w37.mono _ _ _)
   | (with_reducible exact LeO.refl _)
   | (with_reducible exact LeO.none _)
   | (with_reducible refine LeO.ite ?_ ?_)
   | (with_reducible refine LeO.bind ?_ (fun _ => ?_))
   | exact slices_IndexFunc_w37.mono _ _ _
   | exact LeO.none _
   | refine LeO.ite ?_ ?_
   | refine LeO.bind ?_ (fun _ => ?_)
set_option maxHeartbeats 8000000 in
set_option maxRecDepth 100000 in
theorem slices_ContainsFunc_w37.calls (k : Nat) (A0 : Option Addr) (c0 : Nat) (l0 : List ByteArray) (gb28 : Nat) (A1_0_0 : Option Addr) (c1_0_0 : Nat) (l1_0_0 : List (S63)) (r : Bool) (w : World) (hr0 : Kd.C Kd.string w A0 l0.length l0) (hc0 : l0.length ≤ c0) (hr1_0_0 : Kd.C k63 w A1_0_0 l1_0_0.length l1_0_0) (hc1_0_0 : l1_0_0.length ≤ c1_0_0) (hk28 : w.heap[gb28]? = some (.cells #[.slice A1_0_0 l1_0_0.length c1_0_0] 25 (0, 0))) (h : slices_ContainsFunc_w37.f k l0 l1_0_0 = some r) :
  Calls Try.prog 36 #[.slice A0 l0.length c0, .func (.func 37) #[] #[.pointer (some ⟨gb28, 0, none⟩)]] w fun e w' => e = .returned (.bool r) ∧ Below w.heap.size w w' := by
 have HR0 := Aside0.mk hr0
 have HC0 := Aside0.mk hc0
 clear hr0 hc0
 have HR1_0_0 := Aside0.mk hr1_0_0
 have HC1_0_0 := Aside0.mk hc1_0_0
 clear hr1_0_0 hc1_0_0
 have BK28 := Aside0.mk hk28
 clear hk28
 have HB := Aside0.mk (Below.refl w.heap.size w)
 have H : ((slices_IndexFunc_w37.f k l0 l1_0_0).bind fun t215 => (some (decide (t215 ≥ 0)))) = some r := h
 clear h
 replace H := Option.bind_eq_some_iff.mp H
 obtain ⟨t215, A30, H⟩ := H
 replace H : (some (decide (t215 ≥ 0))) = some r := H
 have A3 := Aside0.mk A30
 clear A30
 obtain rfl := Option.some.inj H
 go_enter Try.func36, Try.ntmps36
 go_wp2_with (first | ((with_reducible refine gate_callee (f := 75) rfl ?_); refine goesL_ (some 7) rfl rfl Try.func75 (by kernel_rfl) rfl #[.slice A0 l0.length c0, .func (.func 37) #[] #[.pointer (some ⟨gb28, 0, none⟩)]] rfl aE ?_; (with_reducible refine (slices_IndexFunc_w37.calls k _ _ l0 gb28 A1_0_0 c1_0_0 l1_0_0 t215 _ ?side1 ?side2 ?side3 ?side4 ?side5 A3.out).mono ?_); (case side1 => repeat (first | exact HR0.out | (with_reducible refine Kd.C_alloc ?_ _) | (with_reducible refine Kd.C_drewN ?_ _) | (with_reducible refine Kd.C_drew ?_))); (case side2 => exact HC0.out); (case side3 => repeat (first | exact HR1_0_0.out | (with_reducible refine Kd.C_alloc ?_ _) | (with_reducible refine Kd.C_drewN ?_ _) | (with_reducible refine Kd.C_drew ?_))); (case side4 => exact HC1_0_0.out); (case side5 => refine bU ?_; exact BK28.out); rintro e w4 ⟨rfl, hb⟩; refine ⟨_, rfl, ?_⟩; replace BK28 := bB (bV BK28) hb; replace HB := bH (lU) hb; (try clear hb)))
 go_ret
 exact ⟨eE, lU⟩
end Go.Proofs.Ytifejplilaefiaa.PFnExactMakeOrder
namespace Go.Proofs.Ytifejplilaefiaa.PFnExactMakeOrder
open Go.RowKit Go.Proofs.YtifejplilaefiaaW.PrintWords Go.Proofs.YtifejplilaefiaaW.PrintLast Go.Proofs.YtifejplilaefiaaW.PrintMore
attribute [local go_sem] max2_int min2_int max_two min_two max_three min_three max_four min_four   -- for this text's walks alone
set_option linter.unusedVariables false
set_option linter.unusedSimpArgs false
mutual
def impl_GoodAssets.l0 : Nat → List (S63) → Int → Int → List (S63) → Option (Bool)
 | 0, _, _, _, _ => none
 | k + 1, x5, x6, x7, x217000 => if x7 < x6 then (if 0 ≤ x7 then (if x7 < (x5.length : Int) then ((impl_GoodName.f k ((rd_T63 x5 x7).f0)).bind fun t222 => (if t222 = true then (if x7 > 0 then (if 0 ≤ (wrap64 (x7 - 1)) then (if (wrap64 (x7 - 1)) < (x217000.length : Int) then (if ((Op.bytesLess (((rd_T63 x217000 (wrap64 (x7 - 1))).f0).toList) (((rd_T63 x5 x7).f0).toList)) = true) then ((impl_areNames.f k ((rd_T63 x5 x7).f1)).bind fun t224 => (if t224 = true then (if (((rd_T63 x5 x7).f1).length : Int) > 10 then (impl_GoodAssets.j1 k x5 x6 x7 true x217000 ((rd_T63 x5 x7).f0) ((rd_T63 x5 x7).f1) ((rd_T63 x5 x7).f2)) else (impl_GoodAssets.j1 k x5 x6 x7 (decide ((((rd_T63 x5 x7).f2).length : Int) > 400)) x217000 ((rd_T63 x5 x7).f0) ((rd_T63 x5 x7).f1) ((rd_T63 x5 x7).f2))) else (impl_GoodAssets.j1 k x5 x6 x7 true x217000 ((rd_T63 x5 x7).f0) ((rd_T63 x5 x7).f1) ((rd_T63 x5 x7).f2)))) else (impl_GoodAssets.j1 k x5 x6 x7 true x217000 ((rd_T63 x5 x7).f0) ((rd_T63 x5 x7).f1) ((rd_T63 x5 x7).f2))) else (none)) else (none)) else ((impl_areNames.f k ((rd_T63 x5 x7).f1)).bind fun t225 => (if t225 = true then (if (((rd_T63 x5 x7).f1).length : Int) > 10 then (impl_GoodAssets.j1 k x5 x6 x7 true x217000 ((rd_T63 x5 x7).f0) ((rd_T63 x5 x7).f1) ((rd_T63 x5 x7).f2)) else (impl_GoodAssets.j1 k x5 x6 x7 (decide ((((rd_T63 x5 x7).f2).length : Int) > 400)) x217000 ((rd_T63 x5 x7).f0) ((rd_T63 x5 x7).f1) ((rd_T63 x5 x7).f2))) else (impl_GoodAssets.j1 k x5 x6 x7 true x217000 ((rd_T63 x5 x7).f0) ((rd_T63 x5 x7).f1) ((rd_T63 x5 x7).f2))))) else (impl_GoodAssets.j1 k x5 x6 x7 true x217000 ((rd_T63 x5 x7).f0) ((rd_T63 x5 x7).f1) ((rd_T63 x5 x7).f2)))) else (none)) else (none)) else (if (x217000.length : Int) ≤ 30 then ((impl_makeOrder.f k x217000).bind fun t217 => (some ((t217.length : Int) == (x217000.length : Int)))) else (some false))
def impl_GoodAssets.j1 : Nat → List (S63) → Int → Int → Bool → List (S63) → ByteArray → List ByteArray → List Int → Option (Bool)
 | 0, _, _, _, _, _, _, _, _ => none
 | k + 1, x5, x6, x7, x48, x217000, x222000, x222001, x222002 => if x48 = true then (some false) else ((slices_ContainsFunc_w37.f k x222001 x217000).bind fun t226 => (if t226 = true then (some false) else (impl_GoodAssets.l0 k x5 x6 (wrap64 (x7 + 1)) x217000)))
end
def impl_GoodAssets.f (k : Nat) (l0 : List (S63)) : Option (Bool) := impl_GoodAssets.l0 k l0 (l0.length : Int) 0 l0
theorem impl_GoodAssets.mono_l : ∀ k, (∀ y0 y1 y2 y3, LeO (impl_GoodAssets.l0 k y0 y1 y2 y3) (impl_GoodAssets.l0 (k + 1) y0 y1 y2 y3)) ∧ (∀ y0 y1 y2 y3 y4 y5 y6 y7, LeO (impl_GoodAssets.j1 k y0 y1 y2 y3 y4 y5 y6 y7) (impl_GoodAssets.j1 (k + 1) y0 y1 y2 y3 y4 y5 y6 y7))
 | 0 => ⟨fun _ _ _ _ r h => by simp [impl_GoodAssets.l0] at h, fun _ _ _ _ _ _ _ _ r h => by simp [impl_GoodAssets.j1] at h⟩
 | k + 1 => by
  obtain ⟨ih0, ih1⟩ := impl_GoodAssets.mono_l k
  refine ⟨?_, ?_⟩
  ·intro y0 y1 y2 y3
   unfold impl_GoodAssets.l0
   repeat' first
   | (with_reducible exact ih0 _ _ _ _)
   | (with_reducible exact ih1 _ _ _ _ _ _ _ _)
   | (with_reducible exact impl_GoodName.mono _ _)
   | (with_reducible exact impl_areNames.mono _ _)
   | (with_reducible exact impl_makeOrder.mono _ _)
   | (with_reducible exact slices_ContainsFunc_w37.mono _ _ _)
   | (with_reducible exact LeO.refl _)
   | (with_reducible exact LeO.none _)
   | (with_reducible refine LeO.ite ?_ ?_)
   | (with_reducible refine LeO.bind ?_ (fun _ => ?_))
   | exact ih0 _ _ _ _
   | exact ih1 _ _ _ _ _ _ _ _
   | exact impl_GoodName.mono _ _
   | exact impl_areNames.mono _ _
   | exact impl_makeOrder.mono _ _
   | exact slices_ContainsFunc_w37.mono _ _ _
   | exact LeO.none _
   | refine LeO.ite ?_ ?_
   | refine LeO.bind ?_ (fun _ => ?_)
  ·intro y0 y1 y2 y3 y4 y5 y6 y7
   unfold impl_GoodAssets.j1
   repeat' first
   | (with_reducible exact ih0 _ _ _ _)
   | (with_reducible exact ih1 _ _ _ _ _ _ _ _)
   | (with_reducible exact impl_GoodName.mono _ _)
   | (with_reducible exact impl_areNames.mono _ _)
   | (with_reducible exact impl_makeOrder.mono _ _)
   | (with_reducible exact slices_ContainsFunc_w37.mono _ _ _)
   | (with_reducible exact LeO.refl _)
   | (with_reducible exact LeO.none _)
   | (with_reducible refine LeO.ite ?_ ?_)
   | (with_reducible refine LeO.bind ?_ (fun _ => ?_))
   | exact ih0 _ _ _ _
   | exact ih1 _ _ _ _ _ _ _ _
   | exact impl_GoodName.mono _ _
   | exact impl_areNames.mono _ _
   | exact impl_makeOrder.mono _ _
   | exact slices_ContainsFunc_w37.mono _ _ _
   | exact LeO.none _
   | refine LeO.ite ?_ ?_
   | refine LeO.bind ?_ (fun _ => ?_)
theorem impl_GoodAssets.mono : ∀ a0 k, LeO (impl_GoodAssets.f k a0) (impl_GoodAssets.f (k + 1) a0) := by
 intro a0 k
 obtain ⟨ih0, ih1⟩ := impl_GoodAssets.mono_l k
 unfold impl_GoodAssets.f
 repeat' first
   | (with_reducible exact ih0 _ _ _ _)
   | (with_reducible exact ih1 _ _ _ _ _ _ _ _)
   | (with_reducible exact impl_GoodName.mono _ _)
   | (with_reducible exact impl_areNames.mono _ _)
   | (with_reducible exact impl_makeOrder.mono _ _)
   | (with_reducible exact slices_ContainsFunc_w37.mono _ _ _)
   | (with_reducible exact LeO.refl _)
   | (with_reducible exact LeO.none _)
   | (with_reducible refine LeO.ite ?_ ?_)
   | (with_reducible refine LeO.bind ?_ (fun _ => ?_))
   | exact ih0 _ _ _ _
   | exact ih1 _ _ _ _ _ _ _ _
   | exact impl_GoodName.mono _ _
   | exact impl_areNames.mono _ _
   | exact impl_makeOrder.mono _ _
   | exact slices_ContainsFunc_w37.mono _ _ _
   | exact LeO.none _
   | refine LeO.ite ?_ ?_
   | refine LeO.bind ?_ (fun _ => ?_)
def impl_GoodAssets.T4 : Bool × List (List Nat × List Nat) := (true, [([], []), ([0], [0]), ([1], [1]), ([2], [2]), ([3, 2], [3]), ([4], [4]), ([5, 4], [4, 5]), ([6, 4, 4], [4, 6]), ([7], [7]), ([7], [7]), ([9, 7], [7, 9]), ([8, 10, 7], [7, 8, 10]), ([11, 7], [7, 11]), ([12, 7], [7, 12]), ([7], [7]), ([14, 7], [7, 14]), ([13, 15, 7], [7, 13, 15]), ([7, 16, 4], [4, 7, 16]), ([4, 17], [4, 17]), ([18, 7], [18]), ([19], [19]), ([20, 19], [19, 20]), ([21, 19, 19], [19, 21]), ([22, 19], [19, 22]), ([19, 23], [19, 23]), ([24, 22], [24]), ([25], [25]), ([26, 25], [25, 26]), ([27, 25], [25, 27]), ([28, 25], [25, 28]), ([25, 29], [25, 29]), ([30, 25], [30]), ([31], [31]), ([32, 31], [31, 32]), ([33, 31], [31, 33]), ([34, 31], [31, 34]), ([31, 35], [31, 35])])
def impl_GoodAssets.B4 : List Nat := [0, 1, 3, 7, 15, 31, 63, 127, 255, 255, 767, 2047, 4095, 8191, 255, 16639, 65535, 131071, 262143, 524287, 1048575, 2097151, 4194303, 8388607, 16777215, 33554431, 67108863, 134217727, 268435455, 536870911, 1073741823, 2147483647, 4294967295, 8589934591, 17179869183, 34359738367, 68719476735]
theorem impl_GoodAssets.tab4 : rtab .any (opsOf Try.f10 4) = impl_GoodAssets.T4 := by kernel_rfl
theorem impl_GoodAssets.bits4 : waitsOk impl_GoodAssets.T4.2 impl_GoodAssets.B4 = true := by kernel_rfl
def impl_GoodAssets.T9 : Bool × List (List Nat × List Nat) := (true, [([], []), ([0], [0]), ([1], [1]), ([2], [2]), ([3], [3]), ([4, 3, 3], [3, 4]), ([5, 3], [3, 5]), ([3], [3]), ([7, 3], [3, 7]), ([6, 8, 3], [3, 6, 8]), ([3, 9], [3, 9]), ([10, 5, 0, 1, 2, 3, 4, 5, 6, 7, 8, 9, 10], [10])])
def impl_GoodAssets.B9 : List Nat := [0, 1, 3, 7, 15, 31, 63, 15, 143, 511, 1023, 2047]
theorem impl_GoodAssets.tab9 : rtab .any (opsOf Try.f10 9) = impl_GoodAssets.T9 := by kernel_rfl
theorem impl_GoodAssets.bits9 : waitsOk impl_GoodAssets.T9.2 impl_GoodAssets.B9 = true := by kernel_rfl
set_option maxHeartbeats 8000000 in
set_option maxRecDepth 100000 in
theorem impl_GoodAssets.calls (k : Nat) (A0 : Option Addr) (c0 : Nat) (l0 : List (S63)) (r : Bool) (w : World) (hr0 : Kd.C k63 w A0 l0.length l0) (hc0 : l0.length ≤ c0) (h : impl_GoodAssets.f k l0 = some r) :
  Calls Try.prog 10 #[.slice A0 l0.length c0] w fun e w' => e = .returned (.bool r) ∧ Below w.heap.size w w' := by
 have hu25 := Try.underlying25
 have hu63 := Try.underlying63
 have HR0 := Aside0.mk hr0
 have HC0 := Aside0.mk hc0
 clear hr0 hc0
 have HB := Aside0.mk (Below.refl w.heap.size w)
 have H : (impl_GoodAssets.l0 k l0 (l0.length : Int) 0 l0) = some r := h
 clear h
 have H' := Aside0.mk H
 clear H
 go_enter Try.func10, Try.ntmps10
 go_wp2_with (first | ((with_reducible refine gate_dst (N := 1) rfl ?_); (try (refine gate_guard (by rfl) ?_; dsimp only)); refine box_event rfl (N := 1) rfl (cs := #[.slice A0 l0.length c0]) (t := 25) sE ?_; intro gb216 hg w2 hbox hb; have BK216 := Aside0.mk hbox; have GW216 := gS w hg (lU); have GE216 := gS w hg (lU); replace HB := bH (lU) hb; clear hb hbox hg; have hcz3_0 := cz BK216 0 (.slice A0 l0.length c0); have hfz3_0 := fz BK216 0))
 (try simp only [Act.put, List.setIfInBounds_toArray, List.set_cons_zero, List.set_cons_succ])
 go_loopg [7] k (fun kq v7 w' => ∃ (x7_1 : Int), v7 = .int .i64 x7_1 ∧ Aside0 (impl_GoodAssets.l0 kq l0 (l0.length : Int) x7_1 l0 = some r) ∧ Aside0 (kq ≤ k) ∧ Aside0 (w'.heap[gb216]? = some (.cells #[(.slice A0 l0.length c0)] 25 (0, 0))) ∧ Aside0 (Below w.heap.size w w'))
 case atStart => exact ⟨(0), tE, H', ⟨Nat.le_refl _⟩, ⟨by refine bU ?_; exact BK216.out⟩, ⟨by repeat (first | (with_reducible first | exact HB.out | apply below_alloc | apply pw_below_drewN | apply below_drew1 | refine below_set ?_ GE216.out) | exact HB.out)⟩⟩
 case round =>
  clear H'
  try clear c1
  try clear p2
  try clear hcz3_0
  try clear hfz3_0
  obtain ⟨x7_1, rfl, HA, HK1, BK216, HB⟩ := hrel
  cases gk with
  | zero => exact absurd HA.out (by simp [impl_GoodAssets.l0])
  | succ k1 =>
   have H := HA.out
   clear HA
   simp only [impl_GoodAssets.l0] at H
   by_cases c4 : x7_1 < (l0.length : Int)
   ·rw [if_pos c4] at H
    have c4b0 : decide (x7_1 < (l0.length : Int)) = true := decide_eq_true c4
    clear c4
    by_cases c5 : 0 ≤ x7_1
    ·rw [if_pos c5] at H
     have c5b0 : decide (0 ≤ x7_1) = true := decide_eq_true c5
     clear c5
     by_cases c6 : x7_1 < (l0.length : Int)
     ·rw [if_pos c6] at H
      have c6b0 : decide (x7_1 < (l0.length : Int)) = true := decide_eq_true c6
      clear c6
      have HC7 := Aside0.mk H
      clear H
      have p220 : 0 ≤ (x7_1 : Int) := of_decide_eq_true hE
      have q220 : x7_1 < (l0.length : Int) := of_decide_eq_true hE
      obtain ⟨ad220, A220_1, c220_1, A220_2, c220_2, e220, hx220_0, hx220_1, hx220_2, hl220_1, hi220_1, hl220_2, hi220_2⟩ := at_T63 HR0.out x7_1 p220 q220
      cases e220
      replace hx220_0 := (HB.out.cell (World.block_lt_of_cell? w _ hx220_0)).trans hx220_0
      replace hx220_1 := (HB.out.cell (World.block_lt_of_cell? w _ hx220_1)).trans hx220_1
      replace hx220_2 := (HB.out.cell (World.block_lt_of_cell? w _ hx220_2)).trans hx220_2
      have HR220_1 := Aside0.mk hi220_1
      have HC220_1 := Aside0.mk hl220_1
      clear hi220_1 hl220_1
      have HR220_2 := Aside0.mk hi220_2
      have HC220_2 := Aside0.mk hl220_2
      clear hi220_2 hl220_2
      replace p220 := eq_true p220
      replace q220 := eq_true q220
      go_upto_region 4 with (first | ((with_reducible refine gate_dst (N := 4) rfl ?_); (try (refine gate_guard (by rfl) ?_; dsimp only)); refine box_event rfl (N := 4) rfl (cs := #[.string (⟨#[]⟩ : ByteArray), .slice none 0 0, .slice none 0 0]) (t := 63) sE ?_; intro gb221 hg w8 hbox hb; have BK221 := Aside0.mk hbox; have GW221 := gS w hg (lV1 GE216); have GE221 := gS w hg (lV1 GE216); replace HB := bH (lV1 GE216) hb; have NB216_221 := nL hg (bV BK216); have NB221_216 := nG hg (bV BK216); replace BK216 := bB (bV BK216) hb; clear hb hbox hg; have hnb9 := NB221_216.out; have hnc9 := NB216_221.out; have hcz10_0 := cz BK221 0 (.string (⟨#[]⟩ : ByteArray)); have hcz10_1 := cz BK221 1 (.slice none 0 0); have hcz10_2 := cz BK221 2 (.slice none 0 0); have hfz10_0 := fz BK221 0; have hfz10_1 := fz BK221 1; have hfz10_2 := fz BK221 2) | ((with_reducible refine gate_store (t := 63) (p := 4) rfl ?_); refine store_event (t := 63) (p := 4) (v := ?vo_w11) (w1 := (((w8.setCell ⟨gb221, 0, none⟩ (.string ((rd_T63 l0 x7_1).f0))).setCell ⟨gb221, 1, none⟩ (.slice A220_1 ((rd_T63 l0 x7_1).f1).length c220_1)).setCell ⟨gb221, 2, none⟩ (.slice A220_2 ((rd_T63 l0 x7_1).f2).length c220_2))) ?hg ?ho ?hn ?hr ?_; (case ho => rfl); (case hg => rfl); (case hn => rfl); (case hr => first | (go_simp; done) | (go_simp; rfl) | (have hq0_ := (blk_cell BK221.out 0).trans (show _ = some _ from rfl); have hf0_ := blk_frozen BK221.out 0; have hq1_ := (blk_cell BK221.out 1).trans (show _ = some _ from rfl); have hf1_ := blk_frozen BK221.out 1; have hq2_ := (blk_cell BK221.out 2).trans (show _ = some _ from rfl); have hf2_ := blk_frozen BK221.out 2; first | (go_simp; done) | (go_simp; rfl))); intro w11 hw; replace BK216 : Aside0 (w11.heap[gb216]? = some (.cells #[.slice (some ad220) l0.length c0] 25 (0, 0))) := ⟨(by rw [hw]; exact (bG NB216_221 BK216))⟩; replace BK221 : Aside0 (w11.heap[gb221]? = some (.cells #[.string ((rd_T63 l0 x7_1).f0), .slice A220_1 ((rd_T63 l0 x7_1).f1).length c220_1, .slice A220_2 ((rd_T63 l0 x7_1).f2).length c220_2] 63 (0, 0))) := ⟨(by rw [hw]; exact (by refine bU ?_; refine blk_put (cs := #[.string ((rd_T63 l0 x7_1).f0), .slice A220_1 ((rd_T63 l0 x7_1).f1).length c220_1, .slice none 0 0]) ?_ 2 _ rfl; refine bU ?_; refine blk_put (cs := #[.string ((rd_T63 l0 x7_1).f0), .slice none 0 0, .slice none 0 0]) ?_ 1 _ rfl; refine bU ?_; refine blk_put (cs := #[.string (⟨#[]⟩ : ByteArray), .slice none 0 0, .slice none 0 0]) ?_ 0 _ rfl; refine bU ?_; exact BK221.out))⟩; replace HB : Aside0 (Below w.heap.size w w11) := ⟨(by rw [hw]; exact (lV2 GE216 GE221))⟩; clear hw))
      (try simp only [Act.put, List.setIfInBounds_toArray, List.set_cons_zero, List.set_cons_succ])
      go_cut [48] (fun v48 wc => ∃ (kq : Nat) (x48_6 : Bool), v48 = .bool x48_6 ∧ Aside0 (impl_GoodAssets.j1 kq l0 (l0.length : Int) x7_1 x48_6 l0 ((rd_T63 l0 x7_1).f0) ((rd_T63 l0 x7_1).f1) ((rd_T63 l0 x7_1).f2) = some r) ∧ Aside0 (kq ≤ k1) ∧ Aside0 (wc.heap[gb216]? = some (.cells #[(.slice (some ad220) l0.length c0)] 25 (0, 0))) ∧ Aside0 (wc.heap[gb221]? = some (.cells #[.string ((rd_T63 l0 x7_1).f0), (.slice A220_1 ((rd_T63 l0 x7_1).f1).length c220_1), (.slice A220_2 ((rd_T63 l0 x7_1).f2).length c220_2)] 63 (0, 0))) ∧ Aside0 (Below w.heap.size w wc))
      case first =>
       have H := HC7.out
       clear HC7
       replace H := Option.bind_eq_some_iff.mp H
       obtain ⟨t222, A120, H⟩ := H
       replace H : (if t222 = true then (if x7_1 > 0 then (if 0 ≤ (wrap64 (x7_1 - 1)) then (if (wrap64 (x7_1 - 1)) < (l0.length : Int) then (if ((Op.bytesLess (((rd_T63 l0 (wrap64 (x7_1 - 1))).f0).toList) (((rd_T63 l0 x7_1).f0).toList)) = true) then ((impl_areNames.f k1 ((rd_T63 l0 x7_1).f1)).bind fun t224 => (if t224 = true then (if (((rd_T63 l0 x7_1).f1).length : Int) > 10 then (impl_GoodAssets.j1 k1 l0 (l0.length : Int) x7_1 true l0 ((rd_T63 l0 x7_1).f0) ((rd_T63 l0 x7_1).f1) ((rd_T63 l0 x7_1).f2)) else (impl_GoodAssets.j1 k1 l0 (l0.length : Int) x7_1 (decide ((((rd_T63 l0 x7_1).f2).length : Int) > 400)) l0 ((rd_T63 l0 x7_1).f0) ((rd_T63 l0 x7_1).f1) ((rd_T63 l0 x7_1).f2))) else (impl_GoodAssets.j1 k1 l0 (l0.length : Int) x7_1 true l0 ((rd_T63 l0 x7_1).f0) ((rd_T63 l0 x7_1).f1) ((rd_T63 l0 x7_1).f2)))) else (impl_GoodAssets.j1 k1 l0 (l0.length : Int) x7_1 true l0 ((rd_T63 l0 x7_1).f0) ((rd_T63 l0 x7_1).f1) ((rd_T63 l0 x7_1).f2))) else (none)) else (none)) else ((impl_areNames.f k1 ((rd_T63 l0 x7_1).f1)).bind fun t225 => (if t225 = true then (if (((rd_T63 l0 x7_1).f1).length : Int) > 10 then (impl_GoodAssets.j1 k1 l0 (l0.length : Int) x7_1 true l0 ((rd_T63 l0 x7_1).f0) ((rd_T63 l0 x7_1).f1) ((rd_T63 l0 x7_1).f2)) else (impl_GoodAssets.j1 k1 l0 (l0.length : Int) x7_1 (decide ((((rd_T63 l0 x7_1).f2).length : Int) > 400)) l0 ((rd_T63 l0 x7_1).f0) ((rd_T63 l0 x7_1).f1) ((rd_T63 l0 x7_1).f2))) else (impl_GoodAssets.j1 k1 l0 (l0.length : Int) x7_1 true l0 ((rd_T63 l0 x7_1).f0) ((rd_T63 l0 x7_1).f1) ((rd_T63 l0 x7_1).f2))))) else (impl_GoodAssets.j1 k1 l0 (l0.length : Int) x7_1 true l0 ((rd_T63 l0 x7_1).f0) ((rd_T63 l0 x7_1).f1) ((rd_T63 l0 x7_1).f2))) = some r := H
       have A12 := Aside0.mk A120
       clear A120
       by_cases c13 : t222 = true
       ·subst c13
        have H1 : (if x7_1 > 0 then (if 0 ≤ (wrap64 (x7_1 - 1)) then (if (wrap64 (x7_1 - 1)) < (l0.length : Int) then (if ((Op.bytesLess (((rd_T63 l0 (wrap64 (x7_1 - 1))).f0).toList) (((rd_T63 l0 x7_1).f0).toList)) = true) then ((impl_areNames.f k1 ((rd_T63 l0 x7_1).f1)).bind fun t224 => (if t224 = true then (if (((rd_T63 l0 x7_1).f1).length : Int) > 10 then (impl_GoodAssets.j1 k1 l0 (l0.length : Int) x7_1 true l0 ((rd_T63 l0 x7_1).f0) ((rd_T63 l0 x7_1).f1) ((rd_T63 l0 x7_1).f2)) else (impl_GoodAssets.j1 k1 l0 (l0.length : Int) x7_1 (decide ((((rd_T63 l0 x7_1).f2).length : Int) > 400)) l0 ((rd_T63 l0 x7_1).f0) ((rd_T63 l0 x7_1).f1) ((rd_T63 l0 x7_1).f2))) else (impl_GoodAssets.j1 k1 l0 (l0.length : Int) x7_1 true l0 ((rd_T63 l0 x7_1).f0) ((rd_T63 l0 x7_1).f1) ((rd_T63 l0 x7_1).f2)))) else (impl_GoodAssets.j1 k1 l0 (l0.length : Int) x7_1 true l0 ((rd_T63 l0 x7_1).f0) ((rd_T63 l0 x7_1).f1) ((rd_T63 l0 x7_1).f2))) else (none)) else (none)) else ((impl_areNames.f k1 ((rd_T63 l0 x7_1).f1)).bind fun t225 => (if t225 = true then (if (((rd_T63 l0 x7_1).f1).length : Int) > 10 then (impl_GoodAssets.j1 k1 l0 (l0.length : Int) x7_1 true l0 ((rd_T63 l0 x7_1).f0) ((rd_T63 l0 x7_1).f1) ((rd_T63 l0 x7_1).f2)) else (impl_GoodAssets.j1 k1 l0 (l0.length : Int) x7_1 (decide ((((rd_T63 l0 x7_1).f2).length : Int) > 400)) l0 ((rd_T63 l0 x7_1).f0) ((rd_T63 l0 x7_1).f1) ((rd_T63 l0 x7_1).f2))) else (impl_GoodAssets.j1 k1 l0 (l0.length : Int) x7_1 true l0 ((rd_T63 l0 x7_1).f0) ((rd_T63 l0 x7_1).f1) ((rd_T63 l0 x7_1).f2))))) = some r := by rw [if_pos rfl] at H; exact H
        clear H
        have H := H1
        clear H1
        by_cases c14 : x7_1 > 0
        ·rw [if_pos c14] at H
         have c14b0 : decide (0 < x7_1) = true := decide_eq_true c14
         clear c14
         (first | rw [c14b0] | (simp only [i64_w, i32_w]; rw [c14b0]) | (rw [c14b2]; simp only [Bool.not_false, Bool.not_true]) | skip)
         obtain ⟨ji15, hji15⟩ : ∃ j_ : Int, (wrap64 (x7_1 - 1)) = j_ := ⟨_, rfl⟩
         replace H : (if 0 ≤ (ji15) then (if (ji15) < (l0.length : Int) then (if ((Op.bytesLess (((rd_T63 l0 (ji15)).f0).toList) (((rd_T63 l0 x7_1).f0).toList)) = true) then ((impl_areNames.f k1 ((rd_T63 l0 x7_1).f1)).bind fun t224 => (if t224 = true then (if (((rd_T63 l0 x7_1).f1).length : Int) > 10 then (impl_GoodAssets.j1 k1 l0 (l0.length : Int) x7_1 true l0 ((rd_T63 l0 x7_1).f0) ((rd_T63 l0 x7_1).f1) ((rd_T63 l0 x7_1).f2)) else (impl_GoodAssets.j1 k1 l0 (l0.length : Int) x7_1 (decide ((((rd_T63 l0 x7_1).f2).length : Int) > 400)) l0 ((rd_T63 l0 x7_1).f0) ((rd_T63 l0 x7_1).f1) ((rd_T63 l0 x7_1).f2))) else (impl_GoodAssets.j1 k1 l0 (l0.length : Int) x7_1 true l0 ((rd_T63 l0 x7_1).f0) ((rd_T63 l0 x7_1).f1) ((rd_T63 l0 x7_1).f2)))) else (impl_GoodAssets.j1 k1 l0 (l0.length : Int) x7_1 true l0 ((rd_T63 l0 x7_1).f0) ((rd_T63 l0 x7_1).f1) ((rd_T63 l0 x7_1).f2))) else (none)) else (none)) = some r := by first | (rw [hji15] at H; exact H) | (simp only [hji15] at H ⊢; exact H)
         (try rw [hji15] at A12)
         have hji15w : (IntKind.i64.wrap (x7_1 - 1)) = ji15 := (i64_w _).trans hji15
         by_cases c16 : 0 ≤ (ji15)
         ·rw [if_pos c16] at H
          have c16b0 : decide (0 ≤ (ji15)) = true := decide_eq_true c16
          clear c16
          by_cases c17 : (ji15) < (l0.length : Int)
          ·rw [if_pos c17] at H
           have c17b0 : decide ((ji15) < (l0.length : Int)) = true := decide_eq_true c17
           clear c17
           by_cases c18 : ((Op.bytesLess (((rd_T63 l0 (ji15)).f0).toList) (((rd_T63 l0 x7_1).f0).toList)) = true)
           ·rw [if_pos c18] at H
            have c18b0 : (Op.bytesLess (((rd_T63 l0 (ji15)).f0).toList) (((rd_T63 l0 x7_1).f0).toList)) = true := c18
            clear c18
            replace H := Option.bind_eq_some_iff.mp H
            obtain ⟨t224, A190, H⟩ := H
            replace H : (if t224 = true then (if (((rd_T63 l0 x7_1).f1).length : Int) > 10 then (impl_GoodAssets.j1 k1 l0 (l0.length : Int) x7_1 true l0 ((rd_T63 l0 x7_1).f0) ((rd_T63 l0 x7_1).f1) ((rd_T63 l0 x7_1).f2)) else (impl_GoodAssets.j1 k1 l0 (l0.length : Int) x7_1 (decide ((((rd_T63 l0 x7_1).f2).length : Int) > 400)) l0 ((rd_T63 l0 x7_1).f0) ((rd_T63 l0 x7_1).f1) ((rd_T63 l0 x7_1).f2))) else (impl_GoodAssets.j1 k1 l0 (l0.length : Int) x7_1 true l0 ((rd_T63 l0 x7_1).f0) ((rd_T63 l0 x7_1).f1) ((rd_T63 l0 x7_1).f2))) = some r := H
            have A19 := Aside0.mk A190
            clear A190
            by_cases c20 : t224 = true
            ·subst c20
             have H1 : (if (((rd_T63 l0 x7_1).f1).length : Int) > 10 then (impl_GoodAssets.j1 k1 l0 (l0.length : Int) x7_1 true l0 ((rd_T63 l0 x7_1).f0) ((rd_T63 l0 x7_1).f1) ((rd_T63 l0 x7_1).f2)) else (impl_GoodAssets.j1 k1 l0 (l0.length : Int) x7_1 (decide ((((rd_T63 l0 x7_1).f2).length : Int) > 400)) l0 ((rd_T63 l0 x7_1).f0) ((rd_T63 l0 x7_1).f1) ((rd_T63 l0 x7_1).f2))) = some r := by rw [if_pos rfl] at H; exact H
             clear H
             have H := H1
             clear H1
             by_cases c21 : (((rd_T63 l0 x7_1).f1).length : Int) > 10
             ·rw [if_pos c21] at H
              have c21b0 : decide (10 < (((rd_T63 l0 x7_1).f1).length : Int)) = true := decide_eq_true c21
              have c21b1 : decide (10 < ((rd_T63 l0 x7_1).f1).length) = true := decide_eq_true (by omega)
              clear c21
              have H' := Aside0.mk H
              clear H
              try go_wp2
              replace BK216 := Aside0.mk (blk_drew BK216.out)
              replace BK221 := Aside0.mk (blk_drew BK221.out)
              replace HB := Aside0.mk (below_drew1 HB.out)
              have p223 : 0 ≤ ((ji15) : Int) := of_decide_eq_true hE
              have q223 : (ji15) < (l0.length : Int) := of_decide_eq_true hE
              obtain ⟨ad223, A223_1, c223_1, A223_2, c223_2, e223, hx223_0, hx223_1, hx223_2, hl223_1, hi223_1, hl223_2, hi223_2⟩ := at_T63 HR0.out (ji15) p223 q223
              have hw223_2 := hx223_2
              have hw223_1 := hx223_1
              have hw223_0 := hx223_0
              obtain rfl : ad220 = ad223 := (by injection e223)
              replace hx223_0 := (HB.out.cell (World.block_lt_of_cell? w _ hx223_0)).trans hx223_0
              replace hx223_1 := (HB.out.cell (World.block_lt_of_cell? w _ hx223_1)).trans hx223_1
              replace hx223_2 := (HB.out.cell (World.block_lt_of_cell? w _ hx223_2)).trans hx223_2
              have HR223_1 := Aside0.mk hi223_1
              have HC223_1 := Aside0.mk hl223_1
              clear hi223_1 hl223_1
              have HR223_2 := Aside0.mk hi223_2
              have HC223_2 := Aside0.mk hl223_2
              clear hi223_2 hl223_2
              replace p223 := eq_true p223
              replace q223 := eq_true q223
              refine start_ (n := 37) (S := fun w' => w'.cell? ⟨gb221, 0, none⟩ = some (.string ((rd_T63 l0 x7_1).f0)) ∧ w'.cell? ⟨gb221, 1, none⟩ = some (.slice A220_1 ((rd_T63 l0 x7_1).f1).length c220_1) ∧ w'.cell? ⟨gb221, 2, none⟩ = some (.slice A220_2 ((rd_T63 l0 x7_1).f2).length c220_2) ∧ w'.cell? ⟨gb216, 0, none⟩ = some (.slice (some ad220) l0.length c0) ∧ w'.cell? (ad220.add (((ji15)).toNat * 3)) = some (.string ((rd_T63 l0 (ji15)).f0)) ∧ w'.cell? ⟨(ad220.add (((ji15)).toNat * 3)).block, (ad220.add (((ji15)).toNat * 3)).off + 1, none⟩ = some (.slice A223_1 ((rd_T63 l0 (ji15)).f1).length c223_1) ∧ w'.cell? ⟨(ad220.add (((ji15)).toNat * 3)).block, (ad220.add (((ji15)).toNat * 3)).off + 2, none⟩ = some (.slice A223_2 ((rd_T63 l0 (ji15)).f2).length c223_2)) (ds := []) #[false, false, false, false, false, false, false, false, false, false, false, false, false, false, false, false, false, false, false, false, false, false, false, false, false, false, false, false, false, false, false, false, false, false, false, false, false] (by kernel_rfl) rfl rfl ⟨cz BK221 0 _, cz BK221 1 _, cz BK221 2 _, cz BK216 0 _, ((HB.out.cell (World.block_lt_of_cell? w _ hw223_0)).trans hw223_0), ((HB.out.cell (World.block_lt_of_cell? w _ hw223_1)).trans hw223_1), ((HB.out.cell (World.block_lt_of_cell? w _ hw223_2)).trans hw223_2)⟩ (fun hHeld => ?_); refine with_tabW impl_GoodAssets.tab4 impl_GoodAssets.bits4 (fun HT_ HW_ => ?_)
              generalize w11.drew = w22 at BK216 BK221 HB HR223_1 HR223_2 hx223_0 hx223_1 hx223_2 hHeld ⊢
              refine pureA 0 12 (bz 37 1) rfl rfl (any_of HT_.out (by kernel_rfl)) ?_
              refine takeA 1 13 (bz 37 3) rfl rfl (take_ofW HT_.out HW_.out (by kernel_rfl)) hHeld (by rintro w' ⟨s0, s1, s2, s3, s4, s5, s6⟩; go_simp; with_reducible rfl) ?_
              refine one_ (i := 2) (N := some 14) (bz 37 7) rfl rfl (one_of HT_.out (by kernel_rfl)) (by decide) (fun K hK => ?_)
              refine goes_ Try.func34 (by kernel_rfl) rfl #[.string ((rd_T63 l0 x7_1).f0)] (by rfl) rfl rfl aE ?_
              with_reducible refine (impl_GoodName.calls k1 ((rd_T63 l0 x7_1).f0) true _ A12.out).mono ?_
              rintro e w' ⟨rfl, ⟨nd, rfl⟩⟩
              refine ⟨_, rfl, ?_⟩
              refine hK.out _ _ ⟨cz BK221 0 _, cz BK221 1 _, cz BK221 2 _, cz BK216 0 _, ((HB.out.cell (World.block_lt_of_cell? w _ hw223_0)).trans hw223_0), ((HB.out.cell (World.block_lt_of_cell? w _ hw223_1)).trans hw223_1), ((HB.out.cell (World.block_lt_of_cell? w _ hw223_2)).trans hw223_2)⟩ (fun hHeld => ?_)
              clear hK K
              refine norm_ (a' := ?_) ?_ ?_
              rotate_left
              ·show Act.put _ (some 14) _ = _
               simp only [Act.put, List.setIfInBounds_toArray, List.set_cons_zero, List.set_cons_succ, i64_w, i32_w]
               rfl
              refine pureA 3 15 (bz 37 15) rfl rfl (any_of HT_.out (by kernel_rfl)) ?_
              refine pureA 4 16 (bz 37 31) rfl rfl (any_of HT_.out (by kernel_rfl)) ?_
              refine pureA 5 17 (bz 37 63) rfl rfl (any_of HT_.out (by kernel_rfl)) ?_
              refine pureA 6 18 (bz 37 127) rfl rfl (any_of HT_.out (by kernel_rfl)) ?_
              refine pureA 7 19 (bz 37 255) rfl rfl (any_of HT_.out (by kernel_rfl)) ?_
              refine pureA 9 21 (bz 37 767) rfl rfl (any_of HT_.out (by kernel_rfl)) ?_
              refine pureA 10 22 (bz 37 1791) rfl rfl (any_of HT_.out (by kernel_rfl)) ?_
              refine pureA 14 26 (bz 37 18175) rfl rfl (any_of HT_.out (by kernel_rfl)) ?_
              refine takeA 8 20 (bz 37 18431) rfl rfl (take_ofW HT_.out HW_.out (by kernel_rfl)) hHeld (by rintro w' ⟨s0, s1, s2, s3, s4, s5, s6⟩; go_simp; with_reducible rfl) ?_
              refine pureA 11 23 (bz 37 20479) rfl rfl (any_of HT_.out (by kernel_rfl)) ?_
              refine pureA 12 24 (bz 37 24575) rfl rfl (any_of HT_.out (by kernel_rfl)) ?_
              refine takeA 13 25 (bz 37 32767) rfl rfl (take_ofW HT_.out HW_.out (by kernel_rfl)) hHeld (by rintro w' ⟨s0, s1, s2, s3, s4, s5, s6⟩; go_simp; with_reducible rfl) ?_
              refine takeA 15 27 (bz 37 65535) rfl rfl (take_ofW HT_.out HW_.out (by kernel_rfl)) hHeld (by rintro w' ⟨s0, s1, s2, s3, s4, s5, s6⟩; go_simp; with_reducible rfl) ?_
              refine pureA 16 28 (bz 37 131071) rfl rfl (any_of HT_.out (by kernel_rfl)) ?_
              refine pureA 17 29 (bz 37 262143) rfl rfl (any_of HT_.out (by kernel_rfl)) ?_
              refine pureA 18 30 (bz 37 524287) rfl rfl (any_of HT_.out (by kernel_rfl)) ?_
              refine pureA 19 31 (bz 37 1048575) rfl rfl (any_of HT_.out (by kernel_rfl)) ?_
              refine pureA 20 32 (bz 37 2097151) rfl rfl (any_of HT_.out (by kernel_rfl)) ?_
              refine takeA 21 33 (bz 37 4194303) rfl rfl (take_ofW HT_.out HW_.out (by kernel_rfl)) hHeld (by rintro w' ⟨s0, s1, s2, s3, s4, s5, s6⟩; go_simp; with_reducible rfl) ?_
              refine one_ (i := 22) (N := some 34) (bz 37 8388607) rfl rfl (one_of HT_.out (by kernel_rfl)) (by decide) (fun K hK => ?_)
              refine goes_ Try.func35 (by kernel_rfl) rfl #[.slice A220_1 ((rd_T63 l0 x7_1).f1).length c220_1] (by rfl) rfl rfl aE ?_
              with_reducible refine (impl_areNames.calls k1 _ _ ((rd_T63 l0 x7_1).f1) true _ ?side1 ?side2 A19.out).mono ?_
              (case side1 => exact cU (Kd.C_below HR220_1.out (lV2 GE216 GE221)))
              (case side2 => exact HC220_1.out)
              rintro e w' ⟨rfl, ⟨nd, rfl⟩⟩
              refine ⟨_, rfl, ?_⟩
              refine hK.out _ _ ⟨cz BK221 0 _, cz BK221 1 _, cz BK221 2 _, cz BK216 0 _, ((HB.out.cell (World.block_lt_of_cell? w _ hw223_0)).trans hw223_0), ((HB.out.cell (World.block_lt_of_cell? w _ hw223_1)).trans hw223_1), ((HB.out.cell (World.block_lt_of_cell? w _ hw223_2)).trans hw223_2)⟩ (fun hHeld => ?_)
              clear hK K
              refine norm_ (a' := ?_) ?_ ?_
              rotate_left
              ·show Act.put _ (some 34) _ = _
               simp only [Act.put, List.setIfInBounds_toArray, List.set_cons_zero, List.set_cons_succ, i64_w, i32_w]
               rfl
              refine pureA 23 35 (bz 37 16777215) rfl rfl (any_of HT_.out (by kernel_rfl)) ?_
              refine pureA 24 36 (bz 37 33554431) rfl rfl (any_of HT_.out (by kernel_rfl)) ?_
              refine pureA 25 37 (bz 37 67108863) rfl rfl (any_of HT_.out (by kernel_rfl)) ?_
              refine pureA 26 38 (bz 37 134217727) rfl rfl (any_of HT_.out (by kernel_rfl)) ?_
              refine takeA 27 39 (bz 37 268435455) rfl rfl (take_ofW HT_.out HW_.out (by kernel_rfl)) hHeld (by rintro w' ⟨s0, s1, s2, s3, s4, s5, s6⟩; go_simp; with_reducible rfl) ?_
              refine pureA 28 40 (bz 37 536870911) rfl rfl (any_of HT_.out (by kernel_rfl)) ?_
              refine pureA 29 41 (bz 37 1073741823) rfl rfl (any_of HT_.out (by kernel_rfl)) ?_
              refine pureA 30 42 (bz 37 2147483647) rfl rfl (any_of HT_.out (by kernel_rfl)) ?_
              refine pureA 31 43 (bz 37 4294967295) rfl rfl (any_of HT_.out (by kernel_rfl)) ?_
              refine pureU 32 44 (bz 37 8589934591) rfl rfl (any_of HT_.out (by kernel_rfl)) ?_
              refine pureU 33 45 (bz 37 17179869183) rfl rfl (any_of HT_.out (by kernel_rfl)) ?_
              refine pureU 34 46 (bz 37 34359738367) rfl rfl (any_of HT_.out (by kernel_rfl)) ?_
              refine pureU 35 47 (bz 37 68719476735) rfl rfl (any_of HT_.out (by kernel_rfl)) ?_
              refine pureA 36 48 (bz 37 137438953471) rfl rfl (any_of HT_.out (by kernel_rfl)) ?_
              refine done_ (done_of HT_.out (by kernel_rfl)) ?_
              try go_wp2
              go_meet
              case rel => exact ⟨_, (true), tE, H', ⟨by have := HK1.out; first | omega | exact Nat.le_refl _⟩, ⟨by refine bU ?_; exact BK216.out⟩, ⟨by refine bU ?_; exact BK221.out⟩, ⟨by repeat (first | (with_reducible first | exact HB.out | apply below_alloc | apply pw_below_drewN | apply below_drew1 | refine below_set ?_ GE216.out | refine below_set ?_ GE221.out) | exact HB.out)⟩⟩
             ·rw [if_neg c21] at H
              have c21b0 : decide (10 < (((rd_T63 l0 x7_1).f1).length : Int)) = false := decide_eq_false c21
              have c21b1 : decide (10 < ((rd_T63 l0 x7_1).f1).length) = false := decide_eq_false (by omega)
              clear c21
              have H' := Aside0.mk H
              clear H
              try go_wp2
              replace BK216 := Aside0.mk (blk_drew BK216.out)
              replace BK221 := Aside0.mk (blk_drew BK221.out)
              replace HB := Aside0.mk (below_drew1 HB.out)
              have p223 : 0 ≤ ((ji15) : Int) := of_decide_eq_true hE
              have q223 : (ji15) < (l0.length : Int) := of_decide_eq_true hE
              obtain ⟨ad223, A223_1, c223_1, A223_2, c223_2, e223, hx223_0, hx223_1, hx223_2, hl223_1, hi223_1, hl223_2, hi223_2⟩ := at_T63 HR0.out (ji15) p223 q223
              have hw223_2 := hx223_2
              have hw223_1 := hx223_1
              have hw223_0 := hx223_0
              obtain rfl : ad220 = ad223 := (by injection e223)
              replace hx223_0 := (HB.out.cell (World.block_lt_of_cell? w _ hx223_0)).trans hx223_0
              replace hx223_1 := (HB.out.cell (World.block_lt_of_cell? w _ hx223_1)).trans hx223_1
              replace hx223_2 := (HB.out.cell (World.block_lt_of_cell? w _ hx223_2)).trans hx223_2
              have HR223_1 := Aside0.mk hi223_1
              have HC223_1 := Aside0.mk hl223_1
              clear hi223_1 hl223_1
              have HR223_2 := Aside0.mk hi223_2
              have HC223_2 := Aside0.mk hl223_2
              clear hi223_2 hl223_2
              replace p223 := eq_true p223
              replace q223 := eq_true q223
              refine start_ (n := 37) (S := fun w' => w'.cell? ⟨gb221, 0, none⟩ = some (.string ((rd_T63 l0 x7_1).f0)) ∧ w'.cell? ⟨gb221, 1, none⟩ = some (.slice A220_1 ((rd_T63 l0 x7_1).f1).length c220_1) ∧ w'.cell? ⟨gb221, 2, none⟩ = some (.slice A220_2 ((rd_T63 l0 x7_1).f2).length c220_2) ∧ w'.cell? ⟨gb216, 0, none⟩ = some (.slice (some ad220) l0.length c0) ∧ w'.cell? (ad220.add (((ji15)).toNat * 3)) = some (.string ((rd_T63 l0 (ji15)).f0)) ∧ w'.cell? ⟨(ad220.add (((ji15)).toNat * 3)).block, (ad220.add (((ji15)).toNat * 3)).off + 1, none⟩ = some (.slice A223_1 ((rd_T63 l0 (ji15)).f1).length c223_1) ∧ w'.cell? ⟨(ad220.add (((ji15)).toNat * 3)).block, (ad220.add (((ji15)).toNat * 3)).off + 2, none⟩ = some (.slice A223_2 ((rd_T63 l0 (ji15)).f2).length c223_2)) (ds := []) #[false, false, false, false, false, false, false, false, false, false, false, false, false, false, false, false, false, false, false, false, false, false, false, false, false, false, false, false, false, false, false, false, false, false, false, false, false] (by kernel_rfl) rfl rfl ⟨cz BK221 0 _, cz BK221 1 _, cz BK221 2 _, cz BK216 0 _, ((HB.out.cell (World.block_lt_of_cell? w _ hw223_0)).trans hw223_0), ((HB.out.cell (World.block_lt_of_cell? w _ hw223_1)).trans hw223_1), ((HB.out.cell (World.block_lt_of_cell? w _ hw223_2)).trans hw223_2)⟩ (fun hHeld => ?_); refine with_tabW impl_GoodAssets.tab4 impl_GoodAssets.bits4 (fun HT_ HW_ => ?_)
              generalize w11.drew = w23 at BK216 BK221 HB HR223_1 HR223_2 hx223_0 hx223_1 hx223_2 hHeld ⊢
              refine pureA 0 12 (bz 37 1) rfl rfl (any_of HT_.out (by kernel_rfl)) ?_
              refine takeA 1 13 (bz 37 3) rfl rfl (take_ofW HT_.out HW_.out (by kernel_rfl)) hHeld (by rintro w' ⟨s0, s1, s2, s3, s4, s5, s6⟩; go_simp; with_reducible rfl) ?_
              refine one_ (i := 2) (N := some 14) (bz 37 7) rfl rfl (one_of HT_.out (by kernel_rfl)) (by decide) (fun K hK => ?_)
              refine goes_ Try.func34 (by kernel_rfl) rfl #[.string ((rd_T63 l0 x7_1).f0)] (by rfl) rfl rfl aE ?_
              with_reducible refine (impl_GoodName.calls k1 ((rd_T63 l0 x7_1).f0) true _ A12.out).mono ?_
              rintro e w' ⟨rfl, ⟨nd, rfl⟩⟩
              refine ⟨_, rfl, ?_⟩
              refine hK.out _ _ ⟨cz BK221 0 _, cz BK221 1 _, cz BK221 2 _, cz BK216 0 _, ((HB.out.cell (World.block_lt_of_cell? w _ hw223_0)).trans hw223_0), ((HB.out.cell (World.block_lt_of_cell? w _ hw223_1)).trans hw223_1), ((HB.out.cell (World.block_lt_of_cell? w _ hw223_2)).trans hw223_2)⟩ (fun hHeld => ?_)
              clear hK K
              refine norm_ (a' := ?_) ?_ ?_
              rotate_left
              ·show Act.put _ (some 14) _ = _
               simp only [Act.put, List.setIfInBounds_toArray, List.set_cons_zero, List.set_cons_succ, i64_w, i32_w]
               rfl
              refine pureA 3 15 (bz 37 15) rfl rfl (any_of HT_.out (by kernel_rfl)) ?_
              refine pureA 4 16 (bz 37 31) rfl rfl (any_of HT_.out (by kernel_rfl)) ?_
              refine pureA 5 17 (bz 37 63) rfl rfl (any_of HT_.out (by kernel_rfl)) ?_
              refine pureA 6 18 (bz 37 127) rfl rfl (any_of HT_.out (by kernel_rfl)) ?_
              refine pureA 7 19 (bz 37 255) rfl rfl (any_of HT_.out (by kernel_rfl)) ?_
              refine pureA 9 21 (bz 37 767) rfl rfl (any_of HT_.out (by kernel_rfl)) ?_
              refine pureA 10 22 (bz 37 1791) rfl rfl (any_of HT_.out (by kernel_rfl)) ?_
              refine pureA 14 26 (bz 37 18175) rfl rfl (any_of HT_.out (by kernel_rfl)) ?_
              refine takeA 8 20 (bz 37 18431) rfl rfl (take_ofW HT_.out HW_.out (by kernel_rfl)) hHeld (by rintro w' ⟨s0, s1, s2, s3, s4, s5, s6⟩; go_simp; with_reducible rfl) ?_
              refine pureA 11 23 (bz 37 20479) rfl rfl (any_of HT_.out (by kernel_rfl)) ?_
              refine pureA 12 24 (bz 37 24575) rfl rfl (any_of HT_.out (by kernel_rfl)) ?_
              refine takeA 13 25 (bz 37 32767) rfl rfl (take_ofW HT_.out HW_.out (by kernel_rfl)) hHeld (by rintro w' ⟨s0, s1, s2, s3, s4, s5, s6⟩; go_simp; with_reducible rfl) ?_
              refine takeA 15 27 (bz 37 65535) rfl rfl (take_ofW HT_.out HW_.out (by kernel_rfl)) hHeld (by rintro w' ⟨s0, s1, s2, s3, s4, s5, s6⟩; go_simp; with_reducible rfl) ?_
              refine pureA 16 28 (bz 37 131071) rfl rfl (any_of HT_.out (by kernel_rfl)) ?_
              refine pureA 17 29 (bz 37 262143) rfl rfl (any_of HT_.out (by kernel_rfl)) ?_
              refine pureA 18 30 (bz 37 524287) rfl rfl (any_of HT_.out (by kernel_rfl)) ?_
              refine pureA 19 31 (bz 37 1048575) rfl rfl (any_of HT_.out (by kernel_rfl)) ?_
              refine pureA 20 32 (bz 37 2097151) rfl rfl (any_of HT_.out (by kernel_rfl)) ?_
              refine takeA 21 33 (bz 37 4194303) rfl rfl (take_ofW HT_.out HW_.out (by kernel_rfl)) hHeld (by rintro w' ⟨s0, s1, s2, s3, s4, s5, s6⟩; go_simp; with_reducible rfl) ?_
              refine one_ (i := 22) (N := some 34) (bz 37 8388607) rfl rfl (one_of HT_.out (by kernel_rfl)) (by decide) (fun K hK => ?_)
              refine goes_ Try.func35 (by kernel_rfl) rfl #[.slice A220_1 ((rd_T63 l0 x7_1).f1).length c220_1] (by rfl) rfl rfl aE ?_
              with_reducible refine (impl_areNames.calls k1 _ _ ((rd_T63 l0 x7_1).f1) true _ ?side1 ?side2 A19.out).mono ?_
              (case side1 => exact cU (Kd.C_below HR220_1.out (lV2 GE216 GE221)))
              (case side2 => exact HC220_1.out)
              rintro e w' ⟨rfl, ⟨nd, rfl⟩⟩
              refine ⟨_, rfl, ?_⟩
              refine hK.out _ _ ⟨cz BK221 0 _, cz BK221 1 _, cz BK221 2 _, cz BK216 0 _, ((HB.out.cell (World.block_lt_of_cell? w _ hw223_0)).trans hw223_0), ((HB.out.cell (World.block_lt_of_cell? w _ hw223_1)).trans hw223_1), ((HB.out.cell (World.block_lt_of_cell? w _ hw223_2)).trans hw223_2)⟩ (fun hHeld => ?_)
              clear hK K
              refine norm_ (a' := ?_) ?_ ?_
              rotate_left
              ·show Act.put _ (some 34) _ = _
               simp only [Act.put, List.setIfInBounds_toArray, List.set_cons_zero, List.set_cons_succ, i64_w, i32_w]
               rfl
              refine pureA 23 35 (bz 37 16777215) rfl rfl (any_of HT_.out (by kernel_rfl)) ?_
              refine pureA 24 36 (bz 37 33554431) rfl rfl (any_of HT_.out (by kernel_rfl)) ?_
              refine pureA 25 37 (bz 37 67108863) rfl rfl (any_of HT_.out (by kernel_rfl)) ?_
              refine pureA 26 38 (bz 37 134217727) rfl rfl (any_of HT_.out (by kernel_rfl)) ?_
              refine takeA 27 39 (bz 37 268435455) rfl rfl (take_ofW HT_.out HW_.out (by kernel_rfl)) hHeld (by rintro w' ⟨s0, s1, s2, s3, s4, s5, s6⟩; go_simp; with_reducible rfl) ?_
              refine pureA 28 40 (bz 37 536870911) rfl rfl (any_of HT_.out (by kernel_rfl)) ?_
              refine pureA 29 41 (bz 37 1073741823) rfl rfl (any_of HT_.out (by kernel_rfl)) ?_
              refine pureA 30 42 (bz 37 2147483647) rfl rfl (any_of HT_.out (by kernel_rfl)) ?_
              refine pureA 31 43 (bz 37 4294967295) rfl rfl (any_of HT_.out (by kernel_rfl)) ?_
              refine pureA 32 44 (bz 37 8589934591) rfl rfl (any_of HT_.out (by kernel_rfl)) ?_
              refine takeA 33 45 (bz 37 17179869183) rfl rfl (take_ofW HT_.out HW_.out (by kernel_rfl)) hHeld (by rintro w' ⟨s0, s1, s2, s3, s4, s5, s6⟩; go_simp; with_reducible rfl) ?_
              refine pureA 34 46 (bz 37 34359738367) rfl rfl (any_of HT_.out (by kernel_rfl)) ?_
              refine pureA 35 47 (bz 37 68719476735) rfl rfl (any_of HT_.out (by kernel_rfl)) ?_
              refine pureA 36 48 (bz 37 137438953471) rfl rfl (any_of HT_.out (by kernel_rfl)) ?_
              refine done_ (done_of HT_.out (by kernel_rfl)) ?_
              try go_wp2
              go_meet
              case rel => exact ⟨_, (decide ((((rd_T63 l0 x7_1).f2).length : Int) > 400)), tE, H', ⟨by have := HK1.out; first | omega | exact Nat.le_refl _⟩, ⟨by refine bU ?_; exact BK216.out⟩, ⟨by refine bU ?_; exact BK221.out⟩, ⟨by repeat (first | (with_reducible first | exact HB.out | apply below_alloc | apply pw_below_drewN | apply below_drew1 | refine below_set ?_ GE216.out | refine below_set ?_ GE221.out) | exact HB.out)⟩⟩
            ·replace c20 := Bool.eq_false_iff.mpr c20
             subst c20
             have H1 : (impl_GoodAssets.j1 k1 l0 (l0.length : Int) x7_1 true l0 ((rd_T63 l0 x7_1).f0) ((rd_T63 l0 x7_1).f1) ((rd_T63 l0 x7_1).f2)) = some r := by rw [if_neg (show ¬ (false = true) by decide)] at H; exact H
             clear H
             have H := H1
             clear H1
             have H' := Aside0.mk H
             clear H
             try go_wp2
             replace BK216 := Aside0.mk (blk_drew BK216.out)
             replace BK221 := Aside0.mk (blk_drew BK221.out)
             replace HB := Aside0.mk (below_drew1 HB.out)
             have p223 : 0 ≤ ((ji15) : Int) := of_decide_eq_true hE
             have q223 : (ji15) < (l0.length : Int) := of_decide_eq_true hE
             obtain ⟨ad223, A223_1, c223_1, A223_2, c223_2, e223, hx223_0, hx223_1, hx223_2, hl223_1, hi223_1, hl223_2, hi223_2⟩ := at_T63 HR0.out (ji15) p223 q223
             have hw223_2 := hx223_2
             have hw223_1 := hx223_1
             have hw223_0 := hx223_0
             obtain rfl : ad220 = ad223 := (by injection e223)
             replace hx223_0 := (HB.out.cell (World.block_lt_of_cell? w _ hx223_0)).trans hx223_0
             replace hx223_1 := (HB.out.cell (World.block_lt_of_cell? w _ hx223_1)).trans hx223_1
             replace hx223_2 := (HB.out.cell (World.block_lt_of_cell? w _ hx223_2)).trans hx223_2
             have HR223_1 := Aside0.mk hi223_1
             have HC223_1 := Aside0.mk hl223_1
             clear hi223_1 hl223_1
             have HR223_2 := Aside0.mk hi223_2
             have HC223_2 := Aside0.mk hl223_2
             clear hi223_2 hl223_2
             replace p223 := eq_true p223
             replace q223 := eq_true q223
             refine start_ (n := 37) (S := fun w' => w'.cell? ⟨gb221, 0, none⟩ = some (.string ((rd_T63 l0 x7_1).f0)) ∧ w'.cell? ⟨gb221, 1, none⟩ = some (.slice A220_1 ((rd_T63 l0 x7_1).f1).length c220_1) ∧ w'.cell? ⟨gb221, 2, none⟩ = some (.slice A220_2 ((rd_T63 l0 x7_1).f2).length c220_2) ∧ w'.cell? ⟨gb216, 0, none⟩ = some (.slice (some ad220) l0.length c0) ∧ w'.cell? (ad220.add (((ji15)).toNat * 3)) = some (.string ((rd_T63 l0 (ji15)).f0)) ∧ w'.cell? ⟨(ad220.add (((ji15)).toNat * 3)).block, (ad220.add (((ji15)).toNat * 3)).off + 1, none⟩ = some (.slice A223_1 ((rd_T63 l0 (ji15)).f1).length c223_1) ∧ w'.cell? ⟨(ad220.add (((ji15)).toNat * 3)).block, (ad220.add (((ji15)).toNat * 3)).off + 2, none⟩ = some (.slice A223_2 ((rd_T63 l0 (ji15)).f2).length c223_2)) (ds := []) #[false, false, false, false, false, false, false, false, false, false, false, false, false, false, false, false, false, false, false, false, false, false, false, false, false, false, false, false, false, false, false, false, false, false, false, false, false] (by kernel_rfl) rfl rfl ⟨cz BK221 0 _, cz BK221 1 _, cz BK221 2 _, cz BK216 0 _, ((HB.out.cell (World.block_lt_of_cell? w _ hw223_0)).trans hw223_0), ((HB.out.cell (World.block_lt_of_cell? w _ hw223_1)).trans hw223_1), ((HB.out.cell (World.block_lt_of_cell? w _ hw223_2)).trans hw223_2)⟩ (fun hHeld => ?_); refine with_tabW impl_GoodAssets.tab4 impl_GoodAssets.bits4 (fun HT_ HW_ => ?_)
             generalize w11.drew = w24 at BK216 BK221 HB HR223_1 HR223_2 hx223_0 hx223_1 hx223_2 hHeld ⊢
             refine pureA 0 12 (bz 37 1) rfl rfl (any_of HT_.out (by kernel_rfl)) ?_
             refine takeA 1 13 (bz 37 3) rfl rfl (take_ofW HT_.out HW_.out (by kernel_rfl)) hHeld (by rintro w' ⟨s0, s1, s2, s3, s4, s5, s6⟩; go_simp; with_reducible rfl) ?_
             refine one_ (i := 2) (N := some 14) (bz 37 7) rfl rfl (one_of HT_.out (by kernel_rfl)) (by decide) (fun K hK => ?_)
             refine goes_ Try.func34 (by kernel_rfl) rfl #[.string ((rd_T63 l0 x7_1).f0)] (by rfl) rfl rfl aE ?_
             with_reducible refine (impl_GoodName.calls k1 ((rd_T63 l0 x7_1).f0) true _ A12.out).mono ?_
             rintro e w' ⟨rfl, ⟨nd, rfl⟩⟩
             refine ⟨_, rfl, ?_⟩
             refine hK.out _ _ ⟨cz BK221 0 _, cz BK221 1 _, cz BK221 2 _, cz BK216 0 _, ((HB.out.cell (World.block_lt_of_cell? w _ hw223_0)).trans hw223_0), ((HB.out.cell (World.block_lt_of_cell? w _ hw223_1)).trans hw223_1), ((HB.out.cell (World.block_lt_of_cell? w _ hw223_2)).trans hw223_2)⟩ (fun hHeld => ?_)
             clear hK K
             refine norm_ (a' := ?_) ?_ ?_
             rotate_left
             ·show Act.put _ (some 14) _ = _
              simp only [Act.put, List.setIfInBounds_toArray, List.set_cons_zero, List.set_cons_succ, i64_w, i32_w]
              rfl
             refine pureA 3 15 (bz 37 15) rfl rfl (any_of HT_.out (by kernel_rfl)) ?_
             refine pureA 4 16 (bz 37 31) rfl rfl (any_of HT_.out (by kernel_rfl)) ?_
             refine pureA 5 17 (bz 37 63) rfl rfl (any_of HT_.out (by kernel_rfl)) ?_
             refine pureA 6 18 (bz 37 127) rfl rfl (any_of HT_.out (by kernel_rfl)) ?_
             refine pureA 7 19 (bz 37 255) rfl rfl (any_of HT_.out (by kernel_rfl)) ?_
             refine pureA 9 21 (bz 37 767) rfl rfl (any_of HT_.out (by kernel_rfl)) ?_
             refine pureA 10 22 (bz 37 1791) rfl rfl (any_of HT_.out (by kernel_rfl)) ?_
             refine pureA 14 26 (bz 37 18175) rfl rfl (any_of HT_.out (by kernel_rfl)) ?_
             refine takeA 8 20 (bz 37 18431) rfl rfl (take_ofW HT_.out HW_.out (by kernel_rfl)) hHeld (by rintro w' ⟨s0, s1, s2, s3, s4, s5, s6⟩; go_simp; with_reducible rfl) ?_
             refine pureA 11 23 (bz 37 20479) rfl rfl (any_of HT_.out (by kernel_rfl)) ?_
             refine pureA 12 24 (bz 37 24575) rfl rfl (any_of HT_.out (by kernel_rfl)) ?_
             refine takeA 13 25 (bz 37 32767) rfl rfl (take_ofW HT_.out HW_.out (by kernel_rfl)) hHeld (by rintro w' ⟨s0, s1, s2, s3, s4, s5, s6⟩; go_simp; with_reducible rfl) ?_
             refine takeA 15 27 (bz 37 65535) rfl rfl (take_ofW HT_.out HW_.out (by kernel_rfl)) hHeld (by rintro w' ⟨s0, s1, s2, s3, s4, s5, s6⟩; go_simp; with_reducible rfl) ?_
             refine pureA 16 28 (bz 37 131071) rfl rfl (any_of HT_.out (by kernel_rfl)) ?_
             refine pureA 17 29 (bz 37 262143) rfl rfl (any_of HT_.out (by kernel_rfl)) ?_
             refine pureA 18 30 (bz 37 524287) rfl rfl (any_of HT_.out (by kernel_rfl)) ?_
             refine pureA 19 31 (bz 37 1048575) rfl rfl (any_of HT_.out (by kernel_rfl)) ?_
             refine pureA 20 32 (bz 37 2097151) rfl rfl (any_of HT_.out (by kernel_rfl)) ?_
             refine takeA 21 33 (bz 37 4194303) rfl rfl (take_ofW HT_.out HW_.out (by kernel_rfl)) hHeld (by rintro w' ⟨s0, s1, s2, s3, s4, s5, s6⟩; go_simp; with_reducible rfl) ?_
             refine one_ (i := 22) (N := some 34) (bz 37 8388607) rfl rfl (one_of HT_.out (by kernel_rfl)) (by decide) (fun K hK => ?_)
             refine goes_ Try.func35 (by kernel_rfl) rfl #[.slice A220_1 ((rd_T63 l0 x7_1).f1).length c220_1] (by rfl) rfl rfl aE ?_
             with_reducible refine (impl_areNames.calls k1 _ _ ((rd_T63 l0 x7_1).f1) false _ ?side1 ?side2 A19.out).mono ?_
             (case side1 => exact cU (Kd.C_below HR220_1.out (lV2 GE216 GE221)))
             (case side2 => exact HC220_1.out)
             rintro e w' ⟨rfl, ⟨nd, rfl⟩⟩
             refine ⟨_, rfl, ?_⟩
             refine hK.out _ _ ⟨cz BK221 0 _, cz BK221 1 _, cz BK221 2 _, cz BK216 0 _, ((HB.out.cell (World.block_lt_of_cell? w _ hw223_0)).trans hw223_0), ((HB.out.cell (World.block_lt_of_cell? w _ hw223_1)).trans hw223_1), ((HB.out.cell (World.block_lt_of_cell? w _ hw223_2)).trans hw223_2)⟩ (fun hHeld => ?_)
             clear hK K
             refine norm_ (a' := ?_) ?_ ?_
             rotate_left
             ·show Act.put _ (some 34) _ = _
              simp only [Act.put, List.setIfInBounds_toArray, List.set_cons_zero, List.set_cons_succ, i64_w, i32_w]
              rfl
             refine pureA 23 35 (bz 37 16777215) rfl rfl (any_of HT_.out (by kernel_rfl)) ?_
             refine pureA 24 36 (bz 37 33554431) rfl rfl (any_of HT_.out (by kernel_rfl)) ?_
             refine pureA 25 37 (bz 37 67108863) rfl rfl (any_of HT_.out (by kernel_rfl)) ?_
             refine pureU 26 38 (bz 37 134217727) rfl rfl (any_of HT_.out (by kernel_rfl)) ?_
             refine pureU 27 39 (bz 37 268435455) rfl rfl (any_of HT_.out (by kernel_rfl)) ?_
             refine pureU 28 40 (bz 37 536870911) rfl rfl (any_of HT_.out (by kernel_rfl)) ?_
             refine pureU 29 41 (bz 37 1073741823) rfl rfl (any_of HT_.out (by kernel_rfl)) ?_
             refine pureA 30 42 (bz 37 2147483647) rfl rfl (any_of HT_.out (by kernel_rfl)) ?_
             refine pureA 31 43 (bz 37 4294967295) rfl rfl (any_of HT_.out (by kernel_rfl)) ?_
             refine pureU 32 44 (bz 37 8589934591) rfl rfl (any_of HT_.out (by kernel_rfl)) ?_
             refine pureU 33 45 (bz 37 17179869183) rfl rfl (any_of HT_.out (by kernel_rfl)) ?_
             refine pureU 34 46 (bz 37 34359738367) rfl rfl (any_of HT_.out (by kernel_rfl)) ?_
             refine pureU 35 47 (bz 37 68719476735) rfl rfl (any_of HT_.out (by kernel_rfl)) ?_
             refine pureA 36 48 (bz 37 137438953471) rfl rfl (any_of HT_.out (by kernel_rfl)) ?_
             refine done_ (done_of HT_.out (by kernel_rfl)) ?_
             try go_wp2
             go_meet
             case rel => exact ⟨_, (true), tE, H', ⟨by have := HK1.out; first | omega | exact Nat.le_refl _⟩, ⟨by refine bU ?_; exact BK216.out⟩, ⟨by refine bU ?_; exact BK221.out⟩, ⟨by repeat (first | (with_reducible first | exact HB.out | apply below_alloc | apply pw_below_drewN | apply below_drew1 | refine below_set ?_ GE216.out | refine below_set ?_ GE221.out) | exact HB.out)⟩⟩
           ·rw [if_neg c18] at H
            have c18b0 : (Op.bytesLess (((rd_T63 l0 (ji15)).f0).toList) (((rd_T63 l0 x7_1).f0).toList)) = false := by simpa using c18
            clear c18
            have H' := Aside0.mk H
            clear H
            try go_wp2
            replace BK216 := Aside0.mk (blk_drew BK216.out)
            replace BK221 := Aside0.mk (blk_drew BK221.out)
            replace HB := Aside0.mk (below_drew1 HB.out)
            have p223 : 0 ≤ ((ji15) : Int) := of_decide_eq_true hE
            have q223 : (ji15) < (l0.length : Int) := of_decide_eq_true hE
            obtain ⟨ad223, A223_1, c223_1, A223_2, c223_2, e223, hx223_0, hx223_1, hx223_2, hl223_1, hi223_1, hl223_2, hi223_2⟩ := at_T63 HR0.out (ji15) p223 q223
            have hw223_2 := hx223_2
            have hw223_1 := hx223_1
            have hw223_0 := hx223_0
            obtain rfl : ad220 = ad223 := (by injection e223)
            replace hx223_0 := (HB.out.cell (World.block_lt_of_cell? w _ hx223_0)).trans hx223_0
            replace hx223_1 := (HB.out.cell (World.block_lt_of_cell? w _ hx223_1)).trans hx223_1
            replace hx223_2 := (HB.out.cell (World.block_lt_of_cell? w _ hx223_2)).trans hx223_2
            have HR223_1 := Aside0.mk hi223_1
            have HC223_1 := Aside0.mk hl223_1
            clear hi223_1 hl223_1
            have HR223_2 := Aside0.mk hi223_2
            have HC223_2 := Aside0.mk hl223_2
            clear hi223_2 hl223_2
            replace p223 := eq_true p223
            replace q223 := eq_true q223
            refine start_ (n := 37) (S := fun w' => w'.cell? ⟨gb221, 0, none⟩ = some (.string ((rd_T63 l0 x7_1).f0)) ∧ w'.cell? ⟨gb221, 1, none⟩ = some (.slice A220_1 ((rd_T63 l0 x7_1).f1).length c220_1) ∧ w'.cell? ⟨gb221, 2, none⟩ = some (.slice A220_2 ((rd_T63 l0 x7_1).f2).length c220_2) ∧ w'.cell? ⟨gb216, 0, none⟩ = some (.slice (some ad220) l0.length c0) ∧ w'.cell? (ad220.add (((ji15)).toNat * 3)) = some (.string ((rd_T63 l0 (ji15)).f0)) ∧ w'.cell? ⟨(ad220.add (((ji15)).toNat * 3)).block, (ad220.add (((ji15)).toNat * 3)).off + 1, none⟩ = some (.slice A223_1 ((rd_T63 l0 (ji15)).f1).length c223_1) ∧ w'.cell? ⟨(ad220.add (((ji15)).toNat * 3)).block, (ad220.add (((ji15)).toNat * 3)).off + 2, none⟩ = some (.slice A223_2 ((rd_T63 l0 (ji15)).f2).length c223_2)) (ds := []) #[false, false, false, false, false, false, false, false, false, false, false, false, false, false, false, false, false, false, false, false, false, false, false, false, false, false, false, false, false, false, false, false, false, false, false, false, false] (by kernel_rfl) rfl rfl ⟨cz BK221 0 _, cz BK221 1 _, cz BK221 2 _, cz BK216 0 _, ((HB.out.cell (World.block_lt_of_cell? w _ hw223_0)).trans hw223_0), ((HB.out.cell (World.block_lt_of_cell? w _ hw223_1)).trans hw223_1), ((HB.out.cell (World.block_lt_of_cell? w _ hw223_2)).trans hw223_2)⟩ (fun hHeld => ?_); refine with_tabW impl_GoodAssets.tab4 impl_GoodAssets.bits4 (fun HT_ HW_ => ?_)
            generalize w11.drew = w25 at BK216 BK221 HB HR223_1 HR223_2 hx223_0 hx223_1 hx223_2 hHeld ⊢
            refine pureA 0 12 (bz 37 1) rfl rfl (any_of HT_.out (by kernel_rfl)) ?_
            refine takeA 1 13 (bz 37 3) rfl rfl (take_ofW HT_.out HW_.out (by kernel_rfl)) hHeld (by rintro w' ⟨s0, s1, s2, s3, s4, s5, s6⟩; go_simp; with_reducible rfl) ?_
            refine one_ (i := 2) (N := some 14) (bz 37 7) rfl rfl (one_of HT_.out (by kernel_rfl)) (by decide) (fun K hK => ?_)
            refine goes_ Try.func34 (by kernel_rfl) rfl #[.string ((rd_T63 l0 x7_1).f0)] (by rfl) rfl rfl aE ?_
            with_reducible refine (impl_GoodName.calls k1 ((rd_T63 l0 x7_1).f0) true _ A12.out).mono ?_
            rintro e w' ⟨rfl, ⟨nd, rfl⟩⟩
            refine ⟨_, rfl, ?_⟩
            refine hK.out _ _ ⟨cz BK221 0 _, cz BK221 1 _, cz BK221 2 _, cz BK216 0 _, ((HB.out.cell (World.block_lt_of_cell? w _ hw223_0)).trans hw223_0), ((HB.out.cell (World.block_lt_of_cell? w _ hw223_1)).trans hw223_1), ((HB.out.cell (World.block_lt_of_cell? w _ hw223_2)).trans hw223_2)⟩ (fun hHeld => ?_)
            clear hK K
            refine norm_ (a' := ?_) ?_ ?_
            rotate_left
            ·show Act.put _ (some 14) _ = _
             simp only [Act.put, List.setIfInBounds_toArray, List.set_cons_zero, List.set_cons_succ, i64_w, i32_w]
             rfl
            refine pureA 3 15 (bz 37 15) rfl rfl (any_of HT_.out (by kernel_rfl)) ?_
            refine pureA 4 16 (bz 37 31) rfl rfl (any_of HT_.out (by kernel_rfl)) ?_
            refine pureA 5 17 (bz 37 63) rfl rfl (any_of HT_.out (by kernel_rfl)) ?_
            refine pureA 6 18 (bz 37 127) rfl rfl (any_of HT_.out (by kernel_rfl)) ?_
            refine pureA 7 19 (bz 37 255) rfl rfl (any_of HT_.out (by kernel_rfl)) ?_
            refine pureA 9 21 (bz 37 767) rfl rfl (any_of HT_.out (by kernel_rfl)) ?_
            refine pureA 10 22 (bz 37 1791) rfl rfl (any_of HT_.out (by kernel_rfl)) ?_
            refine pureA 14 26 (bz 37 18175) rfl rfl (any_of HT_.out (by kernel_rfl)) ?_
            refine takeA 8 20 (bz 37 18431) rfl rfl (take_ofW HT_.out HW_.out (by kernel_rfl)) hHeld (by rintro w' ⟨s0, s1, s2, s3, s4, s5, s6⟩; go_simp; with_reducible rfl) ?_
            refine pureA 11 23 (bz 37 20479) rfl rfl (any_of HT_.out (by kernel_rfl)) ?_
            refine pureA 12 24 (bz 37 24575) rfl rfl (any_of HT_.out (by kernel_rfl)) ?_
            refine takeA 13 25 (bz 37 32767) rfl rfl (take_ofW HT_.out HW_.out (by kernel_rfl)) hHeld (by rintro w' ⟨s0, s1, s2, s3, s4, s5, s6⟩; go_simp; with_reducible rfl) ?_
            refine takeA 15 27 (bz 37 65535) rfl rfl (take_ofW HT_.out HW_.out (by kernel_rfl)) hHeld (by rintro w' ⟨s0, s1, s2, s3, s4, s5, s6⟩; go_simp; with_reducible rfl) ?_
            refine pureA 16 28 (bz 37 131071) rfl rfl (any_of HT_.out (by kernel_rfl)) ?_
            refine pureA 17 29 (bz 37 262143) rfl rfl (any_of HT_.out (by kernel_rfl)) ?_
            refine pureA 18 30 (bz 37 524287) rfl rfl (any_of HT_.out (by kernel_rfl)) ?_
            refine pureA 19 31 (bz 37 1048575) rfl rfl (any_of HT_.out (by kernel_rfl)) ?_
            refine pureU 20 32 (bz 37 2097151) rfl rfl (any_of HT_.out (by kernel_rfl)) ?_
            refine pureU 21 33 (bz 37 4194303) rfl rfl (any_of HT_.out (by kernel_rfl)) ?_
            refine pureU 22 34 (bz 37 8388607) rfl rfl (any_of HT_.out (by kernel_rfl)) ?_
            refine pureU 23 35 (bz 37 16777215) rfl rfl (any_of HT_.out (by kernel_rfl)) ?_
            refine pureA 24 36 (bz 37 33554431) rfl rfl (any_of HT_.out (by kernel_rfl)) ?_
            refine pureA 25 37 (bz 37 67108863) rfl rfl (any_of HT_.out (by kernel_rfl)) ?_
            refine pureU 26 38 (bz 37 134217727) rfl rfl (any_of HT_.out (by kernel_rfl)) ?_
            refine pureU 27 39 (bz 37 268435455) rfl rfl (any_of HT_.out (by kernel_rfl)) ?_
            refine pureU 28 40 (bz 37 536870911) rfl rfl (any_of HT_.out (by kernel_rfl)) ?_
            refine pureU 29 41 (bz 37 1073741823) rfl rfl (any_of HT_.out (by kernel_rfl)) ?_
            refine pureA 30 42 (bz 37 2147483647) rfl rfl (any_of HT_.out (by kernel_rfl)) ?_
            refine pureA 31 43 (bz 37 4294967295) rfl rfl (any_of HT_.out (by kernel_rfl)) ?_
            refine pureU 32 44 (bz 37 8589934591) rfl rfl (any_of HT_.out (by kernel_rfl)) ?_
            refine pureU 33 45 (bz 37 17179869183) rfl rfl (any_of HT_.out (by kernel_rfl)) ?_
            refine pureU 34 46 (bz 37 34359738367) rfl rfl (any_of HT_.out (by kernel_rfl)) ?_
            refine pureU 35 47 (bz 37 68719476735) rfl rfl (any_of HT_.out (by kernel_rfl)) ?_
            refine pureA 36 48 (bz 37 137438953471) rfl rfl (any_of HT_.out (by kernel_rfl)) ?_
            refine done_ (done_of HT_.out (by kernel_rfl)) ?_
            try go_wp2
            go_meet
            case rel => exact ⟨_, (true), tE, H', ⟨by have := HK1.out; first | omega | exact Nat.le_refl _⟩, ⟨by refine bU ?_; exact BK216.out⟩, ⟨by refine bU ?_; exact BK221.out⟩, ⟨by repeat (first | (with_reducible first | exact HB.out | apply below_alloc | apply pw_below_drewN | apply below_drew1 | refine below_set ?_ GE216.out | refine below_set ?_ GE221.out) | exact HB.out)⟩⟩
          ·rw [if_neg c17] at H
           exact absurd H (by simp)
         ·rw [if_neg c16] at H
          exact absurd H (by simp)
        ·rw [if_neg c14] at H
         have c14b0 : decide (0 < x7_1) = false := decide_eq_false c14
         clear c14
         (first | rw [c14b0] | (simp only [i64_w, i32_w]; rw [c14b0]) | (rw [c14b2]; simp only [Bool.not_false, Bool.not_true]) | skip)
         replace H := Option.bind_eq_some_iff.mp H
         obtain ⟨t225, A260, H⟩ := H
         replace H : (if t225 = true then (if (((rd_T63 l0 x7_1).f1).length : Int) > 10 then (impl_GoodAssets.j1 k1 l0 (l0.length : Int) x7_1 true l0 ((rd_T63 l0 x7_1).f0) ((rd_T63 l0 x7_1).f1) ((rd_T63 l0 x7_1).f2)) else (impl_GoodAssets.j1 k1 l0 (l0.length : Int) x7_1 (decide ((((rd_T63 l0 x7_1).f2).length : Int) > 400)) l0 ((rd_T63 l0 x7_1).f0) ((rd_T63 l0 x7_1).f1) ((rd_T63 l0 x7_1).f2))) else (impl_GoodAssets.j1 k1 l0 (l0.length : Int) x7_1 true l0 ((rd_T63 l0 x7_1).f0) ((rd_T63 l0 x7_1).f1) ((rd_T63 l0 x7_1).f2))) = some r := H
         have A26 := Aside0.mk A260
         clear A260
         by_cases c27 : t225 = true
         ·subst c27
          have H1 : (if (((rd_T63 l0 x7_1).f1).length : Int) > 10 then (impl_GoodAssets.j1 k1 l0 (l0.length : Int) x7_1 true l0 ((rd_T63 l0 x7_1).f0) ((rd_T63 l0 x7_1).f1) ((rd_T63 l0 x7_1).f2)) else (impl_GoodAssets.j1 k1 l0 (l0.length : Int) x7_1 (decide ((((rd_T63 l0 x7_1).f2).length : Int) > 400)) l0 ((rd_T63 l0 x7_1).f0) ((rd_T63 l0 x7_1).f1) ((rd_T63 l0 x7_1).f2))) = some r := by rw [if_pos rfl] at H; exact H
          clear H
          have H := H1
          clear H1
          by_cases c28 : (((rd_T63 l0 x7_1).f1).length : Int) > 10
          ·rw [if_pos c28] at H
           have c28b0 : decide (10 < (((rd_T63 l0 x7_1).f1).length : Int)) = true := decide_eq_true c28
           have c28b1 : decide (10 < ((rd_T63 l0 x7_1).f1).length) = true := decide_eq_true (by omega)
           clear c28
           have H' := Aside0.mk H
           clear H
           try go_wp2
           replace BK216 := Aside0.mk (blk_drew BK216.out)
           replace BK221 := Aside0.mk (blk_drew BK221.out)
           replace HB := Aside0.mk (below_drew1 HB.out)
           refine start_ (n := 37) (S := fun w' => w'.cell? ⟨gb221, 0, none⟩ = some (.string ((rd_T63 l0 x7_1).f0)) ∧ w'.cell? ⟨gb221, 1, none⟩ = some (.slice A220_1 ((rd_T63 l0 x7_1).f1).length c220_1) ∧ w'.cell? ⟨gb221, 2, none⟩ = some (.slice A220_2 ((rd_T63 l0 x7_1).f2).length c220_2)) (ds := []) #[false, false, false, false, false, false, false, false, false, false, false, false, false, false, false, false, false, false, false, false, false, false, false, false, false, false, false, false, false, false, false, false, false, false, false, false, false] (by kernel_rfl) rfl rfl ⟨cz BK221 0 _, cz BK221 1 _, cz BK221 2 _⟩ (fun hHeld => ?_); refine with_tabW impl_GoodAssets.tab4 impl_GoodAssets.bits4 (fun HT_ HW_ => ?_)
           generalize w11.drew = w29 at BK216 BK221 HB hHeld ⊢
           refine pureA 0 12 (bz 37 1) rfl rfl (any_of HT_.out (by kernel_rfl)) ?_
           refine takeA 1 13 (bz 37 3) rfl rfl (take_ofW HT_.out HW_.out (by kernel_rfl)) hHeld (by rintro w' ⟨s0, s1, s2⟩; go_simp; with_reducible rfl) ?_
           refine one_ (i := 2) (N := some 14) (bz 37 7) rfl rfl (one_of HT_.out (by kernel_rfl)) (by decide) (fun K hK => ?_)
           refine goes_ Try.func34 (by kernel_rfl) rfl #[.string ((rd_T63 l0 x7_1).f0)] (by rfl) rfl rfl aE ?_
           with_reducible refine (impl_GoodName.calls k1 ((rd_T63 l0 x7_1).f0) true _ A12.out).mono ?_
           rintro e w' ⟨rfl, ⟨nd, rfl⟩⟩
           refine ⟨_, rfl, ?_⟩
           refine hK.out _ _ ⟨cz BK221 0 _, cz BK221 1 _, cz BK221 2 _⟩ (fun hHeld => ?_)
           clear hK K
           refine norm_ (a' := ?_) ?_ ?_
           rotate_left
           ·show Act.put _ (some 14) _ = _
            simp only [Act.put, List.setIfInBounds_toArray, List.set_cons_zero, List.set_cons_succ, i64_w, i32_w]
            rfl
           refine pureA 3 15 (bz 37 15) rfl rfl (any_of HT_.out (by kernel_rfl)) ?_
           refine pureA 4 16 (bz 37 31) rfl rfl (any_of HT_.out (by kernel_rfl)) ?_
           refine pureA 5 17 (bz 37 63) rfl rfl (any_of HT_.out (by kernel_rfl)) ?_
           refine pureA 6 18 (bz 37 127) rfl rfl (any_of HT_.out (by kernel_rfl)) ?_
           refine pureA 7 19 (bz 37 255) rfl rfl (any_of HT_.out (by kernel_rfl)) ?_
           refine pureU 8 20 (bz 37 511) rfl rfl (any_of HT_.out (by kernel_rfl)) ?_
           refine pureU 9 21 (bz 37 1023) rfl rfl (any_of HT_.out (by kernel_rfl)) ?_
           refine pureU 10 22 (bz 37 2047) rfl rfl (any_of HT_.out (by kernel_rfl)) ?_
           refine pureU 11 23 (bz 37 4095) rfl rfl (any_of HT_.out (by kernel_rfl)) ?_
           refine pureU 12 24 (bz 37 8191) rfl rfl (any_of HT_.out (by kernel_rfl)) ?_
           refine pureU 13 25 (bz 37 16383) rfl rfl (any_of HT_.out (by kernel_rfl)) ?_
           refine pureU 14 26 (bz 37 32767) rfl rfl (any_of HT_.out (by kernel_rfl)) ?_
           refine pureU 15 27 (bz 37 65535) rfl rfl (any_of HT_.out (by kernel_rfl)) ?_
           refine pureU 16 28 (bz 37 131071) rfl rfl (any_of HT_.out (by kernel_rfl)) ?_
           refine pureA 17 29 (bz 37 262143) rfl rfl (any_of HT_.out (by kernel_rfl)) ?_
           refine pureA 18 30 (bz 37 524287) rfl rfl (any_of HT_.out (by kernel_rfl)) ?_
           refine pureA 19 31 (bz 37 1048575) rfl rfl (any_of HT_.out (by kernel_rfl)) ?_
           refine pureA 20 32 (bz 37 2097151) rfl rfl (any_of HT_.out (by kernel_rfl)) ?_
           refine takeA 21 33 (bz 37 4194303) rfl rfl (take_ofW HT_.out HW_.out (by kernel_rfl)) hHeld (by rintro w' ⟨s0, s1, s2⟩; go_simp; with_reducible rfl) ?_
           refine one_ (i := 22) (N := some 34) (bz 37 8388607) rfl rfl (one_of HT_.out (by kernel_rfl)) (by decide) (fun K hK => ?_)
           refine goes_ Try.func35 (by kernel_rfl) rfl #[.slice A220_1 ((rd_T63 l0 x7_1).f1).length c220_1] (by rfl) rfl rfl aE ?_
           with_reducible refine (impl_areNames.calls k1 _ _ ((rd_T63 l0 x7_1).f1) true _ ?side1 ?side2 A26.out).mono ?_
           (case side1 => exact cU (Kd.C_below HR220_1.out (lV2 GE216 GE221)))
           (case side2 => exact HC220_1.out)
           rintro e w' ⟨rfl, ⟨nd, rfl⟩⟩
           refine ⟨_, rfl, ?_⟩
           refine hK.out _ _ ⟨cz BK221 0 _, cz BK221 1 _, cz BK221 2 _⟩ (fun hHeld => ?_)
           clear hK K
           refine norm_ (a' := ?_) ?_ ?_
           rotate_left
           ·show Act.put _ (some 34) _ = _
            simp only [Act.put, List.setIfInBounds_toArray, List.set_cons_zero, List.set_cons_succ, i64_w, i32_w]
            rfl
           refine pureA 23 35 (bz 37 16777215) rfl rfl (any_of HT_.out (by kernel_rfl)) ?_
           refine pureA 24 36 (bz 37 33554431) rfl rfl (any_of HT_.out (by kernel_rfl)) ?_
           refine pureA 25 37 (bz 37 67108863) rfl rfl (any_of HT_.out (by kernel_rfl)) ?_
           refine pureA 26 38 (bz 37 134217727) rfl rfl (any_of HT_.out (by kernel_rfl)) ?_
           refine takeA 27 39 (bz 37 268435455) rfl rfl (take_ofW HT_.out HW_.out (by kernel_rfl)) hHeld (by rintro w' ⟨s0, s1, s2⟩; go_simp; with_reducible rfl) ?_
           refine pureA 28 40 (bz 37 536870911) rfl rfl (any_of HT_.out (by kernel_rfl)) ?_
           refine pureA 29 41 (bz 37 1073741823) rfl rfl (any_of HT_.out (by kernel_rfl)) ?_
           refine pureA 30 42 (bz 37 2147483647) rfl rfl (any_of HT_.out (by kernel_rfl)) ?_
           refine pureA 31 43 (bz 37 4294967295) rfl rfl (any_of HT_.out (by kernel_rfl)) ?_
           refine pureU 32 44 (bz 37 8589934591) rfl rfl (any_of HT_.out (by kernel_rfl)) ?_
           refine pureU 33 45 (bz 37 17179869183) rfl rfl (any_of HT_.out (by kernel_rfl)) ?_
           refine pureU 34 46 (bz 37 34359738367) rfl rfl (any_of HT_.out (by kernel_rfl)) ?_
           refine pureU 35 47 (bz 37 68719476735) rfl rfl (any_of HT_.out (by kernel_rfl)) ?_
           refine pureA 36 48 (bz 37 137438953471) rfl rfl (any_of HT_.out (by kernel_rfl)) ?_
           refine done_ (done_of HT_.out (by kernel_rfl)) ?_
           try go_wp2
           go_meet
           case rel => exact ⟨_, (true), tE, H', ⟨by have := HK1.out; first | omega | exact Nat.le_refl _⟩, ⟨by refine bU ?_; exact BK216.out⟩, ⟨by refine bU ?_; exact BK221.out⟩, ⟨by repeat (first | (with_reducible first | exact HB.out | apply below_alloc | apply pw_below_drewN | apply below_drew1 | refine below_set ?_ GE216.out | refine below_set ?_ GE221.out) | exact HB.out)⟩⟩
          ·rw [if_neg c28] at H
           have c28b0 : decide (10 < (((rd_T63 l0 x7_1).f1).length : Int)) = false := decide_eq_false c28
           have c28b1 : decide (10 < ((rd_T63 l0 x7_1).f1).length) = false := decide_eq_false (by omega)
           clear c28
           have H' := Aside0.mk H
           clear H
           try go_wp2
           replace BK216 := Aside0.mk (blk_drew BK216.out)
           replace BK221 := Aside0.mk (blk_drew BK221.out)
           replace HB := Aside0.mk (below_drew1 HB.out)
           refine start_ (n := 37) (S := fun w' => w'.cell? ⟨gb221, 0, none⟩ = some (.string ((rd_T63 l0 x7_1).f0)) ∧ w'.cell? ⟨gb221, 1, none⟩ = some (.slice A220_1 ((rd_T63 l0 x7_1).f1).length c220_1) ∧ w'.cell? ⟨gb221, 2, none⟩ = some (.slice A220_2 ((rd_T63 l0 x7_1).f2).length c220_2)) (ds := []) #[false, false, false, false, false, false, false, false, false, false, false, false, false, false, false, false, false, false, false, false, false, false, false, false, false, false, false, false, false, false, false, false, false, false, false, false, false] (by kernel_rfl) rfl rfl ⟨cz BK221 0 _, cz BK221 1 _, cz BK221 2 _⟩ (fun hHeld => ?_); refine with_tabW impl_GoodAssets.tab4 impl_GoodAssets.bits4 (fun HT_ HW_ => ?_)
           generalize w11.drew = w30 at BK216 BK221 HB hHeld ⊢
           refine pureA 0 12 (bz 37 1) rfl rfl (any_of HT_.out (by kernel_rfl)) ?_
           refine takeA 1 13 (bz 37 3) rfl rfl (take_ofW HT_.out HW_.out (by kernel_rfl)) hHeld (by rintro w' ⟨s0, s1, s2⟩; go_simp; with_reducible rfl) ?_
           refine one_ (i := 2) (N := some 14) (bz 37 7) rfl rfl (one_of HT_.out (by kernel_rfl)) (by decide) (fun K hK => ?_)
           refine goes_ Try.func34 (by kernel_rfl) rfl #[.string ((rd_T63 l0 x7_1).f0)] (by rfl) rfl rfl aE ?_
           with_reducible refine (impl_GoodName.calls k1 ((rd_T63 l0 x7_1).f0) true _ A12.out).mono ?_
           rintro e w' ⟨rfl, ⟨nd, rfl⟩⟩
           refine ⟨_, rfl, ?_⟩
           refine hK.out _ _ ⟨cz BK221 0 _, cz BK221 1 _, cz BK221 2 _⟩ (fun hHeld => ?_)
           clear hK K
           refine norm_ (a' := ?_) ?_ ?_
           rotate_left
           ·show Act.put _ (some 14) _ = _
            simp only [Act.put, List.setIfInBounds_toArray, List.set_cons_zero, List.set_cons_succ, i64_w, i32_w]
            rfl
           refine pureA 3 15 (bz 37 15) rfl rfl (any_of HT_.out (by kernel_rfl)) ?_
           refine pureA 4 16 (bz 37 31) rfl rfl (any_of HT_.out (by kernel_rfl)) ?_
           refine pureA 5 17 (bz 37 63) rfl rfl (any_of HT_.out (by kernel_rfl)) ?_
           refine pureA 6 18 (bz 37 127) rfl rfl (any_of HT_.out (by kernel_rfl)) ?_
           refine pureA 7 19 (bz 37 255) rfl rfl (any_of HT_.out (by kernel_rfl)) ?_
           refine pureU 8 20 (bz 37 511) rfl rfl (any_of HT_.out (by kernel_rfl)) ?_
           refine pureU 9 21 (bz 37 1023) rfl rfl (any_of HT_.out (by kernel_rfl)) ?_
           refine pureU 10 22 (bz 37 2047) rfl rfl (any_of HT_.out (by kernel_rfl)) ?_
           refine pureU 11 23 (bz 37 4095) rfl rfl (any_of HT_.out (by kernel_rfl)) ?_
           refine pureU 12 24 (bz 37 8191) rfl rfl (any_of HT_.out (by kernel_rfl)) ?_
           refine pureU 13 25 (bz 37 16383) rfl rfl (any_of HT_.out (by kernel_rfl)) ?_
           refine pureU 14 26 (bz 37 32767) rfl rfl (any_of HT_.out (by kernel_rfl)) ?_
           refine pureU 15 27 (bz 37 65535) rfl rfl (any_of HT_.out (by kernel_rfl)) ?_
           refine pureU 16 28 (bz 37 131071) rfl rfl (any_of HT_.out (by kernel_rfl)) ?_
           refine pureA 17 29 (bz 37 262143) rfl rfl (any_of HT_.out (by kernel_rfl)) ?_
           refine pureA 18 30 (bz 37 524287) rfl rfl (any_of HT_.out (by kernel_rfl)) ?_
           refine pureA 19 31 (bz 37 1048575) rfl rfl (any_of HT_.out (by kernel_rfl)) ?_
           refine pureA 20 32 (bz 37 2097151) rfl rfl (any_of HT_.out (by kernel_rfl)) ?_
           refine takeA 21 33 (bz 37 4194303) rfl rfl (take_ofW HT_.out HW_.out (by kernel_rfl)) hHeld (by rintro w' ⟨s0, s1, s2⟩; go_simp; with_reducible rfl) ?_
           refine one_ (i := 22) (N := some 34) (bz 37 8388607) rfl rfl (one_of HT_.out (by kernel_rfl)) (by decide) (fun K hK => ?_)
           refine goes_ Try.func35 (by kernel_rfl) rfl #[.slice A220_1 ((rd_T63 l0 x7_1).f1).length c220_1] (by rfl) rfl rfl aE ?_
           with_reducible refine (impl_areNames.calls k1 _ _ ((rd_T63 l0 x7_1).f1) true _ ?side1 ?side2 A26.out).mono ?_
           (case side1 => exact cU (Kd.C_below HR220_1.out (lV2 GE216 GE221)))
           (case side2 => exact HC220_1.out)
           rintro e w' ⟨rfl, ⟨nd, rfl⟩⟩
           refine ⟨_, rfl, ?_⟩
           refine hK.out _ _ ⟨cz BK221 0 _, cz BK221 1 _, cz BK221 2 _⟩ (fun hHeld => ?_)
           clear hK K
           refine norm_ (a' := ?_) ?_ ?_
           rotate_left
           ·show Act.put _ (some 34) _ = _
            simp only [Act.put, List.setIfInBounds_toArray, List.set_cons_zero, List.set_cons_succ, i64_w, i32_w]
            rfl
           refine pureA 23 35 (bz 37 16777215) rfl rfl (any_of HT_.out (by kernel_rfl)) ?_
           refine pureA 24 36 (bz 37 33554431) rfl rfl (any_of HT_.out (by kernel_rfl)) ?_
           refine pureA 25 37 (bz 37 67108863) rfl rfl (any_of HT_.out (by kernel_rfl)) ?_
           refine pureA 26 38 (bz 37 134217727) rfl rfl (any_of HT_.out (by kernel_rfl)) ?_
           refine takeA 27 39 (bz 37 268435455) rfl rfl (take_ofW HT_.out HW_.out (by kernel_rfl)) hHeld (by rintro w' ⟨s0, s1, s2⟩; go_simp; with_reducible rfl) ?_
           refine pureA 28 40 (bz 37 536870911) rfl rfl (any_of HT_.out (by kernel_rfl)) ?_
           refine pureA 29 41 (bz 37 1073741823) rfl rfl (any_of HT_.out (by kernel_rfl)) ?_
           refine pureA 30 42 (bz 37 2147483647) rfl rfl (any_of HT_.out (by kernel_rfl)) ?_
           refine pureA 31 43 (bz 37 4294967295) rfl rfl (any_of HT_.out (by kernel_rfl)) ?_
           refine pureA 32 44 (bz 37 8589934591) rfl rfl (any_of HT_.out (by kernel_rfl)) ?_
           refine takeA 33 45 (bz 37 17179869183) rfl rfl (take_ofW HT_.out HW_.out (by kernel_rfl)) hHeld (by rintro w' ⟨s0, s1, s2⟩; go_simp; with_reducible rfl) ?_
           refine pureA 34 46 (bz 37 34359738367) rfl rfl (any_of HT_.out (by kernel_rfl)) ?_
           refine pureA 35 47 (bz 37 68719476735) rfl rfl (any_of HT_.out (by kernel_rfl)) ?_
           refine pureA 36 48 (bz 37 137438953471) rfl rfl (any_of HT_.out (by kernel_rfl)) ?_
           refine done_ (done_of HT_.out (by kernel_rfl)) ?_
           try go_wp2
           go_meet
           case rel => exact ⟨_, (decide ((((rd_T63 l0 x7_1).f2).length : Int) > 400)), tE, H', ⟨by have := HK1.out; first | omega | exact Nat.le_refl _⟩, ⟨by refine bU ?_; exact BK216.out⟩, ⟨by refine bU ?_; exact BK221.out⟩, ⟨by repeat (first | (with_reducible first | exact HB.out | apply below_alloc | apply pw_below_drewN | apply below_drew1 | refine below_set ?_ GE216.out | refine below_set ?_ GE221.out) | exact HB.out)⟩⟩
         ·replace c27 := Bool.eq_false_iff.mpr c27
          subst c27
          have H1 : (impl_GoodAssets.j1 k1 l0 (l0.length : Int) x7_1 true l0 ((rd_T63 l0 x7_1).f0) ((rd_T63 l0 x7_1).f1) ((rd_T63 l0 x7_1).f2)) = some r := by rw [if_neg (show ¬ (false = true) by decide)] at H; exact H
          clear H
          have H := H1
          clear H1
          have H' := Aside0.mk H
          clear H
          try go_wp2
          replace BK216 := Aside0.mk (blk_drew BK216.out)
          replace BK221 := Aside0.mk (blk_drew BK221.out)
          replace HB := Aside0.mk (below_drew1 HB.out)
          refine start_ (n := 37) (S := fun w' => w'.cell? ⟨gb221, 0, none⟩ = some (.string ((rd_T63 l0 x7_1).f0)) ∧ w'.cell? ⟨gb221, 1, none⟩ = some (.slice A220_1 ((rd_T63 l0 x7_1).f1).length c220_1) ∧ w'.cell? ⟨gb221, 2, none⟩ = some (.slice A220_2 ((rd_T63 l0 x7_1).f2).length c220_2)) (ds := []) #[false, false, false, false, false, false, false, false, false, false, false, false, false, false, false, false, false, false, false, false, false, false, false, false, false, false, false, false, false, false, false, false, false, false, false, false, false] (by kernel_rfl) rfl rfl ⟨cz BK221 0 _, cz BK221 1 _, cz BK221 2 _⟩ (fun hHeld => ?_); refine with_tabW impl_GoodAssets.tab4 impl_GoodAssets.bits4 (fun HT_ HW_ => ?_)
          generalize w11.drew = w31 at BK216 BK221 HB hHeld ⊢
          refine pureA 0 12 (bz 37 1) rfl rfl (any_of HT_.out (by kernel_rfl)) ?_
          refine takeA 1 13 (bz 37 3) rfl rfl (take_ofW HT_.out HW_.out (by kernel_rfl)) hHeld (by rintro w' ⟨s0, s1, s2⟩; go_simp; with_reducible rfl) ?_
          refine one_ (i := 2) (N := some 14) (bz 37 7) rfl rfl (one_of HT_.out (by kernel_rfl)) (by decide) (fun K hK => ?_)
          refine goes_ Try.func34 (by kernel_rfl) rfl #[.string ((rd_T63 l0 x7_1).f0)] (by rfl) rfl rfl aE ?_
          with_reducible refine (impl_GoodName.calls k1 ((rd_T63 l0 x7_1).f0) true _ A12.out).mono ?_
          rintro e w' ⟨rfl, ⟨nd, rfl⟩⟩
          refine ⟨_, rfl, ?_⟩
          refine hK.out _ _ ⟨cz BK221 0 _, cz BK221 1 _, cz BK221 2 _⟩ (fun hHeld => ?_)
          clear hK K
          refine norm_ (a' := ?_) ?_ ?_
          rotate_left
          ·show Act.put _ (some 14) _ = _
           simp only [Act.put, List.setIfInBounds_toArray, List.set_cons_zero, List.set_cons_succ, i64_w, i32_w]
           rfl
          refine pureA 3 15 (bz 37 15) rfl rfl (any_of HT_.out (by kernel_rfl)) ?_
          refine pureA 4 16 (bz 37 31) rfl rfl (any_of HT_.out (by kernel_rfl)) ?_
          refine pureA 5 17 (bz 37 63) rfl rfl (any_of HT_.out (by kernel_rfl)) ?_
          refine pureA 6 18 (bz 37 127) rfl rfl (any_of HT_.out (by kernel_rfl)) ?_
          refine pureA 7 19 (bz 37 255) rfl rfl (any_of HT_.out (by kernel_rfl)) ?_
          refine pureU 8 20 (bz 37 511) rfl rfl (any_of HT_.out (by kernel_rfl)) ?_
          refine pureU 9 21 (bz 37 1023) rfl rfl (any_of HT_.out (by kernel_rfl)) ?_
          refine pureU 10 22 (bz 37 2047) rfl rfl (any_of HT_.out (by kernel_rfl)) ?_
          refine pureU 11 23 (bz 37 4095) rfl rfl (any_of HT_.out (by kernel_rfl)) ?_
          refine pureU 12 24 (bz 37 8191) rfl rfl (any_of HT_.out (by kernel_rfl)) ?_
          refine pureU 13 25 (bz 37 16383) rfl rfl (any_of HT_.out (by kernel_rfl)) ?_
          refine pureU 14 26 (bz 37 32767) rfl rfl (any_of HT_.out (by kernel_rfl)) ?_
          refine pureU 15 27 (bz 37 65535) rfl rfl (any_of HT_.out (by kernel_rfl)) ?_
          refine pureU 16 28 (bz 37 131071) rfl rfl (any_of HT_.out (by kernel_rfl)) ?_
          refine pureA 17 29 (bz 37 262143) rfl rfl (any_of HT_.out (by kernel_rfl)) ?_
          refine pureA 18 30 (bz 37 524287) rfl rfl (any_of HT_.out (by kernel_rfl)) ?_
          refine pureA 19 31 (bz 37 1048575) rfl rfl (any_of HT_.out (by kernel_rfl)) ?_
          refine pureA 20 32 (bz 37 2097151) rfl rfl (any_of HT_.out (by kernel_rfl)) ?_
          refine takeA 21 33 (bz 37 4194303) rfl rfl (take_ofW HT_.out HW_.out (by kernel_rfl)) hHeld (by rintro w' ⟨s0, s1, s2⟩; go_simp; with_reducible rfl) ?_
          refine one_ (i := 22) (N := some 34) (bz 37 8388607) rfl rfl (one_of HT_.out (by kernel_rfl)) (by decide) (fun K hK => ?_)
          refine goes_ Try.func35 (by kernel_rfl) rfl #[.slice A220_1 ((rd_T63 l0 x7_1).f1).length c220_1] (by rfl) rfl rfl aE ?_
          with_reducible refine (impl_areNames.calls k1 _ _ ((rd_T63 l0 x7_1).f1) false _ ?side1 ?side2 A26.out).mono ?_
          (case side1 => exact cU (Kd.C_below HR220_1.out (lV2 GE216 GE221)))
          (case side2 => exact HC220_1.out)
          rintro e w' ⟨rfl, ⟨nd, rfl⟩⟩
          refine ⟨_, rfl, ?_⟩
          refine hK.out _ _ ⟨cz BK221 0 _, cz BK221 1 _, cz BK221 2 _⟩ (fun hHeld => ?_)
          clear hK K
          refine norm_ (a' := ?_) ?_ ?_
          rotate_left
          ·show Act.put _ (some 34) _ = _
           simp only [Act.put, List.setIfInBounds_toArray, List.set_cons_zero, List.set_cons_succ, i64_w, i32_w]
           rfl
          refine pureA 23 35 (bz 37 16777215) rfl rfl (any_of HT_.out (by kernel_rfl)) ?_
          refine pureA 24 36 (bz 37 33554431) rfl rfl (any_of HT_.out (by kernel_rfl)) ?_
          refine pureA 25 37 (bz 37 67108863) rfl rfl (any_of HT_.out (by kernel_rfl)) ?_
          refine pureU 26 38 (bz 37 134217727) rfl rfl (any_of HT_.out (by kernel_rfl)) ?_
          refine pureU 27 39 (bz 37 268435455) rfl rfl (any_of HT_.out (by kernel_rfl)) ?_
          refine pureU 28 40 (bz 37 536870911) rfl rfl (any_of HT_.out (by kernel_rfl)) ?_
          refine pureU 29 41 (bz 37 1073741823) rfl rfl (any_of HT_.out (by kernel_rfl)) ?_
          refine pureA 30 42 (bz 37 2147483647) rfl rfl (any_of HT_.out (by kernel_rfl)) ?_
          refine pureA 31 43 (bz 37 4294967295) rfl rfl (any_of HT_.out (by kernel_rfl)) ?_
          refine pureU 32 44 (bz 37 8589934591) rfl rfl (any_of HT_.out (by kernel_rfl)) ?_
          refine pureU 33 45 (bz 37 17179869183) rfl rfl (any_of HT_.out (by kernel_rfl)) ?_
          refine pureU 34 46 (bz 37 34359738367) rfl rfl (any_of HT_.out (by kernel_rfl)) ?_
          refine pureU 35 47 (bz 37 68719476735) rfl rfl (any_of HT_.out (by kernel_rfl)) ?_
          refine pureA 36 48 (bz 37 137438953471) rfl rfl (any_of HT_.out (by kernel_rfl)) ?_
          refine done_ (done_of HT_.out (by kernel_rfl)) ?_
          try go_wp2
          go_meet
          case rel => exact ⟨_, (true), tE, H', ⟨by have := HK1.out; first | omega | exact Nat.le_refl _⟩, ⟨by refine bU ?_; exact BK216.out⟩, ⟨by refine bU ?_; exact BK221.out⟩, ⟨by repeat (first | (with_reducible first | exact HB.out | apply below_alloc | apply pw_below_drewN | apply below_drew1 | refine below_set ?_ GE216.out | refine below_set ?_ GE221.out) | exact HB.out)⟩⟩
       ·replace c13 := Bool.eq_false_iff.mpr c13
        subst c13
        have H1 : (impl_GoodAssets.j1 k1 l0 (l0.length : Int) x7_1 true l0 ((rd_T63 l0 x7_1).f0) ((rd_T63 l0 x7_1).f1) ((rd_T63 l0 x7_1).f2)) = some r := by rw [if_neg (show ¬ (false = true) by decide)] at H; exact H
        clear H
        have H := H1
        clear H1
        have H' := Aside0.mk H
        clear H
        try go_wp2
        replace BK216 := Aside0.mk (blk_drew BK216.out)
        replace BK221 := Aside0.mk (blk_drew BK221.out)
        replace HB := Aside0.mk (below_drew1 HB.out)
        refine start_ (n := 37) (S := fun w' => w'.cell? ⟨gb221, 0, none⟩ = some (.string ((rd_T63 l0 x7_1).f0)) ∧ w'.cell? ⟨gb221, 1, none⟩ = some (.slice A220_1 ((rd_T63 l0 x7_1).f1).length c220_1) ∧ w'.cell? ⟨gb221, 2, none⟩ = some (.slice A220_2 ((rd_T63 l0 x7_1).f2).length c220_2)) (ds := []) #[false, false, false, false, false, false, false, false, false, false, false, false, false, false, false, false, false, false, false, false, false, false, false, false, false, false, false, false, false, false, false, false, false, false, false, false, false] (by kernel_rfl) rfl rfl ⟨cz BK221 0 _, cz BK221 1 _, cz BK221 2 _⟩ (fun hHeld => ?_); refine with_tabW impl_GoodAssets.tab4 impl_GoodAssets.bits4 (fun HT_ HW_ => ?_)
        generalize w11.drew = w32 at BK216 BK221 HB hHeld ⊢
        refine pureA 0 12 (bz 37 1) rfl rfl (any_of HT_.out (by kernel_rfl)) ?_
        refine takeA 1 13 (bz 37 3) rfl rfl (take_ofW HT_.out HW_.out (by kernel_rfl)) hHeld (by rintro w' ⟨s0, s1, s2⟩; go_simp; with_reducible rfl) ?_
        refine one_ (i := 2) (N := some 14) (bz 37 7) rfl rfl (one_of HT_.out (by kernel_rfl)) (by decide) (fun K hK => ?_)
        refine goes_ Try.func34 (by kernel_rfl) rfl #[.string ((rd_T63 l0 x7_1).f0)] (by rfl) rfl rfl aE ?_
        with_reducible refine (impl_GoodName.calls k1 ((rd_T63 l0 x7_1).f0) false _ A12.out).mono ?_
        rintro e w' ⟨rfl, ⟨nd, rfl⟩⟩
        refine ⟨_, rfl, ?_⟩
        refine hK.out _ _ ⟨cz BK221 0 _, cz BK221 1 _, cz BK221 2 _⟩ (fun hHeld => ?_)
        clear hK K
        refine norm_ (a' := ?_) ?_ ?_
        rotate_left
        ·show Act.put _ (some 14) _ = _
         simp only [Act.put, List.setIfInBounds_toArray, List.set_cons_zero, List.set_cons_succ, i64_w, i32_w]
         rfl
        refine pureA 3 15 (bz 37 15) rfl rfl (any_of HT_.out (by kernel_rfl)) ?_
        refine pureA 4 16 (bz 37 31) rfl rfl (any_of HT_.out (by kernel_rfl)) ?_
        refine pureU 5 17 (bz 37 63) rfl rfl (any_of HT_.out (by kernel_rfl)) ?_
        refine pureU 6 18 (bz 37 127) rfl rfl (any_of HT_.out (by kernel_rfl)) ?_
        refine pureU 7 19 (bz 37 255) rfl rfl (any_of HT_.out (by kernel_rfl)) ?_
        refine pureU 8 20 (bz 37 511) rfl rfl (any_of HT_.out (by kernel_rfl)) ?_
        refine pureU 9 21 (bz 37 1023) rfl rfl (any_of HT_.out (by kernel_rfl)) ?_
        refine pureU 10 22 (bz 37 2047) rfl rfl (any_of HT_.out (by kernel_rfl)) ?_
        refine pureU 11 23 (bz 37 4095) rfl rfl (any_of HT_.out (by kernel_rfl)) ?_
        refine pureU 12 24 (bz 37 8191) rfl rfl (any_of HT_.out (by kernel_rfl)) ?_
        refine pureU 13 25 (bz 37 16383) rfl rfl (any_of HT_.out (by kernel_rfl)) ?_
        refine pureU 14 26 (bz 37 32767) rfl rfl (any_of HT_.out (by kernel_rfl)) ?_
        refine pureU 15 27 (bz 37 65535) rfl rfl (any_of HT_.out (by kernel_rfl)) ?_
        refine pureU 16 28 (bz 37 131071) rfl rfl (any_of HT_.out (by kernel_rfl)) ?_
        refine pureU 17 29 (bz 37 262143) rfl rfl (any_of HT_.out (by kernel_rfl)) ?_
        refine pureA 18 30 (bz 37 524287) rfl rfl (any_of HT_.out (by kernel_rfl)) ?_
        refine pureA 19 31 (bz 37 1048575) rfl rfl (any_of HT_.out (by kernel_rfl)) ?_
        refine pureU 20 32 (bz 37 2097151) rfl rfl (any_of HT_.out (by kernel_rfl)) ?_
        refine pureU 21 33 (bz 37 4194303) rfl rfl (any_of HT_.out (by kernel_rfl)) ?_
        refine pureU 22 34 (bz 37 8388607) rfl rfl (any_of HT_.out (by kernel_rfl)) ?_
        refine pureU 23 35 (bz 37 16777215) rfl rfl (any_of HT_.out (by kernel_rfl)) ?_
        refine pureA 24 36 (bz 37 33554431) rfl rfl (any_of HT_.out (by kernel_rfl)) ?_
        refine pureA 25 37 (bz 37 67108863) rfl rfl (any_of HT_.out (by kernel_rfl)) ?_
        refine pureU 26 38 (bz 37 134217727) rfl rfl (any_of HT_.out (by kernel_rfl)) ?_
        refine pureU 27 39 (bz 37 268435455) rfl rfl (any_of HT_.out (by kernel_rfl)) ?_
        refine pureU 28 40 (bz 37 536870911) rfl rfl (any_of HT_.out (by kernel_rfl)) ?_
        refine pureU 29 41 (bz 37 1073741823) rfl rfl (any_of HT_.out (by kernel_rfl)) ?_
        refine pureA 30 42 (bz 37 2147483647) rfl rfl (any_of HT_.out (by kernel_rfl)) ?_
        refine pureA 31 43 (bz 37 4294967295) rfl rfl (any_of HT_.out (by kernel_rfl)) ?_
        refine pureU 32 44 (bz 37 8589934591) rfl rfl (any_of HT_.out (by kernel_rfl)) ?_
        refine pureU 33 45 (bz 37 17179869183) rfl rfl (any_of HT_.out (by kernel_rfl)) ?_
        refine pureU 34 46 (bz 37 34359738367) rfl rfl (any_of HT_.out (by kernel_rfl)) ?_
        refine pureU 35 47 (bz 37 68719476735) rfl rfl (any_of HT_.out (by kernel_rfl)) ?_
        refine pureA 36 48 (bz 37 137438953471) rfl rfl (any_of HT_.out (by kernel_rfl)) ?_
        refine done_ (done_of HT_.out (by kernel_rfl)) ?_
        try go_wp2
        go_meet
        case rel => exact ⟨_, (true), tE, H', ⟨by have := HK1.out; first | omega | exact Nat.le_refl _⟩, ⟨by refine bU ?_; exact BK216.out⟩, ⟨by refine bU ?_; exact BK221.out⟩, ⟨by repeat (first | (with_reducible first | exact HB.out | apply below_alloc | apply pw_below_drewN | apply below_drew1 | refine below_set ?_ GE216.out | refine below_set ?_ GE221.out) | exact HB.out)⟩⟩
      case rest =>
       clear HC7
       try clear c1
       try clear c2
       try clear p2
       try clear c3
       try clear c13
       try clear c22
       try clear c27
       obtain ⟨kq, x48_6, rfl, HA, HJ6, BK216, BK221, HB⟩ := hcut
       cases kq with
       | zero => exact absurd HA.out (by simp [impl_GoodAssets.j1])
       | succ kj6 =>
        have H := HA.out
        clear HA
        simp only [impl_GoodAssets.j1] at H
        by_cases c33 : x48_6 = true
        ·subst c33
         have H1 : (some false) = some r := by rw [if_pos rfl] at H; exact H
         clear H
         have H := H1
         clear H1
         obtain rfl := Option.some.inj H
         go_wp2
         go_ret
         exact ⟨eE, lV2 GE216 GE221⟩
        ·replace c33 := Bool.eq_false_iff.mpr c33
         subst c33
         have H1 : ((slices_ContainsFunc_w37.f kj6 ((rd_T63 l0 x7_1).f1) l0).bind fun t226 => (if t226 = true then (some false) else (impl_GoodAssets.l0 kj6 l0 (l0.length : Int) (wrap64 (x7_1 + 1)) l0))) = some r := by rw [if_neg (show ¬ (false = true) by decide)] at H; exact H
         clear H
         have H := H1
         clear H1
         replace H := Option.bind_eq_some_iff.mp H
         obtain ⟨t226, A340, H⟩ := H
         replace H : (if t226 = true then (some false) else (impl_GoodAssets.l0 kj6 l0 (l0.length : Int) (wrap64 (x7_1 + 1)) l0)) = some r := H
         have A34 := Aside0.mk A340
         clear A340
         by_cases c35 : t226 = true
         ·subst c35
          have H1 : (some false) = some r := by rw [if_pos rfl] at H; exact H
          clear H
          have H := H1
          clear H1
          obtain rfl := Option.some.inj H
          have hnb36 := NB221_216.out
          have hnc36 := NB216_221.out
          have hcz37_0 := cz BK221 0 (.string ((rd_T63 l0 x7_1).f0))
          have hcz37_1 := cz BK221 1 (.slice A220_1 ((rd_T63 l0 x7_1).f1).length c220_1)
          have hcz37_2 := cz BK221 2 (.slice A220_2 ((rd_T63 l0 x7_1).f2).length c220_2)
          have hfz37_0 := fz BK221 0
          have hfz37_1 := fz BK221 1
          have hfz37_2 := fz BK221 2
          go_wp2_with (first | ((with_reducible refine gate_callee (f := 36) rfl ?_); refine goesL_ (some 52) rfl rfl Try.func36 (by kernel_rfl) rfl #[.slice A220_1 ((rd_T63 l0 x7_1).f1).length c220_1, .func (.func 37) #[] #[.pointer (some ⟨gb216, 0, none⟩)]] rfl aE ?_; (with_reducible refine (slices_ContainsFunc_w37.calls kj6 _ _ ((rd_T63 l0 x7_1).f1) gb216 (some ad220) c0 l0 true _ ?side1 ?side2 ?side3 ?side4 ?side5 A34.out).mono ?_); (case side1 => exact cU (Kd.C_below HR220_1.out HB.out)); (case side2 => exact HC220_1.out); (case side3 => exact cU (Kd.C_below HR0.out HB.out)); (case side4 => exact HC0.out); (case side5 => refine bU ?_; exact BK216.out); rintro e w38 ⟨rfl, hb⟩; refine ⟨_, rfl, ?_⟩; replace BK216 := bB (bV BK216) hb; replace BK221 := bB (bV BK221) hb; replace HB := bH (lV2 GE216 GE221) hb; (try clear hb)))
          go_ret
          exact ⟨eE, lV2 GE216 GE221⟩
         ·replace c35 := Bool.eq_false_iff.mpr c35
          subst c35
          have H1 : (impl_GoodAssets.l0 kj6 l0 (l0.length : Int) (wrap64 (x7_1 + 1)) l0) = some r := by rw [if_neg (show ¬ (false = true) by decide)] at H; exact H
          clear H
          have H := H1
          clear H1
          have H' := Aside0.mk H
          clear H
          have hnb39 := NB221_216.out
          have hnc39 := NB216_221.out
          have hcz40_0 := cz BK221 0 (.string ((rd_T63 l0 x7_1).f0))
          have hcz40_1 := cz BK221 1 (.slice A220_1 ((rd_T63 l0 x7_1).f1).length c220_1)
          have hcz40_2 := cz BK221 2 (.slice A220_2 ((rd_T63 l0 x7_1).f2).length c220_2)
          have hfz40_0 := fz BK221 0
          have hfz40_1 := fz BK221 1
          have hfz40_2 := fz BK221 2
          go_wp2_with (first | ((with_reducible refine gate_callee (f := 36) rfl ?_); refine goesL_ (some 52) rfl rfl Try.func36 (by kernel_rfl) rfl #[.slice A220_1 ((rd_T63 l0 x7_1).f1).length c220_1, .func (.func 37) #[] #[.pointer (some ⟨gb216, 0, none⟩)]] rfl aE ?_; (with_reducible refine (slices_ContainsFunc_w37.calls kj6 _ _ ((rd_T63 l0 x7_1).f1) gb216 (some ad220) c0 l0 false _ ?side1 ?side2 ?side3 ?side4 ?side5 A34.out).mono ?_); (case side1 => exact cU (Kd.C_below HR220_1.out HB.out)); (case side2 => exact HC220_1.out); (case side3 => exact cU (Kd.C_below HR0.out HB.out)); (case side4 => exact HC0.out); (case side5 => refine bU ?_; exact BK216.out); rintro e w41 ⟨rfl, hb⟩; refine ⟨_, rfl, ?_⟩; replace BK216 := bB (bV BK216) hb; replace BK221 := bB (bV BK221) hb; replace HB := bH (lV2 GE216 GE221) hb; (try clear hb)))
          go_roundg kj6
          case measure => have := HK1.out; have := HJ6.out; omega
          case rel => exact ⟨(wrap64 (x7_1 + 1)), tE, H', ⟨by have := HK1.out; have := HJ6.out; omega⟩, ⟨by refine bU ?_; exact BK216.out⟩, ⟨by repeat (first | (with_reducible first | exact HB.out | apply below_alloc | apply pw_below_drewN | apply below_drew1 | refine below_set ?_ GE216.out | refine below_set ?_ GE221.out) | exact HB.out)⟩⟩
     ·rw [if_neg c6] at H
      exact absurd H (by simp)
    ·rw [if_neg c5] at H
     exact absurd H (by simp)
   ·rw [if_neg c4] at H
    have c4b0 : decide (x7_1 < (l0.length : Int)) = false := decide_eq_false c4
    clear c4
    by_cases c42 : (l0.length : Int) ≤ 30
    ·rw [if_pos c42] at H
     have c42b0 : decide ((l0.length : Int) ≤ 30) = true := decide_eq_true c42
     have c42b1 : decide (l0.length ≤ 30) = true := decide_eq_true (by omega)
     clear c42
     replace H := Option.bind_eq_some_iff.mp H
     obtain ⟨t217, A430, H⟩ := H
     replace H : (some ((t217.length : Int) == (l0.length : Int))) = some r := H
     have A43 := Aside0.mk A430
     clear A430
     obtain rfl := Option.some.inj H
     try go_wp2
     replace BK216 := Aside0.mk (blk_drew BK216.out)
     replace HB := Aside0.mk (below_drew1 HB.out)
     refine start_ (n := 12) (S := fun w' => w'.cell? ⟨gb216, 0, none⟩ = some (.slice A0 l0.length c0)) (ds := []) #[false, false, false, false, false, false, false, false, false, false, false, false] (by kernel_rfl) rfl rfl (cz BK216 0 _) (fun hHeld => ?_); refine with_tabW impl_GoodAssets.tab9 impl_GoodAssets.bits9 (fun HT_ HW_ => ?_)
     generalize wr.drew = w44 at BK216 HB hHeld ⊢
     refine take_ (i := 0) (N := some 54) (v := ?_) (a' := ?_) (bz 12 1) rfl rfl (take_ofW HT_.out HW_.out (by kernel_rfl)) (fun _ _ _ h => h) (Or.inl ⟨by rfl, ?_⟩) hHeld ?_ ?_
     rotate_left
     ·intro w' s0
      go_simp
      with_reducible rfl
     rotate_left
     ·simp only [Act.put, List.setIfInBounds_toArray, List.set_cons_zero, List.set_cons_succ, i64_w, i32_w]
      rfl
     refine pureA 1 55 (bz 12 3) rfl rfl (any_of HT_.out (by kernel_rfl)) ?_
     refine pureA 2 56 (bz 12 7) rfl rfl (any_of HT_.out (by kernel_rfl)) ?_
     refine pureA 3 57 (bz 12 15) rfl rfl (any_of HT_.out (by kernel_rfl)) ?_
     refine take_ (i := 4) (N := some 58) (v := ?_) (a' := ?_) (bz 12 31) rfl rfl (take_ofW HT_.out HW_.out (by kernel_rfl)) (fun _ _ _ h => h) (Or.inl ⟨by rfl, ?_⟩) hHeld ?_ ?_
     rotate_left
     ·intro w' s0
      go_simp
      with_reducible rfl
     rotate_left
     ·simp only [Act.put, List.setIfInBounds_toArray, List.set_cons_zero, List.set_cons_succ, i64_w, i32_w]
      rfl
     refine take_ (i := 7) (N := some 61) (v := ?_) (a' := ?_) (bz 12 159) rfl rfl (take_ofW HT_.out HW_.out (by kernel_rfl)) (fun _ _ _ h => h) (Or.inl ⟨by rfl, ?_⟩) hHeld ?_ ?_
     rotate_left
     ·intro w' s0
      go_simp
      with_reducible rfl
     rotate_left
     ·simp only [Act.put, List.setIfInBounds_toArray, List.set_cons_zero, List.set_cons_succ, i64_w, i32_w]
      rfl
     refine pureA 8 62 (bz 12 415) rfl rfl (any_of HT_.out (by kernel_rfl)) ?_
     refine one_ (i := 5) (N := some 59) (bz 12 447) rfl rfl (one_of HT_.out (by kernel_rfl)) (by decide) (fun K hK => ?_)
     refine goes_ Try.func39 (by kernel_rfl) rfl #[.slice A0 l0.length c0] (by rfl) rfl rfl aE ?_
     with_reducible refine (impl_makeOrder.calls k1 _ _ l0 t217 _ ?side1 ?side2 A43.out).mono ?_
     (case side1 => exact cU (Kd.C_below HR0.out HB.out))
     (case side2 => exact HC0.out)
     rintro e w45 ⟨v218, rfl, ho0, hb⟩
     refine ⟨_, rfl, ?_⟩
     have HO219 := Aside0.mk (Kd.R_lower ho0 (below_size (lV1 GE216)))
     replace BK216 := bB (bV BK216) hb
     replace HB := bH (lV1 GE216) hb
     (try clear hb)
     (try clear hb2)
     (try clear hk)
     (try clear hi)
     (try clear ho0)
     obtain ⟨Ao46, co46, eo46⟩ := Kd.R_slice HO219.out
     (first | subst eo46 | (injection eo46 with f1_ f2_ f3_; have f4_ := f1_.symm; have f5_ := f3_.symm; clear f1_ f2_ f3_; subst f4_; subst f5_))
     refine hK.out _ _ (cz BK216 0 _) (fun hHeld => ?_)
     clear hK K
     refine norm_ (a' := ?_) ?_ ?_
     rotate_left
     ·show Act.put _ (some 59) _ = _
      simp only [Act.put, List.setIfInBounds_toArray, List.set_cons_zero, List.set_cons_succ, i64_w, i32_w]
      rfl
     refine pureA 6 60 (bz 12 511) rfl rfl (any_of HT_.out (by kernel_rfl)) ?_
     refine pureA 9 63 (bz 12 1023) rfl rfl (any_of HT_.out (by kernel_rfl)) ?_
     refine pureA 10 64 (bz 12 2047) rfl rfl (any_of HT_.out (by kernel_rfl)) ?_
     refine pureA 11 2 (bz 12 4095) rfl rfl (any_of HT_.out (by kernel_rfl)) ?_
     refine done_ (done_of HT_.out (by kernel_rfl)) ?_
     try go_wp2
     go_ret
     exact ⟨eE, lV1 GE216⟩
    ·rw [if_neg c42] at H
     have c42b0 : decide ((l0.length : Int) ≤ 30) = false := decide_eq_false c42
     have c42b1 : decide (l0.length ≤ 30) = false := decide_eq_false (by omega)
     clear c42
     obtain rfl := Option.some.inj H
     try go_wp2
     replace BK216 := Aside0.mk (blk_drew BK216.out)
     replace HB := Aside0.mk (below_drew1 HB.out)
     refine start_ (n := 12) (S := fun w' => w'.cell? ⟨gb216, 0, none⟩ = some (.slice A0 l0.length c0)) (ds := []) #[false, false, false, false, false, false, false, false, false, false, false, false] (by kernel_rfl) rfl rfl (cz BK216 0 _) (fun hHeld => ?_); refine with_tabW impl_GoodAssets.tab9 impl_GoodAssets.bits9 (fun HT_ HW_ => ?_)
     generalize wr.drew = w47 at BK216 HB hHeld ⊢
     refine take_ (i := 0) (N := some 54) (v := ?_) (a' := ?_) (bz 12 1) rfl rfl (take_ofW HT_.out HW_.out (by kernel_rfl)) (fun _ _ _ h => h) (Or.inl ⟨by rfl, ?_⟩) hHeld ?_ ?_
     rotate_left
     ·intro w' s0
      go_simp
      with_reducible rfl
     rotate_left
     ·simp only [Act.put, List.setIfInBounds_toArray, List.set_cons_zero, List.set_cons_succ, i64_w, i32_w]
      rfl
     refine pureA 1 55 (bz 12 3) rfl rfl (any_of HT_.out (by kernel_rfl)) ?_
     refine pureA 2 56 (bz 12 7) rfl rfl (any_of HT_.out (by kernel_rfl)) ?_
     refine pureA 3 57 (bz 12 15) rfl rfl (any_of HT_.out (by kernel_rfl)) ?_
     refine pureU 4 58 (bz 12 31) rfl rfl (any_of HT_.out (by kernel_rfl)) ?_
     refine pureU 5 59 (bz 12 63) rfl rfl (any_of HT_.out (by kernel_rfl)) ?_
     refine pureU 6 60 (bz 12 127) rfl rfl (any_of HT_.out (by kernel_rfl)) ?_
     refine pureU 7 61 (bz 12 255) rfl rfl (any_of HT_.out (by kernel_rfl)) ?_
     refine pureU 8 62 (bz 12 511) rfl rfl (any_of HT_.out (by kernel_rfl)) ?_
     refine pureU 9 63 (bz 12 1023) rfl rfl (any_of HT_.out (by kernel_rfl)) ?_
     refine pureA 10 64 (bz 12 2047) rfl rfl (any_of HT_.out (by kernel_rfl)) ?_
     refine pureA 11 2 (bz 12 4095) rfl rfl (any_of HT_.out (by kernel_rfl)) ?_
     refine done_ (done_of HT_.out (by kernel_rfl)) ?_
     try go_wp2
     go_ret
     exact ⟨eE, lV1 GE216⟩
end Go.Proofs.Ytifejplilaefiaa.PFnExactMakeOrder
namespace Go.Proofs.Ytifejplilaefiaa.PFnExactMakeOrder
open Go.RowKit Go.Proofs.YtifejplilaefiaaW.PrintWords Go.Proofs.YtifejplilaefiaaW.PrintLast Go.Proofs.YtifejplilaefiaaW.PrintMore
attribute [local go_sem] max2_int min2_int max_two min_two max_three min_three max_four min_four   -- for this text's walks alone
set_option linter.unusedVariables false
set_option linter.unusedSimpArgs false
def impl_MakeOrder.f (k : Nat) (l0 : List (S63)) : Option (List ByteArray × Bool) := (impl_GoodAssets.f k l0).bind fun t227 => (if t227 = true then ((impl_makeOrder.f k l0).bind fun t228 => (some (t228, true))) else (some (([] : List ByteArray), false)))
theorem impl_MakeOrder.mono : ∀ a0 k, LeO (impl_MakeOrder.f k a0) (impl_MakeOrder.f (k + 1) a0) := by
 intro a0 k
 unfold impl_MakeOrder.f
 repeat' first
   | (with_reducible exact impl_GoodAssets.mono _ _)
   | (with_reducible exact impl_makeOrder.mono _ _)
   | (with_reducible exact LeO.refl _)
   | (with_reducible exact LeO.none _)
   | (with_reducible refine LeO.ite ?_ ?_)
   | (with_reducible refine LeO.bind ?_ (fun _ => ?_))
   | exact impl_GoodAssets.mono _ _
   | exact impl_makeOrder.mono _ _
   | exact LeO.none _
   | refine LeO.ite ?_ ?_
   | refine LeO.bind ?_ (fun _ => ?_)
set_option maxHeartbeats 8000000 in
set_option maxRecDepth 100000 in
theorem impl_MakeOrder.calls (k : Nat) (A0 : Option Addr) (c0 : Nat) (l0 : List (S63)) (r1 : List ByteArray) (r2 : Bool) (w : World) (hr0 : Kd.C k63 w A0 l0.length l0) (hc0 : l0.length ≤ c0) (h : impl_MakeOrder.f k l0 = some (r1, r2)) :
  Calls Try.prog 13 #[.slice A0 l0.length c0] w fun e w' => ∃ v0_ : Value, e = .returned (.tuple #[v0_, .bool r2]) ∧ Kd.R Kd.string 9 w' w.heap.size (fun _ => True) v0_ r1 ∧ Below w.heap.size w w' := by
 have HR0 := Aside0.mk hr0
 have HC0 := Aside0.mk hc0
 clear hr0 hc0
 have HB := Aside0.mk (Below.refl w.heap.size w)
 have H : ((impl_GoodAssets.f k l0).bind fun t227 => (if t227 = true then ((impl_makeOrder.f k l0).bind fun t228 => (some (t228, true))) else (some (([] : List ByteArray), false)))) = some (r1, r2) := h
 clear h
 replace H := Option.bind_eq_some_iff.mp H
 obtain ⟨t227, A20, H⟩ := H
 replace H : (if t227 = true then ((impl_makeOrder.f k l0).bind fun t228 => (some (t228, true))) else (some (([] : List ByteArray), false))) = some (r1, r2) := H
 have A2 := Aside0.mk A20
 clear A20
 by_cases c3 : t227 = true
 ·subst c3
  have H1 : ((impl_makeOrder.f k l0).bind fun t228 => (some (t228, true))) = some (r1, r2) := by rw [if_pos rfl] at H; exact H
  clear H
  have H := H1
  clear H1
  replace H := Option.bind_eq_some_iff.mp H
  obtain ⟨t228, A40, H⟩ := H
  replace H : (some (t228, true)) = some (r1, r2) := H
  have A4 := Aside0.mk A40
  clear A40
  simp only [Option.some.injEq, Prod.mk.injEq] at H
  obtain ⟨rfl, rfl⟩ := H
  go_enter Try.func13, Try.ntmps13
  go_wp2_with (first | ((with_reducible refine gate_callee (f := 10) rfl ?_); refine goesL_ (some 5) rfl rfl Try.func10 (by kernel_rfl) rfl #[.slice A0 l0.length c0] rfl aE ?_; (with_reducible refine (impl_GoodAssets.calls k _ _ l0 true _ ?side1 ?side2 A2.out).mono ?_); (case side1 => repeat (first | exact HR0.out | (with_reducible refine Kd.C_alloc ?_ _) | (with_reducible refine Kd.C_drewN ?_ _) | (with_reducible refine Kd.C_drew ?_))); (case side2 => exact HC0.out); rintro e w5 ⟨rfl, hb⟩; refine ⟨_, rfl, ?_⟩; replace HB := bH (lU) hb; (try clear hb)) | ((with_reducible refine gate_callee (f := 39) rfl ?_); refine goesL_ (some 8) rfl rfl Try.func39 (by kernel_rfl) rfl #[.slice A0 l0.length c0] rfl aE ?_; (with_reducible refine (impl_makeOrder.calls k _ _ l0 t228 _ ?side1 ?side2 A4.out).mono ?_); (case side1 => exact cU (Kd.C_below HR0.out HB.out)); (case side2 => exact HC0.out); rintro e w6 ⟨v229, rfl, ho0, hb⟩; refine ⟨_, rfl, ?_⟩; have HO230 := Aside0.mk (Kd.R_lower ho0 (below_size (lU))); replace HB := bH (lU) hb; (try clear hb); (try clear ho0)))
  go_ret2
  exact ⟨_, eE, by (with_reducible repeat (first | apply Kd.R_alloc | apply Kd.R_drewN | apply Kd.R_drew)); exact HO230.out, lU⟩
 ·replace c3 := Bool.eq_false_iff.mpr c3
  subst c3
  have H1 : (some (([] : List ByteArray), false)) = some (r1, r2) := by rw [if_neg (show ¬ (false = true) by decide)] at H; exact H
  clear H
  have H := H1
  clear H1
  simp only [Option.some.injEq, Prod.mk.injEq] at H
  obtain ⟨rfl, rfl⟩ := H
  go_enter Try.func13, Try.ntmps13
  go_wp2_with (first | ((with_reducible refine gate_callee (f := 10) rfl ?_); refine goesL_ (some 5) rfl rfl Try.func10 (by kernel_rfl) rfl #[.slice A0 l0.length c0] rfl aE ?_; (with_reducible refine (impl_GoodAssets.calls k _ _ l0 false _ ?side1 ?side2 A2.out).mono ?_); (case side1 => repeat (first | exact HR0.out | (with_reducible refine Kd.C_alloc ?_ _) | (with_reducible refine Kd.C_drewN ?_ _) | (with_reducible refine Kd.C_drew ?_))); (case side2 => exact HC0.out); rintro e w7 ⟨rfl, hb⟩; refine ⟨_, rfl, ?_⟩; replace HB := bH (lU) hb; (try clear hb)))
  go_ret2
  exact ⟨_, eE, by first | exact Kd.R_nil _ _ _ _ _ | exact Kd.N_nil _ _ _ _ _ | exact Kd.V_nil _ _ _ _ _ | exact Kd.Q_nil _ _ _ _ _ | exact Kd.S_nil _ _ _ _ _, lU⟩
def laws_markText.l0 : Nat → Int → ByteArray → Option (ByteArray)
 | 0, _, _ => none
 | k + 1, x0, x3 => if x0 > 0 then ((some (([(wrap64 (48 + (Int.tmod x0 10))) % 256] : List Int) : List Int)).bind fun y231 => (if (strOfNums y231).size + x3.size ≤ 9223372036854775807 then (laws_markText.l0 k (wrap64 (Int.tdiv x0 10)) ((strOfNums y231) ++ x3)) else (none))) else (if 1 + x3.size ≤ 9223372036854775807 then (some ((⟨#[109]⟩ : ByteArray) ++ x3)) else (none))
def laws_markText.f (k : Nat) (a0 : Int) : Option (ByteArray) := if a0 ≤ 0 then (some (⟨#[109, 48]⟩ : ByteArray)) else (laws_markText.l0 k a0 (⟨#[]⟩ : ByteArray))
theorem laws_markText.mono_l : ∀ k, (∀ y0 y1, LeO (laws_markText.l0 k y0 y1) (laws_markText.l0 (k + 1) y0 y1))
 | 0 => fun _ _ r h => by simp [laws_markText.l0] at h
 | k + 1 => by
  have ih0 := laws_markText.mono_l k
  ·intro y0 y1
   unfold laws_markText.l0
   repeat' first
   | (with_reducible exact ih0 _ _)
   | (with_reducible exact LeO.refl _)
   | (with_reducible exact LeO.none _)
   | (with_reducible refine LeO.ite ?_ ?_)
   | (with_reducible refine LeO.bind ?_ (fun _ => ?_))
   | exact ih0 _ _
   | exact LeO.none _
   | refine LeO.ite ?_ ?_
   | refine LeO.bind ?_ (fun _ => ?_)
theorem laws_markText.mono : ∀ a0 k, LeO (laws_markText.f k a0) (laws_markText.f (k + 1) a0) := by
 intro a0 k
 have ih0 := laws_markText.mono_l k
 unfold laws_markText.f
 repeat' first
   | (with_reducible exact ih0 _ _)
   | (with_reducible exact LeO.refl _)
   | (with_reducible exact LeO.none _)
   | (with_reducible refine LeO.ite ?_ ?_)
   | (with_reducible refine LeO.bind ?_ (fun _ => ?_))
   | exact ih0 _ _
   | exact LeO.none _
   | refine LeO.ite ?_ ?_
   | refine LeO.bind ?_ (fun _ => ?_)
set_option maxHeartbeats 8000000 in
set_option maxRecDepth 100000 in
theorem laws_markText.calls (k : Nat) (a0 : Int) (r : ByteArray) (w : World) (h : laws_markText.f k a0 = some r) :
  Calls Try.prog 41 #[.int .i64 a0] w fun e w' => e = .returned (.string r) ∧ Below w.heap.size w w' := by
 have HB := Aside0.mk (Below.refl w.heap.size w)
 have H : (if a0 ≤ 0 then (some (⟨#[109, 48]⟩ : ByteArray)) else (laws_markText.l0 k a0 (⟨#[]⟩ : ByteArray))) = some r := h
 clear h
 by_cases c2 : a0 ≤ 0
 ·rw [if_pos c2] at H
  have c2b0 : decide (a0 ≤ 0) = true := decide_eq_true c2
  clear c2
  obtain rfl := Option.some.inj H
  go_enter Try.func41, Try.ntmps41
  go_wp2
  go_ret
  exact ⟨eE, lU⟩
 ·rw [if_neg c2] at H
  have c2b0 : decide (a0 ≤ 0) = false := decide_eq_false c2
  clear c2
  have H' := Aside0.mk H
  clear H
  go_enter Try.func41, Try.ntmps41
  go_wp2
  go_loopg [0, 3] k (fun kq v0 v3 w' => ∃ (x0_1 : Int) (x3_1 : ByteArray), v0 = .int .i64 x0_1 ∧ v3 = .string x3_1 ∧ Aside0 (laws_markText.l0 kq x0_1 x3_1 = some r) ∧ Aside0 (kq ≤ k) ∧ Aside0 (Below w.heap.size w w'))
  case atStart => exact ⟨(a0), ((⟨#[]⟩ : ByteArray)), tE, tE, H', ⟨Nat.le_refl _⟩, ⟨by repeat (first | (with_reducible first | exact HB.out | apply below_alloc | apply pw_below_drewN | apply below_drew1) | exact HB.out)⟩⟩
  case round =>
   clear H'
   try clear c2
   try clear c2b0
   try clear p2
   obtain ⟨x0_1, x3_1, rfl, rfl, HA, HK1, HB⟩ := hrel
   cases gk with
   | zero => exact absurd HA.out (by simp [laws_markText.l0])
   | succ k1 =>
    have H := HA.out
    clear HA
    simp only [laws_markText.l0] at H
    by_cases c3 : x0_1 > 0
    ·rw [if_pos c3] at H
     have c3b0 : decide (0 < x0_1) = true := decide_eq_true c3
     clear c3
     obtain ⟨y231, hy231⟩ : ∃ y_ : List Int, y_ = (([(wrap64 (48 + (Int.tmod x0_1 10))) % 256] : List Int)) := ⟨_, rfl⟩
     replace H : (if (strOfNums y231).size + x3_1.size ≤ 9223372036854775807 then (laws_markText.l0 k1 (wrap64 (Int.tdiv x0_1 10)) ((strOfNums y231) ++ x3_1)) else (none)) = some r := by first | (rw [hy231]; with_reducible exact H) | (have H2_ := (Option.bind_some _ _).symm.trans H; rw [hy231]; with_reducible exact H2_) | (have H2_ := (Option.bind_some _ _).symm.trans H; with_reducible exact H2_) | with_reducible exact H | (rw [hy231]; exact H) | exact H
     have Ny231 := Aside0.mk hy231
     clear hy231
     by_cases c4 : (strOfNums y231).size + x3_1.size ≤ 9223372036854775807
     ·rw [if_pos c4] at H
      have c4b0 := eq_true c4
      have c4b1 : decide ((strOfNums y231).size + x3_1.size ≤ 9223372036854775807) = true := decide_eq_true c4
      try have c4b2 : (9223372036854775807 < (strOfNums y231).size + x3_1.size) = False := eq_false (Nat.not_lt.2 c4)
      have H' := Aside0.mk H
      clear H
      go_wp2_with (first | ((with_reducible refine gate_dst (N := 12) rfl ?_); refine Kd.R_lit (Kd.int .u8) _ 5 ?hg (N := 12) ?hd (xs := ([(wrap64 (48 + (Int.tmod x0_1 10))) % 256] : List Int)) (inner := [.int .u8 ((wrap64 (48 + (Int.tmod x0_1 10))) % 256)]) (ok := fun _ => True) (okp := fun _ => True) ?hr ?hp (fun _ hk => hk) trivial (Below.refl _ _) (Nat.le_refl _) (by simp) ?_; (case hd => rfl); (case hg => rfl); (case hr => exact sE); (case hp => exact (Reps.one (show Kd.M (Kd.int .u8) _ _ _ ((wrap64 (48 + (Int.tmod x0_1 10))) % 256) [.int .u8 ((wrap64 (48 + (Int.tmod x0_1 10))) % 256)] from rfl) (Reps.none _ _))); intro v232 w5 ho6 hb hg_ hnew_; clear hg_ hnew_; (first | rw [← Ny231.out] at ho6 | (simp only [Int.reduceToNat] at ho6; rw [← Ny231.out] at ho6)); have HO233 := Aside0.mk (Kd.R_lower ho6 (below_size (lU))); replace HB := bH (lU) hb; clear hb ho6; have hcv7 := own_string (P := Try.prog) Try.underlying60 Try.underlying5 Try.underlying9 (Kd.own_of_R HO233.out)))
      go_roundg k1
      case measure => have := HK1.out; omega
      case rel => exact ⟨(wrap64 (Int.tdiv x0_1 10)), ((strOfNums y231) ++ x3_1), tE, tE, H', ⟨by have := HK1.out; omega⟩, ⟨by repeat (first | (with_reducible first | exact HB.out | apply below_alloc | apply pw_below_drewN | apply below_drew1) | exact HB.out)⟩⟩
     ·rw [if_neg c4] at H
      exact absurd H (by simp)
    ·rw [if_neg c3] at H
     have c3b0 : decide (0 < x0_1) = false := decide_eq_false c3
     clear c3
     by_cases c8 : 1 + x3_1.size ≤ 9223372036854775807
     ·rw [if_pos c8] at H
      have c8b0 := eq_true c8
      have c8b1 : decide (1 + x3_1.size ≤ 9223372036854775807) = true := decide_eq_true c8
      try have c8b2 : (9223372036854775807 < 1 + x3_1.size) = False := eq_false (Nat.not_lt.2 c8)
      obtain rfl := Option.some.inj H
      go_wp2
      go_ret
      exact ⟨eE, lU⟩
     ·rw [if_neg c8] at H
      exact absurd H (by simp)
def laws_markStringS.l0 : Nat → List ByteArray → Int → Int → Option (Int × List ByteArray)
 | 0, _, _, _ => none
 | k + 1, x0, x1, x5 => if x5 < (x0.length : Int) then ((laws_markText.f k x1).bind fun t234 => (if 0 ≤ x5 then (laws_markStringS.l0 k (x0.set (x5 : Int).toNat t234) (wrap64 (x1 + 1)) (wrap64 (x5 + 1))) else (none))) else (some (x1, x0))
def laws_markStringS.f (k : Nat) (l0 : List ByteArray) (a1 : Int) : Option (Int × List ByteArray) := laws_markStringS.l0 k l0 a1 0
theorem laws_markStringS.mono_l : ∀ k, (∀ y0 y1 y2, LeO (laws_markStringS.l0 k y0 y1 y2) (laws_markStringS.l0 (k + 1) y0 y1 y2))
 | 0 => fun _ _ _ r h => by simp [laws_markStringS.l0] at h
 | k + 1 => by
  have ih0 := laws_markStringS.mono_l k
  ·intro y0 y1 y2
   unfold laws_markStringS.l0
   repeat' first
   | (with_reducible exact ih0 _ _ _)
   | (with_reducible exact laws_markText.mono _ _)
   | (with_reducible exact LeO.refl _)
   | (with_reducible exact LeO.none _)
   | (with_reducible refine LeO.ite ?_ ?_)
   | (with_reducible refine LeO.bind ?_ (fun _ => ?_))
   | exact ih0 _ _ _
   | exact laws_markText.mono _ _
   | exact LeO.none _
   | refine LeO.ite ?_ ?_
   | refine LeO.bind ?_ (fun _ => ?_)
theorem laws_markStringS.mono : ∀ a0 a1 k, LeO (laws_markStringS.f k a0 a1) (laws_markStringS.f (k + 1) a0 a1) := by
 intro a0 a1 k
 have ih0 := laws_markStringS.mono_l k
 unfold laws_markStringS.f
 repeat' first
   | (with_reducible exact ih0 _ _ _)
   | (with_reducible exact laws_markText.mono _ _)
   | (with_reducible exact LeO.refl _)
   | (with_reducible exact LeO.none _)
   | (with_reducible refine LeO.ite ?_ ?_)
   | (with_reducible refine LeO.bind ?_ (fun _ => ?_))
   | exact ih0 _ _ _
   | exact laws_markText.mono _ _
   | exact LeO.none _
   | refine LeO.ite ?_ ?_
   | refine LeO.bind ?_ (fun _ => ?_)
set_option maxHeartbeats 8000000 in
set_option maxRecDepth 100000 in
theorem laws_markStringS.calls (k : Nat) (P0_ : Nat → Prop) (u9000_ : Value) (l0 : List ByteArray) (a1 : Int) (r1 : Int) (r2 : List ByteArray) (w0 w : World) (hB : Below w0.heap.size w0 w) (ho0 : Kd.R Kd.string 9 w w0.heap.size P0_ u9000_ l0) (h : laws_markStringS.f k l0 a1 = some (r1, r2)) :
  Calls Try.prog 16 #[u9000_, .int .i64 a1] w fun e w' => e = .returned (.int .i64 r1) ∧ Kd.R Kd.string 9 w' w0.heap.size (fun k_ => (P0_ k_ ∨ w.heap.size ≤ k_)) u9000_ r2 ∧ Below w0.heap.size w0 w' ∧ Kept w w' (fun k_ => P0_ k_) := by
 have HO0 := Aside0.mk (show Kd.R Kd.string 9 w w0.heap.size (fun k_ => (P0_ k_ ∨ w.heap.size ≤ k_)) u9000_ l0 from Kd.R_mono ho0 (fun k_ hk => (.inl hk)))
 have HK := Aside0.mk (Kept.refl w (fun k_ => P0_ k_))
 have HW0 := Aside0.mk hB.size
 have HB := Aside0.mk hB
 clear hB
 have H : (laws_markStringS.l0 k l0 a1 0) = some (r1, r2) := h
 clear h
 have H' := Aside0.mk H
 clear H
 go_enter Try.func16, Try.ntmps16
 go_wp2
 go_loopg [1, 5] k (fun kq v1 v5 w' => ∃ (x0_1 : List ByteArray) (x1_1 : Int) (x5_1 : Int), v1 = .int .i64 x1_1 ∧ v5 = .int .i64 x5_1 ∧ Aside0 (laws_markStringS.l0 kq x0_1 x1_1 x5_1 = some (r1, r2)) ∧ Aside0 (kq ≤ k) ∧ Aside0 (Kd.R Kd.string 9 w' w0.heap.size (fun k_ => (P0_ k_ ∨ w.heap.size ≤ k_)) u9000_ x0_1) ∧ Aside0 (Kept w w' (fun k_ => P0_ k_)) ∧ Aside0 (Below w0.heap.size w0 w'))
 case atStart => exact ⟨(l0), (a1), (0), tE, tE, H', ⟨Nat.le_refl _⟩, ⟨by (with_reducible repeat (first | apply Kd.R_alloc | apply Kd.R_drewN | apply Kd.R_drew)); exact HO0.out⟩, ⟨by repeat (first | (with_reducible first | exact HK.out | apply Kept.alloc | apply Kept.drewN | apply Kept.drew) | exact HK.out)⟩, ⟨by repeat (first | (with_reducible first | exact HB.out | apply below_alloc | apply pw_below_drewN | apply below_drew1) | exact HB.out)⟩⟩
 case round =>
  clear H'
  try clear c1
  try clear p2
  obtain ⟨x0_1, x1_1, x5_1, rfl, rfl, HA, HK1, HO_0, HK, HB⟩ := hrel
  cases gk with
  | zero => exact absurd HA.out (by simp [laws_markStringS.l0])
  | succ k1 =>
   have H := HA.out
   clear HA
   simp only [laws_markStringS.l0] at H
   by_cases c3 : x5_1 < (x0_1.length : Int)
   ·rw [if_pos c3] at H
    have c3b0 : decide (x5_1 < (x0_1.length : Int)) = true := decide_eq_true c3
    clear c3
    replace H := Option.bind_eq_some_iff.mp H
    obtain ⟨t234, A40, H⟩ := H
    replace H : (if 0 ≤ x5_1 then (laws_markStringS.l0 k1 (x0_1.set (x5_1 : Int).toNat t234) (wrap64 (x1_1 + 1)) (wrap64 (x5_1 + 1))) else (none)) = some (r1, r2) := H
    have A4 := Aside0.mk A40
    clear A40
    by_cases c5 : 0 ≤ x5_1
    ·rw [if_pos c5] at H
     have c5b0 : decide (0 ≤ x5_1) = true := decide_eq_true c5
     clear c5
     obtain ⟨y235, hy235⟩ : ∃ y_ : List ByteArray, y_ = (x0_1.set (x5_1 : Int).toNat t234) := ⟨_, rfl⟩
     replace H : (laws_markStringS.l0 k1 y235 (wrap64 (x1_1 + 1)) (wrap64 (x5_1 + 1))) = some (r1, r2) := by first | (rw [hy235]; with_reducible exact H) | (have H2_ := (Option.bind_some _ _).symm.trans H; rw [hy235]; with_reducible exact H2_) | (have H2_ := (Option.bind_some _ _).symm.trans H; with_reducible exact H2_) | with_reducible exact H | (rw [hy235]; exact H) | exact H
     have Ny235 := Aside0.mk hy235
     clear hy235
     have H' := Aside0.mk H
     clear H
     obtain ⟨Ao7, co7, eo7⟩ := Kd.R_slice HO_0.out
     subst eo7
     go_wp2_with (first | ((with_reducible refine gate_callee (f := 41) rfl ?_); refine goesL_ (some 15) rfl rfl Try.func41 (by kernel_rfl) rfl #[.int .i64 x1_1] rfl aE ?_; (with_reducible refine (laws_markText.calls k1 x1_1 t234 _ A4.out).mono ?_); rintro e w8 ⟨rfl, hb⟩; refine ⟨_, rfl, ?_⟩; replace HO_0 := Aside0.mk (Kd.R_below (rU HO_0.out) hb); replace HK := Aside0.mk (Kept.below (S := (fun k_ => P0_ k_)) (by repeat (first | (with_reducible first | exact HK.out | apply Kept.alloc | apply Kept.drewN | apply Kept.drew) | exact HK.out)) hb); replace HB := bH (lU) hb; (try clear hb); have p6 : 0 ≤ (x5_1 : Int) := of_decide_eq_true hE; have q6 : (x5_1 : Int) < ((x0_1.length : Int) : Int) := of_decide_eq_true hE; obtain ⟨go6, co6, eo6, gb6, gl6, cl6, HG6⟩ := Kd.R_form HO_0.out (by omega); (first | cases eo6 | (injection eo6 with ea_ en_ ec_; (first | subst ea_ | (injection ea_ with ea_; subst ea_)); subst ec_; clear en_)); have GB6 := Aside0.mk gb6; have GG6 := Aside0.mk HG6; clear gb6 gl6 HG6; have HMgo6 := Aside0.mk (show (P0_ go6 ∨ w.heap.size ≤ go6) from (HO_0.out.1 _ rfl)); obtain ⟨hx6_0, hf6_0⟩ := Kd.R_celln (⟨#[]⟩ : ByteArray) HO_0.out (x5_1 : Int) p6 q6; replace p6 := eq_true p6; replace q6 := eq_true q6; obtain ⟨hy9_, hz9_⟩ := Kd.R_celln (⟨#[]⟩ : ByteArray) HO_0.out (x5_1 : Int) (of_decide_eq_true hE) (of_decide_eq_true hE); have HP9 := Kd.R_putg HO_0.out (x5_1 : Int) t234) | ((with_reducible refine gate_store (t := 9) (p := 16) rfl ?_); refine store_event (t := 9) (p := 16) (v := ?vo_w10) (w1 := (w8.setCell ⟨go6, (x5_1 : Int).toNat, none⟩ (.string t234))) ?hg ?ho ?hn ?hr ?_; (case ho => rfl); (case hg => rfl); (case hn => rfl); (case hr => exact sE); intro w10 hw; have hg : w8.grownBy w10 (some go6) := (by rw [hw]; exact HP9.2); have hp_ : Kd.R Kd.string 9 w10 w0.heap.size (fun k_ => (P0_ k_ ∨ w.heap.size ≤ k_)) (.slice (some ⟨go6, 0, none⟩) x0_1.length co7) y235 := (by rw [hw, Ny235.out]; exact HP9.1); clear HP9; replace HB := Aside0.mk ((by rw [hw]; exact below_set (HB.out) GB6.out : Below w0.heap.size w0 w10)); replace HK := Aside0.mk (Kept.of_grown (S := (fun k_ => P0_ k_)) hg (by repeat (first | (with_reducible first | exact HK.out | apply Kept.alloc | apply Kept.drewN | apply Kept.drew) | exact HK.out)) (fun k_ e_ => (HO_0.out.1 k_ e_))); replace HO_0 := Aside0.mk hp_; clear hg hw hp_))
     go_roundg k1
     case measure => have := HK1.out; omega
     case rel => exact ⟨(y235), (wrap64 (x1_1 + 1)), (wrap64 (x5_1 + 1)), tE, tE, H', ⟨by have := HK1.out; omega⟩, ⟨by (with_reducible repeat (first | apply Kd.R_alloc | apply Kd.R_drewN | apply Kd.R_drew)); exact HO_0.out⟩, ⟨by repeat (first | (with_reducible first | exact HK.out | apply Kept.alloc | apply Kept.drewN | apply Kept.drew) | exact HK.out)⟩, ⟨by repeat (first | (with_reducible first | exact HB.out | apply below_alloc | apply pw_below_drewN | apply below_drew1) | exact HB.out)⟩⟩
    ·rw [if_neg c5] at H
     exact absurd H (by simp)
   ·rw [if_neg c3] at H
    have c3b0 : decide (x5_1 < (x0_1.length : Int)) = false := decide_eq_false c3
    clear c3
    simp only [Option.some.injEq, Prod.mk.injEq] at H
    obtain ⟨rfl, rfl⟩ := H
    obtain ⟨Ao11, co11, eo11⟩ := Kd.R_slice HO_0.out
    subst eo11
    go_wp2
    go_ret
    exact ⟨eE, by (with_reducible repeat (first | apply Kd.R_alloc | apply Kd.R_drewN | apply Kd.R_drew)); exact HO_0.out, lU, by repeat (first | (with_reducible first | exact HK.out | apply Kept.alloc | apply Kept.drewN | apply Kept.drew) | exact HK.out)⟩
def laws_markByteS.l0 : Nat → List Int → Int → Int → Option (Int × List Int)
 | 0, _, _, _ => none
 | k + 1, x0, x1, x5 => if x5 < (x0.length : Int) then (if 0 ≤ x5 then (laws_markByteS.l0 k (x0.set (x5 : Int).toNat ((x1) % 256)) (wrap64 (x1 + 1)) (wrap64 (x5 + 1))) else (none)) else (some (x1, x0))
def laws_markByteS.f (k : Nat) (l0 : List Int) (a1 : Int) : Option (Int × List Int) := laws_markByteS.l0 k l0 a1 0
theorem laws_markByteS.mono_l : ∀ k, (∀ y0 y1 y2, LeO (laws_markByteS.l0 k y0 y1 y2) (laws_markByteS.l0 (k + 1) y0 y1 y2))
 | 0 => fun _ _ _ r h => by simp [laws_markByteS.l0] at h
 | k + 1 => by
  have ih0 := laws_markByteS.mono_l k
  ·intro y0 y1 y2
   unfold laws_markByteS.l0
   repeat' first
   | (with_reducible exact ih0 _ _ _)
   | (with_reducible exact LeO.refl _)
   | (with_reducible exact LeO.none _)
   | (with_reducible refine LeO.ite ?_ ?_)
   | (with_reducible refine LeO.bind ?_ (fun _ => ?_))
   | exact ih0 _ _ _
   | exact LeO.none _
   | refine LeO.ite ?_ ?_
   | refine LeO.bind ?_ (fun _ => ?_)
theorem laws_markByteS.mono : ∀ a0 a1 k, LeO (laws_markByteS.f k a0 a1) (laws_markByteS.f (k + 1) a0 a1) := by
 intro a0 a1 k
 have ih0 := laws_markByteS.mono_l k
 unfold laws_markByteS.f
 repeat' first
   | (with_reducible exact ih0 _ _ _)
   | (with_reducible exact LeO.refl _)
   | (with_reducible exact LeO.none _)
   | (with_reducible refine LeO.ite ?_ ?_)
   | (with_reducible refine LeO.bind ?_ (fun _ => ?_))
   | exact ih0 _ _ _
   | exact LeO.none _
   | refine LeO.ite ?_ ?_
   | refine LeO.bind ?_ (fun _ => ?_)
set_option maxHeartbeats 8000000 in
set_option maxRecDepth 100000 in
theorem laws_markByteS.calls (k : Nat) (P0_ : Nat → Prop) (u9000_ : Value) (l0 : List Int) (a1 : Int) (r1 : Int) (r2 : List Int) (w0 w : World) (hB : Below w0.heap.size w0 w) (ho0 : Kd.R (Kd.int .u8) 5 w w0.heap.size P0_ u9000_ l0) (h : laws_markByteS.f k l0 a1 = some (r1, r2)) :
  Calls Try.prog 42 #[u9000_, .int .i64 a1] w fun e w' => e = .returned (.int .i64 r1) ∧ Kd.R (Kd.int .u8) 5 w' w0.heap.size (fun k_ => (P0_ k_ ∨ w.heap.size ≤ k_)) u9000_ r2 ∧ Below w0.heap.size w0 w' ∧ Kept w w' (fun k_ => P0_ k_) := by
 have HO0 := Aside0.mk (show Kd.R (Kd.int .u8) 5 w w0.heap.size (fun k_ => (P0_ k_ ∨ w.heap.size ≤ k_)) u9000_ l0 from Kd.R_mono ho0 (fun k_ hk => (.inl hk)))
 have HK := Aside0.mk (Kept.refl w (fun k_ => P0_ k_))
 have HW0 := Aside0.mk hB.size
 have HB := Aside0.mk hB
 clear hB
 have H : (laws_markByteS.l0 k l0 a1 0) = some (r1, r2) := h
 clear h
 have H' := Aside0.mk H
 clear H
 go_enter Try.func42, Try.ntmps42
 go_wp2
 go_loopg [1, 5] k (fun kq v1 v5 w' => ∃ (x0_1 : List Int) (x1_1 : Int) (x5_1 : Int), v1 = .int .i64 x1_1 ∧ v5 = .int .i64 x5_1 ∧ Aside0 (laws_markByteS.l0 kq x0_1 x1_1 x5_1 = some (r1, r2)) ∧ Aside0 (kq ≤ k) ∧ Aside0 (Kd.R (Kd.int .u8) 5 w' w0.heap.size (fun k_ => (P0_ k_ ∨ w.heap.size ≤ k_)) u9000_ x0_1) ∧ Aside0 (Kept w w' (fun k_ => P0_ k_)) ∧ Aside0 (Below w0.heap.size w0 w'))
 case atStart => exact ⟨(l0), (a1), (0), tE, tE, H', ⟨Nat.le_refl _⟩, ⟨by (with_reducible repeat (first | apply Kd.R_alloc | apply Kd.R_drewN | apply Kd.R_drew)); exact HO0.out⟩, ⟨by repeat (first | (with_reducible first | exact HK.out | apply Kept.alloc | apply Kept.drewN | apply Kept.drew) | exact HK.out)⟩, ⟨by repeat (first | (with_reducible first | exact HB.out | apply below_alloc | apply pw_below_drewN | apply below_drew1) | exact HB.out)⟩⟩
 case round =>
  clear H'
  try clear p2
  obtain ⟨x0_1, x1_1, x5_1, rfl, rfl, HA, HK1, HO_0, HK, HB⟩ := hrel
  cases gk with
  | zero => exact absurd HA.out (by simp [laws_markByteS.l0])
  | succ k1 =>
   have H := HA.out
   clear HA
   simp only [laws_markByteS.l0] at H
   by_cases c3 : x5_1 < (x0_1.length : Int)
   ·rw [if_pos c3] at H
    have c3b0 : decide (x5_1 < (x0_1.length : Int)) = true := decide_eq_true c3
    clear c3
    by_cases c4 : 0 ≤ x5_1
    ·rw [if_pos c4] at H
     have c4b0 : decide (0 ≤ x5_1) = true := decide_eq_true c4
     clear c4
     obtain ⟨y236, hy236⟩ : ∃ y_ : List Int, y_ = (x0_1.set (x5_1 : Int).toNat ((x1_1) % 256)) := ⟨_, rfl⟩
     replace H : (laws_markByteS.l0 k1 y236 (wrap64 (x1_1 + 1)) (wrap64 (x5_1 + 1))) = some (r1, r2) := by first | (rw [hy236]; with_reducible exact H) | (have H2_ := (Option.bind_some _ _).symm.trans H; rw [hy236]; with_reducible exact H2_) | (have H2_ := (Option.bind_some _ _).symm.trans H; with_reducible exact H2_) | with_reducible exact H | (rw [hy236]; exact H) | exact H
     have Ny236 := Aside0.mk hy236
     clear hy236
     have H' := Aside0.mk H
     clear H
     obtain ⟨Ao6, co6, eo6⟩ := Kd.R_slice HO_0.out
     subst eo6
     have p5 : 0 ≤ (x5_1 : Int) := of_decide_eq_true hE
     have q5 : (x5_1 : Int) < ((x0_1.length : Int) : Int) := of_decide_eq_true hE
     obtain ⟨go5, co5, eo5, gb5, gl5, cl5, HG5⟩ := Kd.R_form HO_0.out (by omega)
     (first | cases eo5 | (injection eo5 with ea_ en_ ec_; (first | subst ea_ | (injection ea_ with ea_; subst ea_)); subst ec_; clear en_))
     have GB5 := Aside0.mk gb5
     have GG5 := Aside0.mk HG5
     clear gb5 gl5 HG5
     have HMgo5 := Aside0.mk (show (P0_ go5 ∨ w.heap.size ≤ go5) from (HO_0.out.1 _ rfl))
     obtain ⟨hx5_0, hf5_0⟩ := Kd.R_celln 0 HO_0.out (x5_1 : Int) p5 q5
     replace p5 := eq_true p5
     replace q5 := eq_true q5
     have HP7 := Kd.R_putg HO_0.out (x5_1 : Int) ((x1_1) % 256)
     go_wp2_with (first | ((with_reducible refine gate_store (t := 5) (p := 16) rfl ?_); refine store_event (t := 5) (p := 16) (v := ?vo_w8) (w1 := (wr.setCell ⟨go5, (x5_1 : Int).toNat, none⟩ (.int .u8 ((x1_1) % 256)))) ?hg ?ho ?hn ?hr ?_; (case ho => rfl); (case hg => rfl); (case hn => rfl); (case hr => exact sE); intro w8 hw; have hg : wr.grownBy w8 (some go5) := (by rw [hw]; exact HP7.2); have hp_ : Kd.R (Kd.int .u8) 5 w8 w0.heap.size (fun k_ => (P0_ k_ ∨ w.heap.size ≤ k_)) (.slice (some ⟨go5, 0, none⟩) x0_1.length co6) y236 := (by rw [hw, Ny236.out]; exact HP7.1); clear HP7; replace HB := Aside0.mk ((by rw [hw]; exact below_set (HB.out) GB5.out : Below w0.heap.size w0 w8)); replace HK := Aside0.mk (Kept.of_grown (S := (fun k_ => P0_ k_)) hg (by repeat (first | (with_reducible first | exact HK.out | apply Kept.alloc | apply Kept.drewN | apply Kept.drew) | exact HK.out)) (fun k_ e_ => (HO_0.out.1 k_ e_))); replace HO_0 := Aside0.mk hp_; clear hg hw hp_))
     go_roundg k1
     case measure => have := HK1.out; omega
     case rel => exact ⟨(y236), (wrap64 (x1_1 + 1)), (wrap64 (x5_1 + 1)), tE, tE, H', ⟨by have := HK1.out; omega⟩, ⟨by (with_reducible repeat (first | apply Kd.R_alloc | apply Kd.R_drewN | apply Kd.R_drew)); exact HO_0.out⟩, ⟨by repeat (first | (with_reducible first | exact HK.out | apply Kept.alloc | apply Kept.drewN | apply Kept.drew) | exact HK.out)⟩, ⟨by repeat (first | (with_reducible first | exact HB.out | apply below_alloc | apply pw_below_drewN | apply below_drew1) | exact HB.out)⟩⟩
    ·rw [if_neg c4] at H
     exact absurd H (by simp)
   ·rw [if_neg c3] at H
    have c3b0 : decide (x5_1 < (x0_1.length : Int)) = false := decide_eq_false c3
    clear c3
    simp only [Option.some.injEq, Prod.mk.injEq] at H
    obtain ⟨rfl, rfl⟩ := H
    obtain ⟨Ao9, co9, eo9⟩ := Kd.R_slice HO_0.out
    subst eo9
    go_wp2
    go_ret
    exact ⟨eE, by (with_reducible repeat (first | apply Kd.R_alloc | apply Kd.R_drewN | apply Kd.R_drew)); exact HO_0.out, lU, by repeat (first | (with_reducible first | exact HK.out | apply Kept.alloc | apply Kept.drewN | apply Kept.drew) | exact HK.out)⟩
def laws_markAssetS.l0 : Nat → List (S63) → Int → Int → Option (Int × (List (S63)))
 | 0, _, _, _ => none
 | k + 1, x0, x1, x5 => if x5 < (x0.length : Int) then ((laws_markText.f k x1).bind fun t237 => (if 0 ≤ x5 then ((some (x0.set (x5 : Int).toNat (⟨t237, (rd_T63 x0 x5).f1, (rd_T63 x0 x5).f2⟩ : S63) : List (S63))).bind fun y238 => ((laws_markStringS.f k ((rd_T63 y238 x5).f1) (wrap64 (x1 + 1))).bind fun bt240 => ((some (y238.set (x5 : Int).toNat (⟨(rd_T63 y238 x5).f0, bt240.2, (rd_T63 y238 x5).f2⟩ : S63) : List (S63))).bind fun y242 => ((laws_markByteS.f k ((rd_T63 y242 x5).f2) bt240.1).bind fun bt244 => (laws_markAssetS.l0 k (y242.set (x5 : Int).toNat (⟨(rd_T63 y242 x5).f0, (rd_T63 y242 x5).f1, bt244.2⟩ : S63)) bt244.1 (wrap64 (x5 + 1))))))) else (none))) else (some (x1, x0))
def laws_markAssetS.f (k : Nat) (l0 : List (S63)) (a1 : Int) : Option (Int × (List (S63))) := laws_markAssetS.l0 k l0 a1 0
theorem laws_markAssetS.mono_l : ∀ k, (∀ y0 y1 y2, LeO (laws_markAssetS.l0 k y0 y1 y2) (laws_markAssetS.l0 (k + 1) y0 y1 y2))
 | 0 => fun _ _ _ r h => by simp [laws_markAssetS.l0] at h
 | k + 1 => by
  have ih0 := laws_markAssetS.mono_l k
  ·intro y0 y1 y2
   unfold laws_markAssetS.l0
   repeat' first
   | (with_reducible exact ih0 _ _ _)
   | (with_reducible exact laws_markByteS.mono _ _ _)
   | (with_reducible exact laws_markStringS.mono _ _ _)
   | (with_reducible exact laws_markText.mono _ _)
   | (with_reducible exact LeO.refl _)
   | (with_reducible exact LeO.none _)
   | (with_reducible refine LeO.ite ?_ ?_)
   | (with_reducible refine LeO.bind ?_ (fun _ => ?_))
   | exact ih0 _ _ _
   | exact laws_markByteS.mono _ _ _
   | exact laws_markStringS.mono _ _ _
   | exact laws_markText.mono _ _
   | exact LeO.none _
   | refine LeO.ite ?_ ?_
   | refine LeO.bind ?_ (fun _ => ?_)
theorem laws_markAssetS.mono : ∀ a0 a1 k, LeO (laws_markAssetS.f k a0 a1) (laws_markAssetS.f (k + 1) a0 a1) := by
 intro a0 a1 k
 have ih0 := laws_markAssetS.mono_l k
 unfold laws_markAssetS.f
 repeat' first
   | (with_reducible exact ih0 _ _ _)
   | (with_reducible exact laws_markByteS.mono _ _ _)
   | (with_reducible exact laws_markStringS.mono _ _ _)
   | (with_reducible exact laws_markText.mono _ _)
   | (with_reducible exact LeO.refl _)
   | (with_reducible exact LeO.none _)
   | (with_reducible refine LeO.ite ?_ ?_)
   | (with_reducible refine LeO.bind ?_ (fun _ => ?_))
   | exact ih0 _ _ _
   | exact laws_markByteS.mono _ _ _
   | exact laws_markStringS.mono _ _ _
   | exact laws_markText.mono _ _
   | exact LeO.none _
   | refine LeO.ite ?_ ?_
   | refine LeO.bind ?_ (fun _ => ?_)
set_option maxHeartbeats 8000000 in
set_option maxRecDepth 100000 in
theorem laws_markAssetS.calls (k : Nat) (P0_ : Nat → Prop) (u9000_ : Value) (l0 : List (S63)) (a1 : Int) (r1 : Int) (r2 : List (S63)) (w0 w : World) (hB : Below w0.heap.size w0 w) (ho0 : Kd.S k63 63 w w0.heap.size P0_ u9000_ l0) (h : laws_markAssetS.f k l0 a1 = some (r1, r2)) :
  Calls Try.prog 15 #[u9000_, .int .i64 a1] w fun e w' => e = .returned (.int .i64 r1) ∧ Kd.S k63 63 w' w0.heap.size (fun k_ => (P0_ k_ ∨ w.heap.size ≤ k_)) u9000_ r2 ∧ Below w0.heap.size w0 w' ∧ Kept w w' (fun k_ => P0_ k_) := by
 have HO0 := Aside0.mk (show Kd.S k63 63 w w0.heap.size (fun k_ => (P0_ k_ ∨ w.heap.size ≤ k_)) u9000_ l0 from Kd.S_mono ho0 (fun k_ hk => (.inl hk)))
 have HK := Aside0.mk (Kept.refl w (fun k_ => P0_ k_))
 have HW0 := Aside0.mk hB.size
 have HB := Aside0.mk hB
 clear hB
 have H : (laws_markAssetS.l0 k l0 a1 0) = some (r1, r2) := h
 clear h
 have H' := Aside0.mk H
 clear H
 go_enter Try.func15, Try.ntmps15
 go_wp2
 go_loopg [1, 5] k (fun kq v1 v5 w' => ∃ (x0_1 : List (S63)) (x1_1 : Int) (x5_1 : Int), v1 = .int .i64 x1_1 ∧ v5 = .int .i64 x5_1 ∧ Aside0 (laws_markAssetS.l0 kq x0_1 x1_1 x5_1 = some (r1, r2)) ∧ Aside0 (kq ≤ k) ∧ Aside0 (Kd.S k63 63 w' w0.heap.size (fun k_ => (P0_ k_ ∨ w.heap.size ≤ k_)) u9000_ x0_1) ∧ Aside0 (Kept w w' (fun k_ => P0_ k_)) ∧ Aside0 (Below w0.heap.size w0 w'))
 case atStart => exact ⟨(l0), (a1), (0), tE, tE, H', ⟨Nat.le_refl _⟩, ⟨by (with_reducible repeat (first | apply Kd.S_alloc | apply Kd.S_drewN | apply Kd.S_drew)); exact HO0.out⟩, ⟨by repeat (first | (with_reducible first | exact HK.out | apply Kept.alloc | apply Kept.drewN | apply Kept.drew) | exact HK.out)⟩, ⟨by repeat (first | (with_reducible first | exact HB.out | apply below_alloc | apply pw_below_drewN | apply below_drew1) | exact HB.out)⟩⟩
 case round =>
  clear H'
  try clear c1
  try clear p2
  obtain ⟨x0_1, x1_1, x5_1, rfl, rfl, HA, HK1, HO_0, HK, HB⟩ := hrel
  cases gk with
  | zero => exact absurd HA.out (by simp [laws_markAssetS.l0])
  | succ k1 =>
   have H := HA.out
   clear HA
   simp only [laws_markAssetS.l0] at H
   by_cases c3 : x5_1 < (x0_1.length : Int)
   ·rw [if_pos c3] at H
    have c3b0 : decide (x5_1 < (x0_1.length : Int)) = true := decide_eq_true c3
    clear c3
    replace H := Option.bind_eq_some_iff.mp H
    obtain ⟨t237, A40, H⟩ := H
    replace H : (if 0 ≤ x5_1 then ((some (x0_1.set (x5_1 : Int).toNat (⟨t237, (rd_T63 x0_1 x5_1).f1, (rd_T63 x0_1 x5_1).f2⟩ : S63) : List (S63))).bind fun y238 => ((laws_markStringS.f k1 ((rd_T63 y238 x5_1).f1) (wrap64 (x1_1 + 1))).bind fun bt240 => ((some (y238.set (x5_1 : Int).toNat (⟨(rd_T63 y238 x5_1).f0, bt240.2, (rd_T63 y238 x5_1).f2⟩ : S63) : List (S63))).bind fun y242 => ((laws_markByteS.f k1 ((rd_T63 y242 x5_1).f2) bt240.1).bind fun bt244 => (laws_markAssetS.l0 k1 (y242.set (x5_1 : Int).toNat (⟨(rd_T63 y242 x5_1).f0, (rd_T63 y242 x5_1).f1, bt244.2⟩ : S63)) bt244.1 (wrap64 (x5_1 + 1))))))) else (none)) = some (r1, r2) := H
    have A4 := Aside0.mk A40
    clear A40
    by_cases c5 : 0 ≤ x5_1
    ·rw [if_pos c5] at H
     have c5b0 : decide (0 ≤ x5_1) = true := decide_eq_true c5
     clear c5
     obtain ⟨y238, hy238⟩ : ∃ y_ : List (S63), y_ = (x0_1.set (x5_1 : Int).toNat (⟨t237, (rd_T63 x0_1 x5_1).f1, (rd_T63 x0_1 x5_1).f2⟩ : S63)) := ⟨_, rfl⟩
     replace H : ((laws_markStringS.f k1 ((rd_T63 y238 x5_1).f1) (wrap64 (x1_1 + 1))).bind fun bt240 => ((some (y238.set (x5_1 : Int).toNat (⟨(rd_T63 y238 x5_1).f0, bt240.2, (rd_T63 y238 x5_1).f2⟩ : S63) : List (S63))).bind fun y242 => ((laws_markByteS.f k1 ((rd_T63 y242 x5_1).f2) bt240.1).bind fun bt244 => (laws_markAssetS.l0 k1 (y242.set (x5_1 : Int).toNat (⟨(rd_T63 y242 x5_1).f0, (rd_T63 y242 x5_1).f1, bt244.2⟩ : S63)) bt244.1 (wrap64 (x5_1 + 1)))))) = some (r1, r2) := by first | (rw [hy238]; with_reducible exact H) | (have H2_ := (Option.bind_some _ _).symm.trans H; rw [hy238]; with_reducible exact H2_) | (have H2_ := (Option.bind_some _ _).symm.trans H; with_reducible exact H2_) | with_reducible exact H | (rw [hy238]; exact H) | exact H
     have Ny238 := Aside0.mk hy238
     clear hy238
     replace H := Option.bind_eq_some_iff.mp H
     obtain ⟨⟨t240, t241⟩, A70, H⟩ := H
     replace H : ((some (y238.set (x5_1 : Int).toNat (⟨(rd_T63 y238 x5_1).f0, t241, (rd_T63 y238 x5_1).f2⟩ : S63) : List (S63))).bind fun y242 => ((laws_markByteS.f k1 ((rd_T63 y242 x5_1).f2) t240).bind fun bt244 => (laws_markAssetS.l0 k1 (y242.set (x5_1 : Int).toNat (⟨(rd_T63 y242 x5_1).f0, (rd_T63 y242 x5_1).f1, bt244.2⟩ : S63)) bt244.1 (wrap64 (x5_1 + 1))))) = some (r1, r2) := H
     have A7 := Aside0.mk A70
     clear A70
     obtain ⟨y242, hy242⟩ : ∃ y_ : List (S63), y_ = (y238.set (x5_1 : Int).toNat (⟨(rd_T63 y238 x5_1).f0, t241, (rd_T63 y238 x5_1).f2⟩ : S63)) := ⟨_, rfl⟩
     replace H : ((laws_markByteS.f k1 ((rd_T63 y242 x5_1).f2) t240).bind fun bt244 => (laws_markAssetS.l0 k1 (y242.set (x5_1 : Int).toNat (⟨(rd_T63 y242 x5_1).f0, (rd_T63 y242 x5_1).f1, bt244.2⟩ : S63)) bt244.1 (wrap64 (x5_1 + 1)))) = some (r1, r2) := by first | (rw [hy242]; with_reducible exact H) | (have H2_ := (Option.bind_some _ _).symm.trans H; rw [hy242]; with_reducible exact H2_) | (have H2_ := (Option.bind_some _ _).symm.trans H; with_reducible exact H2_) | with_reducible exact H | (rw [hy242]; exact H) | exact H
     have Ny242 := Aside0.mk hy242
     clear hy242
     replace H := Option.bind_eq_some_iff.mp H
     obtain ⟨⟨t244, t245⟩, A80, H⟩ := H
     replace H : (laws_markAssetS.l0 k1 (y242.set (x5_1 : Int).toNat (⟨(rd_T63 y242 x5_1).f0, (rd_T63 y242 x5_1).f1, t245⟩ : S63)) t244 (wrap64 (x5_1 + 1))) = some (r1, r2) := H
     have A8 := Aside0.mk A80
     clear A80
     obtain ⟨y246, hy246⟩ : ∃ y_ : List (S63), y_ = (y242.set (x5_1 : Int).toNat (⟨(rd_T63 y242 x5_1).f0, (rd_T63 y242 x5_1).f1, t245⟩ : S63)) := ⟨_, rfl⟩
     replace H : (laws_markAssetS.l0 k1 y246 t244 (wrap64 (x5_1 + 1))) = some (r1, r2) := by first | (rw [hy246]; with_reducible exact H) | (have H2_ := (Option.bind_some _ _).symm.trans H; rw [hy246]; with_reducible exact H2_) | (have H2_ := (Option.bind_some _ _).symm.trans H; with_reducible exact H2_) | with_reducible exact H | (rw [hy246]; exact H) | exact H
     have Ny246 := Aside0.mk hy246
     clear hy246
     have H' := Aside0.mk H
     clear H
     obtain ⟨Ao9, co9, eo9⟩ := Kd.S_slice HO_0.out
     subst eo9
     go_wp2_with (first | ((with_reducible refine gate_callee (f := 41) rfl ?_); refine goesL_ (some 15) rfl rfl Try.func41 (by kernel_rfl) rfl #[.int .i64 x1_1] rfl aE ?_; (with_reducible refine (laws_markText.calls k1 x1_1 t237 _ A4.out).mono ?_); rintro e w10 ⟨rfl, hb⟩; refine ⟨_, rfl, ?_⟩; replace HO_0 := Aside0.mk (Kd.S_below (by (with_reducible repeat (first | apply Kd.S_alloc | apply Kd.S_drewN | apply Kd.S_drew)); exact HO_0.out) hb); replace HK := Aside0.mk (Kept.below (S := (fun k_ => P0_ k_)) (by repeat (first | (with_reducible first | exact HK.out | apply Kept.alloc | apply Kept.drewN | apply Kept.drew) | exact HK.out)) hb); replace HB := bH (lU) hb; (try clear hb); have p6 : 0 ≤ (x5_1 : Int) := of_decide_eq_true hE; have q6 : (x5_1 : Int) < ((x0_1.length : Int) : Int) := of_decide_eq_true hE; obtain ⟨go6, co6, eo6, gb6, gl6, cl6, HG6⟩ := Kd.S_form HO_0.out (by omega); (first | cases eo6 | (injection eo6 with ea_ en_ ec_; (first | subst ea_ | (injection ea_ with ea_; subst ea_)); subst ec_; clear en_)); have GB6 := Aside0.mk gb6; have GG6 := Aside0.mk HG6; clear gb6 gl6 HG6; have HMgo6 := Aside0.mk (show (P0_ go6 ∨ w.heap.size ≤ go6) from ((Kd.S_R HO_0.out).1 _ rfl)); obtain ⟨_, ce6, hcl6, hM6, hcc6, hfr6, _, _⟩ := Kd.S_elem HO_0.out z63 (x5_1 : Int) p6 q6; obtain ⟨ve6_1, ve6_2, rfl, ge6_1, ge6_2⟩ := k63_openM hM6; have hx6_0 : w10.cell? ⟨go6, (x5_1 : Int).toNat * 3, none⟩ = some (.string ((rd_T63 x0_1 x5_1).f0)) := hcc6 0 _ rfl; have hx6_1 : w10.cell? ⟨go6, (x5_1 : Int).toNat * 3 + 1, none⟩ = some (ve6_1) := hcc6 1 _ rfl; have hx6_2 : w10.cell? ⟨go6, (x5_1 : Int).toNat * 3 + 2, none⟩ = some (ve6_2) := hcc6 2 _ rfl; have hf6_0 : w10.frozen? ⟨go6, (x5_1 : Int).toNat * 3, none⟩ = false := hfr6 0; have hf6_1 : w10.frozen? ⟨go6, (x5_1 : Int).toNat * 3 + 1, none⟩ = false := hfr6 1; have hf6_2 : w10.frozen? ⟨go6, (x5_1 : Int).toNat * 3 + 2, none⟩ = false := hfr6 2; (try clear hcl6); (try clear hcc6); (try clear hfr6); (try clear hM6); replace p6 := eq_true p6; replace q6 := eq_true q6; have HX11 := Aside0.mk (show Kd.S k63 63 w10 w0.heap.size (fun k_ => ((fun k_ => (P0_ k_ ∨ w.heap.size ≤ k_))) k_ ∧ ¬ ((fun _ => False)) k_) (.slice (some ⟨go6, 0, none⟩) x0_1.length co9) x0_1 from (by (with_reducible repeat (first | apply Kd.S_alloc | apply Kd.S_drewN | apply Kd.S_drew)); exact Kd.S_mono HO_0.out (fun k_ hk => ⟨hk, fun e_ => e_⟩))); obtain ⟨oki11, ce11, hcl11, hM11, hcc11, hfr11, hoki11, hH11⟩ := Kd.S_elem HX11.out z63 (x5_1 : Int) (of_decide_eq_true hE) (by have h_ : (x5_1 : Int) < ((x0_1.length : Int) : Int) := of_decide_eq_true hE; first | exact h_ | (have e_ := (Kd.S_reads' HO_0.out).1; omega) | simpa using h_); obtain ⟨ve11_1, ve11_2, rfl, ge11_1, ge11_2⟩ := k63_openM hM11; have HP11 := Kd.S_seg hH11 (of_decide_eq_true hE) (by have h_ : (x5_1 : Int) < ((x0_1.length : Int) : Int) := of_decide_eq_true hE; first | exact h_ | (have e_ := (Kd.S_reads' HO_0.out).1; omega) | simpa using h_) (seg := [.string t237]) (j := 0) (show 1 ≤ 3 from by decide) (x' := (⟨t237, (rd_T63 x0_1 x5_1).f1, (rd_T63 x0_1 x5_1).f2⟩ : S63)) (k63_mkM _ _ _ (⟨t237, (rd_T63 x0_1 x5_1).f1, (rd_T63 x0_1 x5_1).f2⟩ : S63) (Kd.R_mono ge11_1 (fun _ h_ => Or.inl h_)) (Kd.R_mono ge11_2 (fun _ h_ => Or.inl h_))) (fun _ hk => hk) (fun k_ hk_ => hk_.elim); have hx11_0 := hcc11 0 _ rfl; (try simp only [show (k63).sz = 3 from rfl, Nat.mul_one, Nat.add_zero] at hx11_0); have hf11_0 := hfr11 0; (try simp only [show (k63).sz = 3 from rfl, Nat.mul_one, Nat.add_zero] at hf11_0); (try clear hcl11); (try clear hcc11); (try clear hfr11); (try clear hM11); (try clear hoki11); (try clear hH11)) | ((with_reducible refine gate_store (t := 9) (p := 17) rfl ?_); refine store_event (t := 9) (p := 17) (v := ?vo_w12) (w1 := (w10.setCell ⟨go6, (x5_1 : Int).toNat * 3, none⟩ (.string t237))) ?hg ?ho ?hn ?hr ?_; (case ho => rfl); (case hg => rfl); (case hn => rfl); (case hr => exact sE); intro w12 hw; have hg : w10.grownBy w12 (some go6) := (by rw [hw]; exact HP11.2); have hp_ : Kd.S k63 63 w12 w0.heap.size (fun k_ => (P0_ k_ ∨ w.heap.size ≤ k_)) (.slice (some ⟨go6, 0, none⟩) x0_1.length co9) y238 := (by rw [hw, Ny238.out]; exact HP11.1); clear HP11; replace HB := Aside0.mk ((by rw [hw]; exact below_set (HB.out) GB6.out : Below w0.heap.size w0 w12)); replace HK := Aside0.mk (Kept.of_grown (S := (fun k_ => P0_ k_)) hg (by repeat (first | (with_reducible first | exact HK.out | apply Kept.alloc | apply Kept.drewN | apply Kept.drew) | exact HK.out)) (fun k_ e_ => ((Kd.S_R HO_0.out).1 k_ e_))); replace HO_0 := Aside0.mk hp_; clear hg hw hp_; have p239 : 0 ≤ (x5_1 : Int) := of_decide_eq_true hE; have q239 : x5_1 < (y238.length : Int) := (by have h_ : (x5_1 : Int) < ((x0_1.length : Int) : Int) := of_decide_eq_true hE; first | (have e_ := (Kd.S_reads' HO_0.out).1; omega) | simpa only [Ny238.out, List.length_set] using h_); have ql239 : ((x5_1 : Int) < ((x0_1.length : Int) : Int)) = True := eq_true (of_decide_eq_true hE); obtain ⟨ad239, A239_1, c239_1, A239_2, c239_2, e239, hx239_0, hx239_1, hx239_2, hl239_1, hi239_1, hl239_2, hi239_2⟩ := at_T63 (Kd.S_reads' HO_0.out).2.2 x5_1 p239 q239; obtain rfl : (⟨go6, 0, none⟩ : Addr) = ad239 := (by injection e239); obtain ⟨ce239, hce239, hMe239, hcc239⟩ := Kd.S_get HO_0.out z63 x5_1 p239 (by first | exact q239 | exact of_decide_eq_true hE | (have e_ := (Kd.S_reads' HO_0.out).1; omega)); obtain ⟨ve239_1, ve239_2, rfl, ge239_1, ge239_2⟩ := k63_openM hMe239; have hv239_1 := hcc239 1 _ rfl; rw [add_field _ _ 1 (by omega)] at hv239_1; replace hv239_1 := Option.some.inj (hv239_1.symm.trans hx239_1); rw [hv239_1] at ge239_1; have HL239_1 := Aside0.mk (show Kd.R Kd.string 9 _ _ _ _ ((rd_T63 y238 x5_1).f1) from ge239_1); clear hv239_1 ge239_1; have HX239_1 := Aside0.mk hx239_1; have hv239_2 := hcc239 2 _ rfl; rw [add_field _ _ 2 (by omega)] at hv239_2; replace hv239_2 := Option.some.inj (hv239_2.symm.trans hx239_2); rw [hv239_2] at ge239_2; have HL239_2 := Aside0.mk (show Kd.R (Kd.int .u8) 5 _ _ _ _ ((rd_T63 y238 x5_1).f2) from ge239_2); clear hv239_2 ge239_2; have HX239_2 := Aside0.mk hx239_2; (try clear hcc239); (try clear hce239); (first | simp only [add_plain] at hx239_0 | simp only [add_at] at hx239_0 | simp only [Addr.add, Nat.zero_add] at hx239_0 | skip); (first | simp only [add_plain] at hx239_1 | simp only [add_at] at hx239_1 | simp only [Addr.add, Nat.zero_add] at hx239_1 | skip); (first | simp only [add_plain] at hx239_2 | simp only [add_at] at hx239_2 | simp only [Addr.add, Nat.zero_add] at hx239_2 | skip); have HR239_1 := Aside0.mk hi239_1; have HC239_1 := Aside0.mk hl239_1; clear hi239_1 hl239_1; have HR239_2 := Aside0.mk hi239_2; have HC239_2 := Aside0.mk hl239_2; clear hi239_2 hl239_2; replace p239 := eq_true p239; replace q239 := eq_true q239; have hq13 : (x5_1 : Int) < (x0_1.length : Int) := (by have h_ : (x5_1 : Int) < ((x0_1.length : Int) : Int) := of_decide_eq_true hE; first | exact h_ | (have e_ := (Kd.S_reads' HO_0.out).1; omega) | simpa only [Ny238.out, List.length_set] using h_); obtain ⟨oki13, ce13, hcl13, hM13, hcc13, hok13, hbk13⟩ := Kd.S_borrow HO_0.out z63 (x5_1 : Int) (of_decide_eq_true hE) hq13; obtain ⟨ve13_1, ve13_2, rfl, ge13_1, ge13_2⟩ := k63_openM hM13; have hv13 := hcc13 1 _ rfl; rw [add_field _ _ 1 (by omega)] at hv13; replace hv13 := Option.some.inj (hv13.symm.trans HX239_1.out); subst hv13; clear hcc13 hcl13; replace ge13_1 := (show Kd.R Kd.string 9 _ _ _ _ ((rd_T63 y238 x5_1).f1) from ge13_1)) | ((with_reducible refine gate_callee (f := 16) rfl ?_); refine goesL_ (some 26) rfl rfl Try.func16 (by kernel_rfl) rfl #[.slice A239_1 ((rd_T63 y238 x5_1).f1).length c239_1, .int .i64 (wrap64 (x1_1 + 1))] rfl aE ?_; (with_reducible refine (laws_markStringS.calls k1 (fun k_ => some k_ = (.slice A239_1 ((rd_T63 y238 x5_1).f1).length c239_1 : Value).ownBlock) (.slice A239_1 ((rd_T63 y238 x5_1).f1).length c239_1) ((rd_T63 y238 x5_1).f1) (wrap64 (x1_1 + 1)) t240 t241 w0 _ ?side1 ?side2 A7.out).mono ?_); (case side1 => repeat (first | (with_reducible first | exact HB.out | apply below_alloc | apply pw_below_drewN | apply below_drew1) | exact HB.out)); (case side2 => exact Kd.R_tight rfl HL239_1.out); rintro e w14 ⟨rfl, hy0, hb, hkp⟩; refine ⟨_, rfl, ?_⟩; have hg_ : w12.grownBy w14 ((.slice A239_1 ((rd_T63 y238 x5_1).f1).length c239_1) : Value).ownBlock := grown_of_kept (lU) hb hkp; have hp_ : Kd.S k63 63 w14 w0.heap.size (fun k_ => (P0_ k_ ∨ w.heap.size ≤ k_)) (.slice (some ⟨go6, 0, none⟩) x0_1.length co9) y242 := (by rw [Ny242.out]; exact hbk13 hg_ (fun k_ e_ => ge13_1.1 k_ e_) (k63_mkM _ _ _ (⟨(rd_T63 y238 x5_1).f0, t241, (rd_T63 y238 x5_1).f2⟩ : S63) (Kd.R_reok rfl hy0 (fun k_ e_ => ge13_1.1 k_ e_)) (Kd.R_over' (v := (.slice A239_1 ((rd_T63 y238 x5_1).f1).length c239_1)) ge13_2 (Kd.R_typed ge13_1) (by decide) hg_))); replace HO_0 := Aside0.mk hp_; replace HK := Aside0.mk (Kept.then_ (S := (fun k_ => P0_ k_)) (by repeat (first | (with_reducible first | exact HK.out | apply Kept.alloc | apply Kept.drewN | apply Kept.drew) | exact HK.out)) hkp (fun k_ hs_ => (fun e_ => (HL239_1.out.1 k_ e_.symm).1) hs_)); replace HB := Aside0.mk hb; clear HL239_1 HL239_2; (try clear hb); (try clear hkp); (try clear hg_); (try clear hp_); (try clear hy0); have p243 : 0 ≤ (x5_1 : Int) := of_decide_eq_true hE; have q243 : x5_1 < (y242.length : Int) := (by have h_ : (x5_1 : Int) < ((x0_1.length : Int) : Int) := of_decide_eq_true hE; first | (have e_ := (Kd.S_reads' HO_0.out).1; omega) | simpa only [Ny238.out, Ny242.out, List.length_set] using h_); have ql243 : ((x5_1 : Int) < ((x0_1.length : Int) : Int)) = True := eq_true (of_decide_eq_true hE); obtain ⟨ad243, A243_1, c243_1, A243_2, c243_2, e243, hx243_0, hx243_1, hx243_2, hl243_1, hi243_1, hl243_2, hi243_2⟩ := at_T63 (Kd.S_reads' HO_0.out).2.2 x5_1 p243 q243; obtain rfl : (⟨go6, 0, none⟩ : Addr) = ad243 := (by injection e243); obtain ⟨ce243, hce243, hMe243, hcc243⟩ := Kd.S_get HO_0.out z63 x5_1 p243 (by first | exact q243 | exact of_decide_eq_true hE | (have e_ := (Kd.S_reads' HO_0.out).1; omega)); obtain ⟨ve243_1, ve243_2, rfl, ge243_1, ge243_2⟩ := k63_openM hMe243; have hv243_1 := hcc243 1 _ rfl; rw [add_field _ _ 1 (by omega)] at hv243_1; replace hv243_1 := Option.some.inj (hv243_1.symm.trans hx243_1); rw [hv243_1] at ge243_1; have HL243_1 := Aside0.mk (show Kd.R Kd.string 9 _ _ _ _ ((rd_T63 y242 x5_1).f1) from ge243_1); clear hv243_1 ge243_1; have HX243_1 := Aside0.mk hx243_1; have hv243_2 := hcc243 2 _ rfl; rw [add_field _ _ 2 (by omega)] at hv243_2; replace hv243_2 := Option.some.inj (hv243_2.symm.trans hx243_2); rw [hv243_2] at ge243_2; have HL243_2 := Aside0.mk (show Kd.R (Kd.int .u8) 5 _ _ _ _ ((rd_T63 y242 x5_1).f2) from ge243_2); clear hv243_2 ge243_2; have HX243_2 := Aside0.mk hx243_2; (try clear hcc243); (try clear hce243); (first | simp only [add_plain] at hx243_0 | simp only [add_at] at hx243_0 | simp only [Addr.add, Nat.zero_add] at hx243_0 | skip); (first | simp only [add_plain] at hx243_1 | simp only [add_at] at hx243_1 | simp only [Addr.add, Nat.zero_add] at hx243_1 | skip); (first | simp only [add_plain] at hx243_2 | simp only [add_at] at hx243_2 | simp only [Addr.add, Nat.zero_add] at hx243_2 | skip); have HR243_1 := Aside0.mk hi243_1; have HC243_1 := Aside0.mk hl243_1; clear hi243_1 hl243_1; have HR243_2 := Aside0.mk hi243_2; have HC243_2 := Aside0.mk hl243_2; clear hi243_2 hl243_2; replace p243 := eq_true p243; replace q243 := eq_true q243; have hq15 : (x5_1 : Int) < (x0_1.length : Int) := (by have h_ : (x5_1 : Int) < ((x0_1.length : Int) : Int) := of_decide_eq_true hE; first | exact h_ | (have e_ := (Kd.S_reads' HO_0.out).1; omega) | simpa only [Ny238.out, Ny242.out, List.length_set] using h_); obtain ⟨oki15, ce15, hcl15, hM15, hcc15, hok15, hbk15⟩ := Kd.S_borrow HO_0.out z63 (x5_1 : Int) (of_decide_eq_true hE) hq15; obtain ⟨ve15_1, ve15_2, rfl, ge15_1, ge15_2⟩ := k63_openM hM15; have hv15 := hcc15 2 _ rfl; rw [add_field _ _ 2 (by omega)] at hv15; replace hv15 := Option.some.inj (hv15.symm.trans HX243_2.out); subst hv15; clear hcc15 hcl15; replace ge15_2 := (show Kd.R (Kd.int .u8) 5 _ _ _ _ ((rd_T63 y242 x5_1).f2) from ge15_2)) | ((with_reducible refine gate_callee (f := 42) rfl ?_); refine goesL_ (some 33) rfl rfl Try.func42 (by kernel_rfl) rfl #[.slice A243_2 ((rd_T63 y242 x5_1).f2).length c243_2, .int .i64 t240] rfl aE ?_; (with_reducible refine (laws_markByteS.calls k1 (fun k_ => some k_ = (.slice A243_2 ((rd_T63 y242 x5_1).f2).length c243_2 : Value).ownBlock) (.slice A243_2 ((rd_T63 y242 x5_1).f2).length c243_2) ((rd_T63 y242 x5_1).f2) t240 t244 t245 w0 _ ?side1 ?side2 A8.out).mono ?_); (case side1 => repeat (first | (with_reducible first | exact HB.out | apply below_alloc | apply pw_below_drewN | apply below_drew1) | exact HB.out)); (case side2 => exact Kd.R_tight rfl HL243_2.out); rintro e w16 ⟨rfl, hy0, hb, hkp⟩; refine ⟨_, rfl, ?_⟩; have hg_ : w14.grownBy w16 ((.slice A243_2 ((rd_T63 y242 x5_1).f2).length c243_2) : Value).ownBlock := grown_of_kept (lU) hb hkp; have hp_ : Kd.S k63 63 w16 w0.heap.size (fun k_ => (P0_ k_ ∨ w.heap.size ≤ k_)) (.slice (some ⟨go6, 0, none⟩) x0_1.length co9) y246 := (by rw [Ny246.out]; exact hbk15 hg_ (fun k_ e_ => ge15_2.1 k_ e_) (k63_mkM _ _ _ (⟨(rd_T63 y242 x5_1).f0, (rd_T63 y242 x5_1).f1, t245⟩ : S63) (Kd.R_over' (v := (.slice A243_2 ((rd_T63 y242 x5_1).f2).length c243_2)) ge15_1 (Kd.R_typed ge15_2) (by decide) hg_) (Kd.R_reok rfl hy0 (fun k_ e_ => ge15_2.1 k_ e_)))); replace HO_0 := Aside0.mk hp_; replace HK := Aside0.mk (Kept.then_ (S := (fun k_ => P0_ k_)) (by repeat (first | (with_reducible first | exact HK.out | apply Kept.alloc | apply Kept.drewN | apply Kept.drew) | exact HK.out)) hkp (fun k_ hs_ => (fun e_ => (HL243_2.out.1 k_ e_.symm).1) hs_)); replace HB := Aside0.mk hb; clear HL243_1 HL243_2; (try clear hb); (try clear hkp); (try clear hg_); (try clear hp_); (try clear hy0)))
     go_roundg k1
     case measure => have := HK1.out; omega
     case rel => exact ⟨(y246), (t244), (wrap64 (x5_1 + 1)), tE, tE, H', ⟨by have := HK1.out; omega⟩, ⟨by (with_reducible repeat (first | apply Kd.S_alloc | apply Kd.S_drewN | apply Kd.S_drew)); exact HO_0.out⟩, ⟨by repeat (first | (with_reducible first | exact HK.out | apply Kept.alloc | apply Kept.drewN | apply Kept.drew) | exact HK.out)⟩, ⟨by repeat (first | (with_reducible first | exact HB.out | apply below_alloc | apply pw_below_drewN | apply below_drew1) | exact HB.out)⟩⟩
    ·rw [if_neg c5] at H
     exact absurd H (by simp)
   ·rw [if_neg c3] at H
    have c3b0 : decide (x5_1 < (x0_1.length : Int)) = false := decide_eq_false c3
    clear c3
    simp only [Option.some.injEq, Prod.mk.injEq] at H
    obtain ⟨rfl, rfl⟩ := H
    obtain ⟨Ao17, co17, eo17⟩ := Kd.S_slice HO_0.out
    subst eo17
    go_wp2
    go_ret
    exact ⟨eE, by (with_reducible repeat (first | apply Kd.S_alloc | apply Kd.S_drewN | apply Kd.S_drew)); exact HO_0.out, lU, by repeat (first | (with_reducible first | exact HK.out | apply Kept.alloc | apply Kept.drewN | apply Kept.drew) | exact HK.out)⟩
def laws_heldStringS.l0 : Nat → List ByteArray → Int → Int → Option (Int)
 | 0, _, _, _ => none
 | k + 1, x0, x1, x5 => if x5 < (x0.length : Int) then (if 0 ≤ x5 then ((laws_markText.f k x1).bind fun t248 => (if (rdOf ByteArray.empty x0 x5).toList = t248.toList then (laws_heldStringS.l0 k x0 (wrap64 (x1 + 1)) (wrap64 (x5 + 1))) else (some (-1)))) else (none)) else (some x1)
def laws_heldStringS.f (k : Nat) (l0 : List ByteArray) (a1 : Int) : Option (Int) := laws_heldStringS.l0 k l0 a1 0
theorem laws_heldStringS.mono_l : ∀ k, (∀ y0 y1 y2, LeO (laws_heldStringS.l0 k y0 y1 y2) (laws_heldStringS.l0 (k + 1) y0 y1 y2))
 | 0 => fun _ _ _ r h => by simp [laws_heldStringS.l0] at h
 | k + 1 => by
  have ih0 := laws_heldStringS.mono_l k
  ·intro y0 y1 y2
   unfold laws_heldStringS.l0
   repeat' first
   | (with_reducible exact ih0 _ _ _)
   | (with_reducible exact laws_markText.mono _ _)
   | (with_reducible exact LeO.refl _)
   | (with_reducible exact LeO.none _)
   | (with_reducible refine LeO.ite ?_ ?_)
   | (with_reducible refine LeO.bind ?_ (fun _ => ?_))
   | exact ih0 _ _ _
   | exact laws_markText.mono _ _
   | exact LeO.none _
   | refine LeO.ite ?_ ?_
   | refine LeO.bind ?_ (fun _ => ?_)
theorem laws_heldStringS.mono : ∀ a0 a1 k, LeO (laws_heldStringS.f k a0 a1) (laws_heldStringS.f (k + 1) a0 a1) := by
 intro a0 a1 k
 have ih0 := laws_heldStringS.mono_l k
 unfold laws_heldStringS.f
 repeat' first
   | (with_reducible exact ih0 _ _ _)
   | (with_reducible exact laws_markText.mono _ _)
   | (with_reducible exact LeO.refl _)
   | (with_reducible exact LeO.none _)
   | (with_reducible refine LeO.ite ?_ ?_)
   | (with_reducible refine LeO.bind ?_ (fun _ => ?_))
   | exact ih0 _ _ _
   | exact laws_markText.mono _ _
   | exact LeO.none _
   | refine LeO.ite ?_ ?_
   | refine LeO.bind ?_ (fun _ => ?_)
set_option maxHeartbeats 8000000 in
set_option maxRecDepth 100000 in
theorem laws_heldStringS.calls (k : Nat) (A0 : Option Addr) (c0 : Nat) (l0 : List ByteArray) (a1 : Int) (r : Int) (w : World) (hr0 : Kd.C Kd.string w A0 l0.length l0) (hc0 : l0.length ≤ c0) (h : laws_heldStringS.f k l0 a1 = some r) :
  Calls Try.prog 17 #[.slice A0 l0.length c0, .int .i64 a1] w fun e w' => e = .returned (.int .i64 r) ∧ Below w.heap.size w w' := by
 have HR0 := Aside0.mk hr0
 have HC0 := Aside0.mk hc0
 clear hr0 hc0
 have HB := Aside0.mk (Below.refl w.heap.size w)
 have H : (laws_heldStringS.l0 k l0 a1 0) = some r := h
 clear h
 have H' := Aside0.mk H
 clear H
 go_enter Try.func17, Try.ntmps17
 go_wp2
 go_loopg [1, 5] k (fun kq v1 v5 w' => ∃ (x1_1 : Int) (x5_1 : Int), v1 = .int .i64 x1_1 ∧ v5 = .int .i64 x5_1 ∧ Aside0 (laws_heldStringS.l0 kq l0 x1_1 x5_1 = some r) ∧ Aside0 (kq ≤ k) ∧ Aside0 (Below w.heap.size w w'))
 case atStart => exact ⟨(a1), (0), tE, tE, H', ⟨Nat.le_refl _⟩, ⟨by repeat (first | (with_reducible first | exact HB.out | apply below_alloc | apply pw_below_drewN | apply below_drew1) | exact HB.out)⟩⟩
 case round =>
  clear H'
  try clear c1
  try clear p2
  obtain ⟨x1_1, x5_1, rfl, rfl, HA, HK1, HB⟩ := hrel
  cases gk with
  | zero => exact absurd HA.out (by simp [laws_heldStringS.l0])
  | succ k1 =>
   have H := HA.out
   clear HA
   simp only [laws_heldStringS.l0] at H
   by_cases c3 : x5_1 < (l0.length : Int)
   ·rw [if_pos c3] at H
    have c3b0 : decide (x5_1 < (l0.length : Int)) = true := decide_eq_true c3
    clear c3
    by_cases c4 : 0 ≤ x5_1
    ·rw [if_pos c4] at H
     have c4b0 : decide (0 ≤ x5_1) = true := decide_eq_true c4
     clear c4
     replace H := Option.bind_eq_some_iff.mp H
     obtain ⟨t248, A50, H⟩ := H
     replace H : (if (rdOf ByteArray.empty l0 x5_1).toList = t248.toList then (laws_heldStringS.l0 k1 l0 (wrap64 (x1_1 + 1)) (wrap64 (x5_1 + 1))) else (some (-1))) = some r := H
     have A5 := Aside0.mk A50
     clear A50
     by_cases c6 : (rdOf ByteArray.empty l0 x5_1).toList = t248.toList
     ·rw [if_pos c6] at H
      have c6b0 : ((rdOf ByteArray.empty l0 x5_1).toList == t248.toList) = true := beq_iff_eq.mpr c6
      have c6b1 : ((rdOf ByteArray.empty l0 x5_1).toList != t248.toList) = false := bne_eq_false_iff_eq.mpr c6
      clear c6
      have H' := Aside0.mk H
      clear H
      try go_wp2
      replace HB := Aside0.mk (below_drew1 HB.out)
      have p247 : 0 ≤ (x5_1 : Int) := of_decide_eq_true hE
      have q247 : x5_1 < (l0.length : Int) := of_decide_eq_true hE
      obtain ⟨ad247, e247, hx247_0⟩ := Kd.at_string HR0.out x5_1 p247 q247
      have hw247_0 := hx247_0
      cases e247
      replace hx247_0 := (HB.out.cell (World.block_lt_of_cell? w _ hx247_0)).trans hx247_0
      replace p247 := eq_true p247
      replace q247 := eq_true q247
      refine start_ (n := 7) (S := fun w' => w'.cell? (ad247.add (x5_1).toNat) = some (.string (rdOf ByteArray.empty l0 x5_1))) (ds := []) #[false, false, false, false, false, false, false] (by kernel_rfl) rfl rfl (((HB.out.cell (World.block_lt_of_cell? w _ hw247_0)).trans hw247_0)) (fun hHeld => ?_)
      generalize wr.drew = w7 at HB hx247_0 hHeld ⊢
      refine pure_ (i := 0) (N := some 12) (v := ?_) (a' := ?_) (bz 7 1) rfl rfl (by kernel_rfl) (fun _ _ _ h => h) (Or.inl ⟨by rfl, ?_⟩) ?_ ?_
      rotate_left
      ·intro w'
       go_simp
       with_reducible rfl
      rotate_left
      ·simp only [Act.put, List.setIfInBounds_toArray, List.set_cons_zero, List.set_cons_succ, i64_w, i32_w]
       rfl
      refine pure_ (i := 1) (N := some 13) (v := ?_) (a' := ?_) (bz 7 3) rfl rfl (by kernel_rfl) (fun _ _ _ h => h) (Or.inl ⟨by rfl, ?_⟩) ?_ ?_
      rotate_left
      ·intro w'
       go_simp
       with_reducible rfl
      rotate_left
      ·simp only [Act.put, List.setIfInBounds_toArray, List.set_cons_zero, List.set_cons_succ, i64_w, i32_w]
       rfl
      refine pure_ (i := 2) (N := some 14) (v := ?_) (a' := ?_) (bz 7 7) rfl rfl (by kernel_rfl) (fun _ _ _ h => h) (Or.inl ⟨by rfl, ?_⟩) ?_ ?_
      rotate_left
      ·intro w'
       go_simp
       with_reducible rfl
      rotate_left
      ·simp only [Act.put, List.setIfInBounds_toArray, List.set_cons_zero, List.set_cons_succ, i64_w, i32_w]
       rfl
      refine pure_ (i := 4) (N := some 16) (v := ?_) (a' := ?_) (bz 7 23) rfl rfl (by kernel_rfl) (fun _ _ _ h => h) (Or.inl ⟨by rfl, ?_⟩) ?_ ?_
      rotate_left
      ·intro w'
       go_simp
       with_reducible rfl
      rotate_left
      ·simp only [Act.put, List.setIfInBounds_toArray, List.set_cons_zero, List.set_cons_succ, i64_w, i32_w]
       rfl
      refine take_ (i := 3) (N := some 15) (v := ?_) (a' := ?_) (bz 7 31) rfl rfl (by kernel_rfl) (fun _ _ _ h => h) (Or.inl ⟨by rfl, ?_⟩) hHeld ?_ ?_
      rotate_left
      ·intro w' s0
       go_simp
       with_reducible rfl
      rotate_left
      ·simp only [Act.put, List.setIfInBounds_toArray, List.set_cons_zero, List.set_cons_succ, i64_w, i32_w]
       rfl
      refine one_ (i := 5) (N := some 17) (bz 7 63) rfl rfl (by kernel_rfl) (by decide) (fun K hK => ?_)
      refine goes_ Try.func41 (by kernel_rfl) rfl #[.int .i64 x1_1] (by rfl) rfl rfl aE ?_
      with_reducible refine (laws_markText.calls k1 x1_1 t248 _ A5.out).mono ?_
      rintro e w8 ⟨rfl, hb⟩
      refine ⟨_, rfl, ?_⟩
      replace HB := bH (lU) hb
      (try clear hb)
      (try clear hb2)
      (try clear hk)
      (try clear hi)
      refine hK.out _ _ (((HB.out.cell (World.block_lt_of_cell? w _ hw247_0)).trans hw247_0)) (fun hHeld => ?_)
      clear hK K
      refine norm_ (a' := ?_) ?_ ?_
      rotate_left
      ·show Act.put _ (some 17) _ = _
       simp only [Act.put, List.setIfInBounds_toArray, List.set_cons_zero, List.set_cons_succ, i64_w, i32_w]
       rfl
      refine pure_ (i := 6) (N := some 18) (v := ?_) (a' := ?_) (bz 7 127) rfl rfl (by kernel_rfl) (fun _ _ _ h => h) (Or.inl ⟨by rfl, ?_⟩) ?_ ?_
      rotate_left
      ·intro w'
       go_simp
       with_reducible rfl
      rotate_left
      ·simp only [Act.put, List.setIfInBounds_toArray, List.set_cons_zero, List.set_cons_succ, i64_w, i32_w]
       rfl
      refine done_ (by kernel_rfl) ?_
      try go_wp2
      go_roundg k1
      case measure => have := HK1.out; omega
      case rel => exact ⟨(wrap64 (x1_1 + 1)), (wrap64 (x5_1 + 1)), tE, tE, H', ⟨by have := HK1.out; omega⟩, ⟨by repeat (first | (with_reducible first | exact HB.out | apply below_alloc | apply pw_below_drewN | apply below_drew1) | exact HB.out)⟩⟩
     ·rw [if_neg c6] at H
      have c6b0 : ((rdOf ByteArray.empty l0 x5_1).toList == t248.toList) = false := beq_eq_false_iff_ne.mpr c6
      have c6b1 : ((rdOf ByteArray.empty l0 x5_1).toList != t248.toList) = true := bne_iff_ne.mpr c6
      obtain rfl := Option.some.inj H
      try go_wp2
      replace HB := Aside0.mk (below_drew1 HB.out)
      have p247 : 0 ≤ (x5_1 : Int) := of_decide_eq_true hE
      have q247 : x5_1 < (l0.length : Int) := of_decide_eq_true hE
      obtain ⟨ad247, e247, hx247_0⟩ := Kd.at_string HR0.out x5_1 p247 q247
      have hw247_0 := hx247_0
      cases e247
      replace hx247_0 := (HB.out.cell (World.block_lt_of_cell? w _ hx247_0)).trans hx247_0
      replace p247 := eq_true p247
      replace q247 := eq_true q247
      refine start_ (n := 7) (S := fun w' => w'.cell? (ad247.add (x5_1).toNat) = some (.string (rdOf ByteArray.empty l0 x5_1))) (ds := []) #[false, false, false, false, false, false, false] (by kernel_rfl) rfl rfl (((HB.out.cell (World.block_lt_of_cell? w _ hw247_0)).trans hw247_0)) (fun hHeld => ?_)
      generalize wr.drew = w9 at HB hx247_0 hHeld ⊢
      refine pure_ (i := 0) (N := some 12) (v := ?_) (a' := ?_) (bz 7 1) rfl rfl (by kernel_rfl) (fun _ _ _ h => h) (Or.inl ⟨by rfl, ?_⟩) ?_ ?_
      rotate_left
      ·intro w'
       go_simp
       with_reducible rfl
      rotate_left
      ·simp only [Act.put, List.setIfInBounds_toArray, List.set_cons_zero, List.set_cons_succ, i64_w, i32_w]
       rfl
      refine pure_ (i := 1) (N := some 13) (v := ?_) (a' := ?_) (bz 7 3) rfl rfl (by kernel_rfl) (fun _ _ _ h => h) (Or.inl ⟨by rfl, ?_⟩) ?_ ?_
      rotate_left
      ·intro w'
       go_simp
       with_reducible rfl
      rotate_left
      ·simp only [Act.put, List.setIfInBounds_toArray, List.set_cons_zero, List.set_cons_succ, i64_w, i32_w]
       rfl
      refine pure_ (i := 2) (N := some 14) (v := ?_) (a' := ?_) (bz 7 7) rfl rfl (by kernel_rfl) (fun _ _ _ h => h) (Or.inl ⟨by rfl, ?_⟩) ?_ ?_
      rotate_left
      ·intro w'
       go_simp
       with_reducible rfl
      rotate_left
      ·simp only [Act.put, List.setIfInBounds_toArray, List.set_cons_zero, List.set_cons_succ, i64_w, i32_w]
       rfl
      refine pure_ (i := 4) (N := some 16) (v := ?_) (a' := ?_) (bz 7 23) rfl rfl (by kernel_rfl) (fun _ _ _ h => h) (Or.inl ⟨by rfl, ?_⟩) ?_ ?_
      rotate_left
      ·intro w'
       go_simp
       with_reducible rfl
      rotate_left
      ·simp only [Act.put, List.setIfInBounds_toArray, List.set_cons_zero, List.set_cons_succ, i64_w, i32_w]
       rfl
      refine take_ (i := 3) (N := some 15) (v := ?_) (a' := ?_) (bz 7 31) rfl rfl (by kernel_rfl) (fun _ _ _ h => h) (Or.inl ⟨by rfl, ?_⟩) hHeld ?_ ?_
      rotate_left
      ·intro w' s0
       go_simp
       with_reducible rfl
      rotate_left
      ·simp only [Act.put, List.setIfInBounds_toArray, List.set_cons_zero, List.set_cons_succ, i64_w, i32_w]
       rfl
      refine one_ (i := 5) (N := some 17) (bz 7 63) rfl rfl (by kernel_rfl) (by decide) (fun K hK => ?_)
      refine goes_ Try.func41 (by kernel_rfl) rfl #[.int .i64 x1_1] (by rfl) rfl rfl aE ?_
      with_reducible refine (laws_markText.calls k1 x1_1 t248 _ A5.out).mono ?_
      rintro e w10 ⟨rfl, hb⟩
      refine ⟨_, rfl, ?_⟩
      replace HB := bH (lU) hb
      (try clear hb)
      (try clear hb2)
      (try clear hk)
      (try clear hi)
      refine hK.out _ _ (((HB.out.cell (World.block_lt_of_cell? w _ hw247_0)).trans hw247_0)) (fun hHeld => ?_)
      clear hK K
      refine norm_ (a' := ?_) ?_ ?_
      rotate_left
      ·show Act.put _ (some 17) _ = _
       simp only [Act.put, List.setIfInBounds_toArray, List.set_cons_zero, List.set_cons_succ, i64_w, i32_w]
       rfl
      refine pure_ (i := 6) (N := some 18) (v := ?_) (a' := ?_) (bz 7 127) rfl rfl (by kernel_rfl) (fun _ _ _ h => h) (Or.inl ⟨by rfl, ?_⟩) ?_ ?_
      rotate_left
      ·intro w'
       go_simp
       with_reducible rfl
      rotate_left
      ·simp only [Act.put, List.setIfInBounds_toArray, List.set_cons_zero, List.set_cons_succ, i64_w, i32_w]
       rfl
      refine done_ (by kernel_rfl) ?_
      try go_wp2
      go_ret
      exact ⟨eE, lU⟩
    ·rw [if_neg c4] at H
     exact absurd H (by simp)
   ·rw [if_neg c3] at H
    have c3b0 : decide (x5_1 < (l0.length : Int)) = false := decide_eq_false c3
    clear c3
    obtain rfl := Option.some.inj H
    go_wp2
    go_ret
    exact ⟨eE, lU⟩
end Go.Proofs.Ytifejplilaefiaa.PFnExactMakeOrder
