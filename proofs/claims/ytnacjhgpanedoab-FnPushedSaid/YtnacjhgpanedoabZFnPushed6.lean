/- Texts of a row. -/
import Derived.Test.YtnacjhgpanedoabZFnPushed3
import Derived.Test.YtnacjhgpanedoabZFnPushed4
namespace Go.Proofs.Ytnacjhgpanedoab.PFnPushed
open Go.RowKit Go.Proofs.YtnacjhgpanedoabW.PrintWords Go.Proofs.YtnacjhgpanedoabW.PrintLast Go.Proofs.YtnacjhgpanedoabW.PrintMore
attribute [local go_sem] max2_int min2_int max_two min_two max_three min_three max_four min_four   -- for this text's walks alone
set_option linter.unusedVariables false
set_option linter.unusedSimpArgs false
mutual
def impl_MoveLine.j0 : Nat → List (S33) → Int → Bool → Option ((List (S33)) × Bool)
 | 0, _, _, _ => none
 | k + 1, x0, x1, x17 => if x17 = true then (some (([] : List (S33)), false)) else ((impl_Body_21.f x0).bind fun t327 => (impl_MoveLine.l0 k x1 t327 x0 (x0.length : Int) 0))
def impl_MoveLine.l0 : Nat → Int → List (S33) → List (S33) → Int → Int → Option ((List (S33)) × Bool)
 | 0, _, _, _, _, _ => none
 | k + 1, x1, x6, x20, x21, x22 => if x22 < x21 then (if 0 ≤ x22 then (if x22 < (x20.length : Int) then (if ((rd_T33 x20 x22).f2) = 0 then (impl_MoveLine.l0 k x1 x6 x20 x21 (wrap64 (x22 + 1))) else (if x22 < (x6.length : Int) then ((some (x6.set (x22 : Int).toNat (⟨wrap64 (((rd_T33 x6 x22).f0) + (wrap64 (Int.tdiv (wrap64 (((rd_T33 x20 x22).f1) * x1)) ((rd_T33 x20 x22).f2)))), (rd_T33 x6 x22).f1, (rd_T33 x6 x22).f2, (rd_T33 x6 x22).f3⟩ : S33) : List (S33))).bind fun y333 => (if x22 > 0 then (if 0 ≤ (wrap64 (x22 - 1)) then (if (wrap64 (x22 - 1)) < (x6.length : Int) then (impl_MoveLine.l0 k x1 (y333.set (x22 : Int).toNat (⟨mx ((rd_T33 y333 x22).f0) (wrap64 ((wrap64 (((rd_T33 y333 (wrap64 (x22 - 1))).f0) + ((rd_T33 y333 (wrap64 (x22 - 1))).f3))) + ((rd_T33 x20 x22).f3))), (rd_T33 y333 x22).f1, (rd_T33 y333 x22).f2, (rd_T33 y333 x22).f3⟩ : S33)) x20 x21 (wrap64 (x22 + 1))) else (none)) else (none)) else (impl_MoveLine.l0 k x1 y333 x20 x21 (wrap64 (x22 + 1))))) else (none))) else (none)) else (none)) else (impl_MoveLine.l1 k x6 (wrap64 ((x6.length : Int) - 2)))
def impl_MoveLine.l1 : Nat → List (S33) → Int → Option ((List (S33)) × Bool)
 | 0, _, _ => none
 | k + 1, x6, x9 => if x9 ≥ 0 then (if 0 ≤ x9 then (if x9 < (x6.length : Int) then (if ((rd_T33 x6 x9).f2) > 0 then (if 0 ≤ (wrap64 (x9 + 1)) then (if (wrap64 (x9 + 1)) < (x6.length : Int) then (impl_MoveLine.l1 k (x6.set (x9 : Int).toNat (⟨mn ((rd_T33 x6 x9).f0) (wrap64 ((wrap64 (((rd_T33 x6 (wrap64 (x9 + 1))).f0) - ((rd_T33 x6 (wrap64 (x9 + 1))).f3))) - ((rd_T33 x6 x9).f3))), (rd_T33 x6 x9).f1, (rd_T33 x6 x9).f2, (rd_T33 x6 x9).f3⟩ : S33)) (wrap64 (x9 - 1))) else (none)) else (none)) else (impl_MoveLine.l1 k x6 (wrap64 (x9 - 1)))) else (none)) else (none)) else ((impl_GoodLine.f k x6).bind fun t344 => (if t344 = true then (some (x6, true)) else (some (([] : List (S33)), false))))
end
def impl_MoveLine.f (k : Nat) (l0 : List (S33)) (a1 : Int) : Option ((List (S33)) × Bool) := (impl_GoodLine.f k l0).bind fun t325 => (if t325 = true then ((impl_inRange.f a1 0 1000).bind fun t326 => (impl_MoveLine.j0 k l0 a1 (!t326))) else (impl_MoveLine.j0 k l0 a1 true))
theorem impl_MoveLine.mono_l : ∀ k, (∀ y0 y1 y2, LeO (impl_MoveLine.j0 k y0 y1 y2) (impl_MoveLine.j0 (k + 1) y0 y1 y2)) ∧ (∀ y0 y1 y2 y3 y4, LeO (impl_MoveLine.l0 k y0 y1 y2 y3 y4) (impl_MoveLine.l0 (k + 1) y0 y1 y2 y3 y4)) ∧ (∀ y0 y1, LeO (impl_MoveLine.l1 k y0 y1) (impl_MoveLine.l1 (k + 1) y0 y1))
 | 0 => ⟨fun _ _ _ r h => by simp [impl_MoveLine.j0] at h, fun _ _ _ _ _ r h => by simp [impl_MoveLine.l0] at h, fun _ _ r h => by simp [impl_MoveLine.l1] at h⟩
 | k + 1 => by
  obtain ⟨ih0, ih1, ih2⟩ := impl_MoveLine.mono_l k
  refine ⟨?_, ?_, ?_⟩
  ·intro y0 y1 y2
   unfold impl_MoveLine.j0
   repeat' first
   | (with_reducible exact ih0 _ _ _)
   | (with_reducible exact ih1 _ _ _ _ _)
   | (with_reducible exact ih2 _ _)
   | (with_reducible exact impl_GoodLine.mono _ _)
   | (with_reducible first | exact LeO.refl _ | exact LeO.none _ | refine LeO.ite ?_ ?_ | refine LeO.bind ?_ (fun _ => ?_))
   | exact ih0 _ _ _
   | exact ih1 _ _ _ _ _
   | exact ih2 _ _
   | exact impl_GoodLine.mono _ _ | exact LeO.none _ | refine LeO.ite ?_ ?_ | refine LeO.bind ?_ (fun _ => ?_)
  ·intro y0 y1 y2 y3 y4
   unfold impl_MoveLine.l0
   repeat' first
   | (with_reducible exact ih0 _ _ _)
   | (with_reducible exact ih1 _ _ _ _ _)
   | (with_reducible exact ih2 _ _)
   | (with_reducible exact impl_GoodLine.mono _ _)
   | (with_reducible first | exact LeO.refl _ | exact LeO.none _ | refine LeO.ite ?_ ?_ | refine LeO.bind ?_ (fun _ => ?_))
   | exact ih0 _ _ _
   | exact ih1 _ _ _ _ _
   | exact ih2 _ _
   | exact impl_GoodLine.mono _ _ | exact LeO.none _ | refine LeO.ite ?_ ?_ | refine LeO.bind ?_ (fun _ => ?_)
  ·intro y0 y1
   unfold impl_MoveLine.l1
   repeat' first
   | (with_reducible exact ih0 _ _ _)
   | (with_reducible exact ih1 _ _ _ _ _)
   | (with_reducible exact ih2 _ _)
   | (with_reducible exact impl_GoodLine.mono _ _)
   | (with_reducible first | exact LeO.refl _ | exact LeO.none _ | refine LeO.ite ?_ ?_ | refine LeO.bind ?_ (fun _ => ?_))
   | exact ih0 _ _ _
   | exact ih1 _ _ _ _ _
   | exact ih2 _ _
   | exact impl_GoodLine.mono _ _ | exact LeO.none _ | refine LeO.ite ?_ ?_ | refine LeO.bind ?_ (fun _ => ?_)
theorem impl_MoveLine.mono : ∀ a0 a1 k, LeO (impl_MoveLine.f k a0 a1) (impl_MoveLine.f (k + 1) a0 a1) := by
 intro a0 a1 k
 obtain ⟨ih0, ih1, ih2⟩ := impl_MoveLine.mono_l k
 unfold impl_MoveLine.f
 repeat' first
   | (with_reducible exact ih0 _ _ _)
   | (with_reducible exact ih1 _ _ _ _ _)
   | (with_reducible exact ih2 _ _)
   | (with_reducible exact impl_GoodLine.mono _ _)
   | (with_reducible first | exact LeO.refl _ | exact LeO.none _ | refine LeO.ite ?_ ?_ | refine LeO.bind ?_ (fun _ => ?_))
   | exact ih0 _ _ _
   | exact ih1 _ _ _ _ _
   | exact ih2 _ _
   | exact impl_GoodLine.mono _ _ | exact LeO.none _ | refine LeO.ite ?_ ?_ | refine LeO.bind ?_ (fun _ => ?_)
def impl_MoveLine.T8 : Bool × List (List Nat × List Nat) := (true, [([], []), ([], []), ([0, 1], [0, 1]), ([2], [2]), ([3], [3]), ([], []), ([5], [5]), ([], []), ([6, 7], [6, 7]), ([], []), ([9], [9]), ([8, 10], [8, 10]), ([4, 11], [4, 11]), ([0, 1, 0, 1, 2, 3, 4, 5, 6, 7, 8, 9, 10, 11, 12], [0, 1]), ([13, 0, 1, 2, 3, 4, 5, 6, 7, 8, 9, 10, 11, 12], [13]), ([14, 12, 0, 1, 2, 3, 4, 5, 6, 7, 8, 9, 10, 11, 12], [12, 14])])
def impl_MoveLine.B8 : List Nat := [0, 0, 3, 7, 15, 0, 32, 0, 224, 0, 512, 2016, 4095, 8191, 16383, 32767]
theorem impl_MoveLine.tab8 : rtab .any (opsOf Try.f8 8) = impl_MoveLine.T8 := by kernel_rfl
theorem impl_MoveLine.bits8 : waitsOk impl_MoveLine.T8.2 impl_MoveLine.B8 = true := by kernel_rfl
def impl_MoveLine.T10 : Bool × List (List Nat × List Nat) := (true, [([], []), ([], []), ([], []), ([], []), ([2, 3], [2, 3]), ([4], [4]), ([5], [5]), ([], []), ([], []), ([8], [8]), ([7, 9], [7, 9]), ([10], [10]), ([11], [11]), ([], []), ([], []), ([14], [14]), ([13, 15], [13, 15]), ([16], [16]), ([17], [17]), ([12, 18], [12, 18]), ([], []), ([20], [20]), ([19, 21], [19, 21]), ([6, 22], [6, 22]), ([0, 1, 0, 1, 2, 3, 4, 5, 6, 7, 8, 9, 10, 11, 12, 13, 14, 15, 16, 17, 18, 19, 20, 21, 22, 23], [0, 1]), ([24, 0, 1, 2, 3, 4, 5, 6, 7, 8, 9, 10, 11, 12, 13, 14, 15, 16, 17, 18, 19, 20, 21, 22, 23], [24]), ([25, 23, 0, 1, 2, 3, 4, 5, 6, 7, 8, 9, 10, 11, 12, 13, 14, 15, 16, 17, 18, 19, 20, 21, 22, 23], [23, 25])])
def impl_MoveLine.B10 : List Nat := [0, 0, 0, 0, 12, 28, 60, 0, 0, 256, 896, 1920, 3968, 0, 0, 16384, 57344, 122880, 253952, 524160, 0, 1048576, 4194176, 8388604, 16777215, 33554431, 67108863]
theorem impl_MoveLine.tab10 : rtab .any (opsOf Try.f8 10) = impl_MoveLine.T10 := by kernel_rfl
theorem impl_MoveLine.bits10 : waitsOk impl_MoveLine.T10.2 impl_MoveLine.B10 = true := by kernel_rfl
def impl_MoveLine.T16 : Bool × List (List Nat × List Nat) := (true, [([], []), ([], []), ([], []), ([], []), ([2, 3], [2, 3]), ([4], [4]), ([5], [5]), ([], []), ([], []), ([8], [8]), ([7, 9], [7, 9]), ([10], [10]), ([11], [11]), ([], []), ([], []), ([14], [14]), ([13, 15], [13, 15]), ([16], [16]), ([17], [17]), ([12, 18], [12, 18]), ([], []), ([], []), ([20, 21], [20, 21]), ([22], [22]), ([23], [23]), ([19, 24], [19, 24]), ([6, 25], [6, 25]), ([0, 1, 0, 1, 2, 3, 4, 5, 6, 7, 8, 9, 10, 11, 12, 13, 14, 15, 16, 17, 18, 19, 20, 21, 22, 23, 24, 25, 26], [0, 1]), ([27, 0, 1, 2, 3, 4, 5, 6, 7, 8, 9, 10, 11, 12, 13, 14, 15, 16, 17, 18, 19, 20, 21, 22, 23, 24, 25, 26], [27]), ([28, 26, 0, 1, 2, 3, 4, 5, 6, 7, 8, 9, 10, 11, 12, 13, 14, 15, 16, 17, 18, 19, 20, 21, 22, 23, 24, 25, 26], [26, 28])])
def impl_MoveLine.B16 : List Nat := [0, 0, 0, 0, 12, 28, 60, 0, 0, 256, 896, 1920, 3968, 0, 0, 16384, 57344, 122880, 253952, 524160, 0, 0, 3145728, 7340032, 15728640, 33554304, 67108860, 134217727, 268435455, 536870911]
theorem impl_MoveLine.tab16 : rtab .any (opsOf Try.f8 16) = impl_MoveLine.T16 := by kernel_rfl
theorem impl_MoveLine.bits16 : waitsOk impl_MoveLine.T16.2 impl_MoveLine.B16 = true := by kernel_rfl
set_option maxHeartbeats 8000000 in
set_option maxRecDepth 100000 in
theorem impl_MoveLine.calls (k : Nat) (A0 : Option Addr) (c0 : Nat) (l0 : List (S33)) (a1 : Int) (r1 : List (S33)) (r2 : Bool) (w : World) (hr0 : Kd.C k33 w A0 l0.length l0) (hc0 : l0.length ≤ c0) (h : impl_MoveLine.f k l0 a1 = some (r1, r2)) :
  Calls Try.prog 8 #[.slice A0 l0.length c0, .int .i64 a1] w fun e w' => ∃ v0_ : Value, e = .returned (.tuple #[v0_, .bool r2]) ∧ Kd.R k33 33 w' w.heap.size (fun _ => True) v0_ r1 ∧ Below w.heap.size w w' := by
 have hu33 := Try.underlying33
 have HR0 := Aside0.mk hr0
 have HC0 := Aside0.mk hc0
 clear hr0 hc0
 have HB := Aside0.mk (Below.refl w.heap.size w)
 have H : ((impl_GoodLine.f k l0).bind fun t325 => (if t325 = true then ((impl_inRange.f a1 0 1000).bind fun t326 => (impl_MoveLine.j0 k l0 a1 (!t326))) else (impl_MoveLine.j0 k l0 a1 true))) = some (r1, r2) := h
 clear h
 have HC3 := Aside0.mk H
 clear H
 go_enter Try.func8, Try.ntmps8
 go_upto_region 1 with (fail)
 go_cut [17] (fun v17 wc => ∃ (kq : Nat) (x17_2 : Bool), v17 = .bool x17_2 ∧ Aside0 (impl_MoveLine.j0 kq l0 a1 x17_2 = some (r1, r2)) ∧ Aside0 (kq ≤ k) ∧ Aside0 (Below w.heap.size w wc))
 case first =>
  have H := HC3.out
  clear HC3
  replace H := Option.bind_eq_some_iff.mp H
  obtain ⟨t325, A40, H⟩ := H
  replace H : (if t325 = true then ((impl_inRange.f a1 0 1000).bind fun t326 => (impl_MoveLine.j0 k l0 a1 (!t326))) else (impl_MoveLine.j0 k l0 a1 true)) = some (r1, r2) := H
  have A4 := Aside0.mk A40
  clear A40
  by_cases c5 : t325 = true
  ·subst c5
   have H1 : ((impl_inRange.f a1 0 1000).bind fun t326 => (impl_MoveLine.j0 k l0 a1 (!t326))) = some (r1, r2) := by rw [if_pos rfl] at H; exact H
   clear H
   have H := H1
   clear H1
   replace H := Option.bind_eq_some_iff.mp H
   obtain ⟨t326, A60, H⟩ := H
   replace H : (impl_MoveLine.j0 k l0 a1 (!t326)) = some (r1, r2) := H
   have A6 := Aside0.mk A60
   clear A60
   have H' := Aside0.mk H
   clear H
   go_wp2_with (first | ((with_reducible refine gate_callee (f := 18) rfl ?_); refine goesL_ (some 11) rfl rfl Try.func18 (by kernel_rfl) rfl #[.slice A0 l0.length c0] rfl aE ?_; (with_reducible refine (impl_GoodLine.calls k _ _ l0 true _ ?side1 ?side2 A4.out).mono ?_); (case side1 => exact cU (Kd.C_below HR0.out HB.out)); (case side2 => exact HC0.out); rintro e w7 ⟨rfl, hb⟩; refine ⟨_, rfl, ?_⟩; replace HB := bH (lU) hb; (try clear hb)) | (go_at_call 20; (with_reducible refine (impl_inRange.calls a1 0 1000 t326 _ A6.out).mono ?_); rintro e w' ⟨rfl, ⟨nd, rfl⟩⟩))
   go_meet
   case rel => exact ⟨_, (!t326), tE, H', ⟨by first | omega | exact Nat.le_refl _⟩, ⟨by repeat (first | (with_reducible first | exact HB.out | apply below_alloc | apply pw_below_drewN | apply below_drew1) | exact HB.out)⟩⟩
  ·replace c5 := Bool.eq_false_iff.mpr c5
   subst c5
   have H1 : (impl_MoveLine.j0 k l0 a1 true) = some (r1, r2) := by rw [if_neg (show ¬ (false = true) by decide)] at H; exact H
   clear H
   have H := H1
   clear H1
   have H' := Aside0.mk H
   clear H
   go_wp2_with (first | ((with_reducible refine gate_callee (f := 18) rfl ?_); refine goesL_ (some 11) rfl rfl Try.func18 (by kernel_rfl) rfl #[.slice A0 l0.length c0] rfl aE ?_; (with_reducible refine (impl_GoodLine.calls k _ _ l0 false _ ?side1 ?side2 A4.out).mono ?_); (case side1 => exact cU (Kd.C_below HR0.out HB.out)); (case side2 => exact HC0.out); rintro e w8 ⟨rfl, hb⟩; refine ⟨_, rfl, ?_⟩; replace HB := bH (lU) hb; (try clear hb)))
   go_meet
   case rel => exact ⟨_, (true), tE, H', ⟨by first | omega | exact Nat.le_refl _⟩, ⟨by repeat (first | (with_reducible first | exact HB.out | apply below_alloc | apply pw_below_drewN | apply below_drew1) | exact HB.out)⟩⟩
 case rest =>
  clear HC3
  obtain ⟨kq, x17_2, rfl, HA, HJ2, HB⟩ := hcut
  cases kq with
  | zero => exact absurd HA.out (by simp [impl_MoveLine.j0])
  | succ kj2 =>
   have H := HA.out
   clear HA
   simp only [impl_MoveLine.j0] at H
   by_cases c9 : x17_2 = true
   ·subst c9
    have H1 : (some (([] : List (S33)), false)) = some (r1, r2) := by rw [if_pos rfl] at H; exact H
    clear H
    have H := H1
    clear H1
    simp only [Option.some.injEq, Prod.mk.injEq] at H
    obtain ⟨rfl, rfl⟩ := H
    go_wp2
    go_ret2
    exact ⟨_, eE, by first | exact Kd.R_nil _ _ _ _ _ | exact Kd.N_nil _ _ _ _ _ | exact Kd.V_nil _ _ _ _ _ | exact Kd.Q_nil _ _ _ _ _ | exact Kd.S_nil _ _ _ _ _, lU⟩
   ·replace c9 := Bool.eq_false_iff.mpr c9
    subst c9
    have H1 : ((impl_Body_21.f l0).bind fun t327 => (impl_MoveLine.l0 kj2 a1 t327 l0 (l0.length : Int) 0)) = some (r1, r2) := by rw [if_neg (show ¬ (false = true) by decide)] at H; exact H
    clear H
    have H := H1
    clear H1
    replace H := Option.bind_eq_some_iff.mp H
    obtain ⟨t327, A100, H⟩ := H
    replace H : (impl_MoveLine.l0 kj2 a1 t327 l0 (l0.length : Int) 0) = some (r1, r2) := H
    have A10 := Aside0.mk A100
    clear A100
    have H' := Aside0.mk H
    clear H
    go_wp2_with (first | ((with_reducible refine gate_callee (f := 21) rfl ?_); refine goesL_ (some 19) rfl rfl Try.func21 (by kernel_rfl) rfl #[.slice A0 l0.length c0] rfl aE ?_; (with_reducible refine (impl_Body_21.calls _ _ l0 t327 _ ?side1 ?side2 A10.out).mono ?_); (case side1 => exact cU (Kd.C_below HR0.out HB.out)); (case side2 => exact HC0.out); rintro e w11 ⟨v328, rfl, ho0, hb⟩; refine ⟨_, rfl, ?_⟩; have HO329 := Aside0.mk (Kd.R_lower ho0 (below_size (lU))); replace HB := bH (lU) hb; (try clear hb); (try clear ho0)))
    (try simp only [Act.put, List.setIfInBounds_toArray, List.set_cons_zero, List.set_cons_succ])
    go_loopg [22] kj2 (fun kq v22 w' => ∃ (x6_2 : List (S33)) (x22_2 : Int), v22 = .int .i64 x22_2 ∧ Aside0 (impl_MoveLine.l0 kq a1 x6_2 l0 (l0.length : Int) x22_2 = some (r1, r2)) ∧ Aside0 (kq ≤ kj2) ∧ Aside0 (Kd.R k33 33 w' w.heap.size (fun _ => True) v328 x6_2) ∧ Aside0 (Below w.heap.size w w'))
    case atStart => exact ⟨(t327), (0), tE, H', ⟨Nat.le_refl _⟩, ⟨by (with_reducible repeat (first | apply Kd.R_alloc | apply Kd.R_drewN | apply Kd.R_drew)); exact HO329.out⟩, ⟨by repeat (first | (with_reducible first | exact HB.out | apply below_alloc | apply pw_below_drewN | apply below_drew1) | exact HB.out)⟩⟩
    case round =>
     clear H'
     try clear c9
     obtain ⟨x6_2, x22_2, rfl, HA, HK2, HO_6, HB⟩ := hrel
     cases gk with
     | zero => exact absurd HA.out (by simp [impl_MoveLine.l0])
     | succ k2 =>
      have H := HA.out
      clear HA
      simp only [impl_MoveLine.l0] at H
      by_cases c12 : x22_2 < (l0.length : Int)
      ·rw [if_pos c12] at H
       have c12b0 : decide (x22_2 < (l0.length : Int)) = true := decide_eq_true c12
       clear c12
       by_cases c13 : 0 ≤ x22_2
       ·rw [if_pos c13] at H
        have c13b0 : decide (0 ≤ x22_2) = true := decide_eq_true c13
        clear c13
        by_cases c14 : x22_2 < (l0.length : Int)
        ·rw [if_pos c14] at H
         have c14b0 : decide (x22_2 < (l0.length : Int)) = true := decide_eq_true c14
         clear c14
         by_cases c15 : ((rd_T33 l0 x22_2).f2) = 0
         ·rw [if_pos c15] at H
          have c15b0 : (((rd_T33 l0 x22_2).f2) == 0) = true := beq_iff_eq.mpr c15
          have c15b1 : (((rd_T33 l0 x22_2).f2) != 0) = false := bne_eq_false_iff_eq.mpr c15
          clear c15
          have H' := Aside0.mk H
          clear H
          have p330 : 0 ≤ (x22_2 : Int) := of_decide_eq_true hE
          have q330 : x22_2 < (l0.length : Int) := of_decide_eq_true hE
          obtain ⟨ad330, e330, hx330_0, hx330_1, hx330_2, hx330_3⟩ := at_T33 HR0.out x22_2 p330 q330
          cases e330
          replace hx330_0 := (HB.out.cell (World.block_lt_of_cell? w _ hx330_0)).trans hx330_0
          replace hx330_1 := (HB.out.cell (World.block_lt_of_cell? w _ hx330_1)).trans hx330_1
          replace hx330_2 := (HB.out.cell (World.block_lt_of_cell? w _ hx330_2)).trans hx330_2
          replace hx330_3 := (HB.out.cell (World.block_lt_of_cell? w _ hx330_3)).trans hx330_3
          replace p330 := eq_true p330
          replace q330 := eq_true q330
          go_wp2_with (first | ((with_reducible refine gate_dst (N := 8) rfl ?_); refine box_event rfl (N := 8) rfl (cs := #[.int .i64 0, .int .i64 0, .int .i64 0, .int .i64 0]) (t := 33) sE ?_; intro gb331 hg w16 hbox hb; replace HO_6 := Aside0.mk (Kd.R_below (Kd.R_elderB (rU HO_6.out) gb331 (Nat.le_of_eq hg.symm)) hb); have BK331 := Aside0.mk hbox; have GW331 := gS w hg (lU); have GE331 := gS w hg (lU); replace HB := bH (lU) hb; clear hb hbox hg; have hcz17_0 := cz BK331 0 (.int .i64 0); have hcz17_1 := cz BK331 1 (.int .i64 0); have hcz17_2 := cz BK331 2 (.int .i64 0); have hcz17_3 := cz BK331 3 (.int .i64 0); have hfz17_0 := fz BK331 0; have hfz17_1 := fz BK331 1; have hfz17_2 := fz BK331 2; have hfz17_3 := fz BK331 3))
          go_roundg k2
          case measure => have := HJ2.out; have := HK2.out; omega
          case rel => exact ⟨(x6_2), (wrap64 (x22_2 + 1)), tE, H', ⟨by have := HJ2.out; have := HK2.out; omega⟩, ⟨by (with_reducible repeat (first | apply Kd.R_alloc | apply Kd.R_drewN | apply Kd.R_drew)); exact Kd.R_mono (Kd.R_far (p := ⟨gb331, 3, none⟩) (Kd.R_far (p := ⟨gb331, 2, none⟩) (Kd.R_far (p := ⟨gb331, 1, none⟩) (Kd.R_far (p := ⟨gb331, 0, none⟩) (Kd.R_mono HO_6.out (fun k_ hk => (⟨hk, hk.2⟩ : _ ∧ k_ ≠ gb331))) (fun _ hk => hk.2) (.int .i64 ((rd_T33 l0 x22_2).f0))) (fun _ hk => hk.2) (.int .i64 ((rd_T33 l0 x22_2).f1))) (fun _ hk => hk.2) (.int .i64 ((rd_T33 l0 x22_2).f2))) (fun _ hk => hk.2) (.int .i64 ((rd_T33 l0 x22_2).f3))) (fun _ hk => trivial)⟩, ⟨by repeat (first | (with_reducible first | exact HB.out | apply below_alloc | apply pw_below_drewN | apply below_drew1 | refine below_set ?_ GE331.out) | exact HB.out)⟩⟩
         ·rw [if_neg c15] at H
          have c15b0 : (((rd_T33 l0 x22_2).f2) == 0) = false := beq_eq_false_iff_ne.mpr c15
          have c15b1 : (((rd_T33 l0 x22_2).f2) != 0) = true := bne_iff_ne.mpr c15
          by_cases c18 : x22_2 < (x6_2.length : Int)
          ·rw [if_pos c18] at H
           have c18b0 : decide (x22_2 < (x6_2.length : Int)) = true := decide_eq_true c18
           clear c18
           obtain ⟨y333, hy333⟩ : ∃ y_ : List (S33), y_ = (x6_2.set (x22_2 : Int).toNat (⟨wrap64 (((rd_T33 x6_2 x22_2).f0) + (wrap64 (Int.tdiv (wrap64 (((rd_T33 l0 x22_2).f1) * a1)) ((rd_T33 l0 x22_2).f2)))), (rd_T33 x6_2 x22_2).f1, (rd_T33 x6_2 x22_2).f2, (rd_T33 x6_2 x22_2).f3⟩ : S33)) := ⟨_, rfl⟩
           replace H : (if x22_2 > 0 then (if 0 ≤ (wrap64 (x22_2 - 1)) then (if (wrap64 (x22_2 - 1)) < (x6_2.length : Int) then (impl_MoveLine.l0 k2 a1 (y333.set (x22_2 : Int).toNat (⟨mx ((rd_T33 y333 x22_2).f0) (wrap64 ((wrap64 (((rd_T33 y333 (wrap64 (x22_2 - 1))).f0) + ((rd_T33 y333 (wrap64 (x22_2 - 1))).f3))) + ((rd_T33 l0 x22_2).f3))), (rd_T33 y333 x22_2).f1, (rd_T33 y333 x22_2).f2, (rd_T33 y333 x22_2).f3⟩ : S33)) l0 (l0.length : Int) (wrap64 (x22_2 + 1))) else (none)) else (none)) else (impl_MoveLine.l0 k2 a1 y333 l0 (l0.length : Int) (wrap64 (x22_2 + 1)))) = some (r1, r2) := by first | (rw [hy333]; with_reducible exact H) | (have H2_ := (Option.bind_some _ _).symm.trans H; rw [hy333]; with_reducible exact H2_) | (have H2_ := (Option.bind_some _ _).symm.trans H; with_reducible exact H2_) | with_reducible exact H | (rw [hy333]; exact H) | exact H
           have Ny333 := Aside0.mk hy333
           clear hy333
           by_cases c20 : x22_2 > 0
           ·rw [if_pos c20] at H
            have c20b0 : decide (0 < x22_2) = true := decide_eq_true c20
            clear c20
            obtain ⟨ji21, hji21⟩ : ∃ j_ : Int, (wrap64 (x22_2 - 1)) = j_ := ⟨_, rfl⟩
            replace H : (if 0 ≤ (ji21) then (if (ji21) < (x6_2.length : Int) then (impl_MoveLine.l0 k2 a1 (y333.set (x22_2 : Int).toNat (⟨mx ((rd_T33 y333 x22_2).f0) (wrap64 ((wrap64 (((rd_T33 y333 (ji21)).f0) + ((rd_T33 y333 (ji21)).f3))) + ((rd_T33 l0 x22_2).f3))), (rd_T33 y333 x22_2).f1, (rd_T33 y333 x22_2).f2, (rd_T33 y333 x22_2).f3⟩ : S33)) l0 (l0.length : Int) (wrap64 (x22_2 + 1))) else (none)) else (none)) = some (r1, r2) := by first | (rw [hji21] at H; exact H) | (simp only [hji21] at H ⊢; exact H)
            have hji21w : (IntKind.i64.wrap (x22_2 - 1)) = ji21 := (i64_w _).trans hji21
            by_cases c22 : 0 ≤ (ji21)
            ·rw [if_pos c22] at H
             have c22b0 : decide (0 ≤ (ji21)) = true := decide_eq_true c22
             clear c22
             by_cases c23 : (ji21) < (x6_2.length : Int)
             ·rw [if_pos c23] at H
              have c23b0 : decide ((ji21) < (x6_2.length : Int)) = true := decide_eq_true c23
              clear c23
              obtain ⟨ji24, hji24⟩ : ∃ j_ : Int, (mx ((rd_T33 y333 x22_2).f0) (wrap64 ((wrap64 (((rd_T33 y333 (ji21)).f0) + ((rd_T33 y333 (ji21)).f3))) + ((rd_T33 l0 x22_2).f3)))) = j_ := ⟨_, rfl⟩
              replace H : (impl_MoveLine.l0 k2 a1 (y333.set (x22_2 : Int).toNat (⟨ji24, (rd_T33 y333 x22_2).f1, (rd_T33 y333 x22_2).f2, (rd_T33 y333 x22_2).f3⟩ : S33)) l0 (l0.length : Int) (wrap64 (x22_2 + 1))) = some (r1, r2) := by first | (rw [hji24] at H; exact H) | (simp only [hji24] at H ⊢; exact H)
              have hji24_ : (if ((rd_T33 y333 x22_2).f0) < (wrap64 ((wrap64 (((rd_T33 y333 (ji21)).f0) + ((rd_T33 y333 (ji21)).f3))) + ((rd_T33 l0 x22_2).f3))) then (wrap64 ((wrap64 (((rd_T33 y333 (ji21)).f0) + ((rd_T33 y333 (ji21)).f3))) + ((rd_T33 l0 x22_2).f3))) else ((rd_T33 y333 x22_2).f0)) = ji24 := hji24
              obtain ⟨y337, hy337⟩ : ∃ y_ : List (S33), y_ = (y333.set (x22_2 : Int).toNat (⟨ji24, (rd_T33 y333 x22_2).f1, (rd_T33 y333 x22_2).f2, (rd_T33 y333 x22_2).f3⟩ : S33)) := ⟨_, rfl⟩
              replace H : (impl_MoveLine.l0 k2 a1 y337 l0 (l0.length : Int) (wrap64 (x22_2 + 1))) = some (r1, r2) := by first | (rw [hy337]; with_reducible exact H) | (have H2_ := (Option.bind_some _ _).symm.trans H; rw [hy337]; with_reducible exact H2_) | (have H2_ := (Option.bind_some _ _).symm.trans H; with_reducible exact H2_) | with_reducible exact H | (rw [hy337]; exact H) | exact H
              have Ny337 := Aside0.mk hy337
              clear hy337
              have H' := Aside0.mk H
              clear H
              have p330 : 0 ≤ (x22_2 : Int) := of_decide_eq_true hE
              have q330 : x22_2 < (l0.length : Int) := of_decide_eq_true hE
              obtain ⟨ad330, e330, hx330_0, hx330_1, hx330_2, hx330_3⟩ := at_T33 HR0.out x22_2 p330 q330
              cases e330
              replace hx330_0 := (HB.out.cell (World.block_lt_of_cell? w _ hx330_0)).trans hx330_0
              replace hx330_1 := (HB.out.cell (World.block_lt_of_cell? w _ hx330_1)).trans hx330_1
              replace hx330_2 := (HB.out.cell (World.block_lt_of_cell? w _ hx330_2)).trans hx330_2
              replace hx330_3 := (HB.out.cell (World.block_lt_of_cell? w _ hx330_3)).trans hx330_3
              replace p330 := eq_true p330
              replace q330 := eq_true q330
              try go_wp2_with (first | ((with_reducible refine gate_dst (N := 8) rfl ?_); refine box_event rfl (N := 8) rfl (cs := #[.int .i64 0, .int .i64 0, .int .i64 0, .int .i64 0]) (t := 33) sE ?_; intro gb331 hg w26 hbox hb; replace HO_6 := Aside0.mk (Kd.R_below (Kd.R_elderB (rU HO_6.out) gb331 (Nat.le_of_eq hg.symm)) hb); have BK331 := Aside0.mk hbox; have GW331 := gS w hg (lU); have GE331 := gS w hg (lU); replace HB := bH (lU) hb; clear hb hbox hg; have hcz27_0 := cz BK331 0 (.int .i64 0); have hcz27_1 := cz BK331 1 (.int .i64 0); have hcz27_2 := cz BK331 2 (.int .i64 0); have hcz27_3 := cz BK331 3 (.int .i64 0); have hfz27_0 := fz BK331 0; have hfz27_1 := fz BK331 1; have hfz27_2 := fz BK331 2; have hfz27_3 := fz BK331 3))
              have n0_ : Aside0 (Kd.R k33 33 ((((w26.setCell ⟨gb331, 0, none⟩ (.int .i64 ((rd_T33 l0 x22_2).f0))).setCell ⟨gb331, 1, none⟩ (.int .i64 ((rd_T33 l0 x22_2).f1))).setCell ⟨gb331, 2, none⟩ (.int .i64 ((rd_T33 l0 x22_2).f2))).setCell ⟨gb331, 3, none⟩ (.int .i64 ((rd_T33 l0 x22_2).f3))) w.heap.size (fun k_ => k_ ≠ gb331) v328 x6_2) := ⟨by (with_reducible repeat (first | apply Kd.R_alloc | apply Kd.R_drewN | apply Kd.R_drew)); exact Kd.R_mono (Kd.R_far (p := ⟨gb331, 3, none⟩) (Kd.R_far (p := ⟨gb331, 2, none⟩) (Kd.R_far (p := ⟨gb331, 1, none⟩) (Kd.R_far (p := ⟨gb331, 0, none⟩) (Kd.R_mono HO_6.out (fun k_ hk => (⟨hk, hk.2⟩ : _ ∧ k_ ≠ gb331))) (fun _ hk => hk.2) (.int .i64 ((rd_T33 l0 x22_2).f0))) (fun _ hk => hk.2) (.int .i64 ((rd_T33 l0 x22_2).f1))) (fun _ hk => hk.2) (.int .i64 ((rd_T33 l0 x22_2).f2))) (fun _ hk => hk.2) (.int .i64 ((rd_T33 l0 x22_2).f3))) (fun _ hk => hk.1.2)⟩
              have n1_ : Aside0 (((((w26.setCell ⟨gb331, 0, none⟩ (.int .i64 ((rd_T33 l0 x22_2).f0))).setCell ⟨gb331, 1, none⟩ (.int .i64 ((rd_T33 l0 x22_2).f1))).setCell ⟨gb331, 2, none⟩ (.int .i64 ((rd_T33 l0 x22_2).f2))).setCell ⟨gb331, 3, none⟩ (.int .i64 ((rd_T33 l0 x22_2).f3))).heap[gb331]? = some (.cells #[.int .i64 ((rd_T33 l0 x22_2).f0), .int .i64 ((rd_T33 l0 x22_2).f1), .int .i64 ((rd_T33 l0 x22_2).f2), .int .i64 ((rd_T33 l0 x22_2).f3)] 33 (0, 0))) := ⟨by refine bU ?_; refine blk_put (cs := #[.int .i64 ((rd_T33 l0 x22_2).f0), .int .i64 ((rd_T33 l0 x22_2).f1), .int .i64 ((rd_T33 l0 x22_2).f2), .int .i64 0]) ?_ 3 _ rfl; refine bU ?_; refine blk_put (cs := #[.int .i64 ((rd_T33 l0 x22_2).f0), .int .i64 ((rd_T33 l0 x22_2).f1), .int .i64 0, .int .i64 0]) ?_ 2 _ rfl; refine bU ?_; refine blk_put (cs := #[.int .i64 ((rd_T33 l0 x22_2).f0), .int .i64 0, .int .i64 0, .int .i64 0]) ?_ 1 _ rfl; refine bU ?_; refine blk_put (cs := #[.int .i64 0, .int .i64 0, .int .i64 0, .int .i64 0]) ?_ 0 _ rfl; refine bU ?_; exact BK331.out⟩
              have n2_ : Aside0 (Below w.heap.size w ((((w26.setCell ⟨gb331, 0, none⟩ (.int .i64 ((rd_T33 l0 x22_2).f0))).setCell ⟨gb331, 1, none⟩ (.int .i64 ((rd_T33 l0 x22_2).f1))).setCell ⟨gb331, 2, none⟩ (.int .i64 ((rd_T33 l0 x22_2).f2))).setCell ⟨gb331, 3, none⟩ (.int .i64 ((rd_T33 l0 x22_2).f3)))) := ⟨by repeat (first | (with_reducible first | exact HB.out | apply below_alloc | apply pw_below_drewN | apply below_drew1 | refine below_set ?_ GE331.out) | exact HB.out)⟩
              (try clear HO_6)
              (try clear BK331)
              (try clear HB)
              generalize ((((w26.setCell ⟨gb331, 0, none⟩ (.int .i64 ((rd_T33 l0 x22_2).f0))).setCell ⟨gb331, 1, none⟩ (.int .i64 ((rd_T33 l0 x22_2).f1))).setCell ⟨gb331, 2, none⟩ (.int .i64 ((rd_T33 l0 x22_2).f2))).setCell ⟨gb331, 3, none⟩ (.int .i64 ((rd_T33 l0 x22_2).f3))) = w28 at n0_ n1_ n2_ ⊢
              have HO_6 := n0_
              have BK331 := n1_
              have HB := n2_
              clear n0_ n1_ n2_
              replace HO_6 := Aside0.mk (Kd.R_drew HO_6.out)
              replace BK331 := Aside0.mk (blk_drew BK331.out)
              replace HB := Aside0.mk (below_drew1 HB.out)
              obtain ⟨Ao30, co30, eo30⟩ := Kd.R_slice HO_6.out
              (first | subst eo30 | (injection eo30 with f1_ f2_ f3_; have f4_ := f1_.symm; have f5_ := f3_.symm; clear f1_ f2_ f3_; subst f4_; subst f5_))
              have p332 : 0 ≤ (x22_2 : Int) := of_decide_eq_true hE
              have q332 : x22_2 < (x6_2.length : Int) := of_decide_eq_true hE
              obtain ⟨ad332, e332, hx332_0, hx332_1, hx332_2, hx332_3⟩ := at_T33 (Kd.R_reads' HO_6.out).2.2 x22_2 p332 q332
              cases e332
              replace p332 := eq_true p332
              replace q332 := eq_true q332
              have p19 : 0 ≤ (x22_2 : Int) := of_decide_eq_true hE
              have q19 : (x22_2 : Int) < ((x6_2.length : Int) : Int) := of_decide_eq_true hE
              obtain ⟨go19, co19, eo19, gb19, gl19, cl19, HG19⟩ := Kd.R_form HO_6.out (by omega)
              (first | cases eo19 | (injection eo19 with ea_ en_ ec_; (first | subst ea_ | (injection ea_ with ea_; subst ea_)); subst ec_; clear en_))
              have GB19 := Aside0.mk gb19
              have GG19 := Aside0.mk HG19
              clear gb19 gl19 HG19
              (first | simp only [add_plain] at hx332_0 | skip)
              (first | simp only [add_plain] at hx332_1 | skip)
              (first | simp only [add_plain] at hx332_2 | skip)
              (first | simp only [add_plain] at hx332_3 | skip)
              obtain ⟨ce19, hcl19, hM19, hcc19, hfr19⟩ := Kd.R_elem HO_6.out z33 (x22_2 : Int) p19 q19
              obtain rfl := k33_openM hM19
              have hx19_0 : World.cell? _ ⟨go19, (x22_2 : Int).toNat * 4, none⟩ = some (.int .i64 ((rd_T33 x6_2 x22_2).f0)) := hcc19 0 _ rfl
              have hx19_1 : World.cell? _ ⟨go19, (x22_2 : Int).toNat * 4 + 1, none⟩ = some (.int .i64 ((rd_T33 x6_2 x22_2).f1)) := hcc19 1 _ rfl
              have hx19_2 : World.cell? _ ⟨go19, (x22_2 : Int).toNat * 4 + 2, none⟩ = some (.int .i64 ((rd_T33 x6_2 x22_2).f2)) := hcc19 2 _ rfl
              have hx19_3 : World.cell? _ ⟨go19, (x22_2 : Int).toNat * 4 + 3, none⟩ = some (.int .i64 ((rd_T33 x6_2 x22_2).f3)) := hcc19 3 _ rfl
              have hf19_0 : World.frozen? _ ⟨go19, (x22_2 : Int).toNat * 4, none⟩ = false := hfr19 0
              have hf19_1 : World.frozen? _ ⟨go19, (x22_2 : Int).toNat * 4 + 1, none⟩ = false := hfr19 1
              have hf19_2 : World.frozen? _ ⟨go19, (x22_2 : Int).toNat * 4 + 2, none⟩ = false := hfr19 2
              have hf19_3 : World.frozen? _ ⟨go19, (x22_2 : Int).toNat * 4 + 3, none⟩ = false := hfr19 3
              (try clear hcl19)
              (try clear hcc19)
              (try clear hfr19)
              (try clear hM19)
              replace p19 := eq_true p19
              replace q19 := eq_true q19
              obtain ⟨ce31, hcl31, hM31, hcc31, hfr31⟩ := Kd.R_elem HO_6.out z33 (x22_2 : Int) (of_decide_eq_true hE) (by have h_ : (x22_2 : Int) < ((x6_2.length : Int) : Int) := of_decide_eq_true hE; first | exact h_ | (have e_ := (Kd.R_reads' HO_6.out).1; omega) | simpa using h_)
              obtain rfl := k33_openM hM31
              have HP31 := (Kd.R_seg HO_6.out (x22_2 : Int) (of_decide_eq_true hE) (by have h_ : (x22_2 : Int) < ((x6_2.length : Int) : Int) := of_decide_eq_true hE; first | exact h_ | (have e_ := (Kd.R_reads' HO_6.out).1; omega) | simpa using h_) (seg := [.int .i64 (wrap64 (((rd_T33 x6_2 x22_2).f0) + (wrap64 (Int.tdiv (wrap64 (((rd_T33 l0 x22_2).f1) * a1)) ((rd_T33 l0 x22_2).f2)))))]) (j := 0) hcl31 hcc31 (show 1 ≤ 4 from by decide) (x' := (⟨wrap64 (((rd_T33 x6_2 x22_2).f0) + (wrap64 (Int.tdiv (wrap64 (((rd_T33 l0 x22_2).f1) * a1)) ((rd_T33 l0 x22_2).f2)))), (rd_T33 x6_2 x22_2).f1, (rd_T33 x6_2 x22_2).f2, (rd_T33 x6_2 x22_2).f3⟩ : S33)) (k33_mkM _ _ _ (⟨wrap64 (((rd_T33 x6_2 x22_2).f0) + (wrap64 (Int.tdiv (wrap64 (((rd_T33 l0 x22_2).f1) * a1)) ((rd_T33 l0 x22_2).f2)))), (rd_T33 x6_2 x22_2).f1, (rd_T33 x6_2 x22_2).f2, (rd_T33 x6_2 x22_2).f3⟩ : S33) ) (fun _ hk => hk)).1
              rw [← Ny333.out] at HP31
              have HQ31 := Aside0.mk HP31
              clear hcl31 hcc31 hfr31 hM31 HP31
              refine start_ (n := 16) (S := fun w' => w'.cell? ⟨gb331, 0, none⟩ = some (.int .i64 ((rd_T33 l0 x22_2).f0)) ∧ w'.cell? ⟨gb331, 1, none⟩ = some (.int .i64 ((rd_T33 l0 x22_2).f1)) ∧ w'.cell? ⟨gb331, 2, none⟩ = some (.int .i64 ((rd_T33 l0 x22_2).f2)) ∧ w'.cell? ⟨gb331, 3, none⟩ = some (.int .i64 ((rd_T33 l0 x22_2).f3)) ∧ w'.cell? ⟨go19, ((x22_2).toNat * 4), none⟩ = some (.int .i64 ((rd_T33 x6_2 x22_2).f0)) ∧ w'.cell? ⟨go19, ((x22_2).toNat * 4) + 1, none⟩ = some (.int .i64 ((rd_T33 x6_2 x22_2).f1)) ∧ w'.cell? ⟨go19, ((x22_2).toNat * 4) + 2, none⟩ = some (.int .i64 ((rd_T33 x6_2 x22_2).f2)) ∧ w'.cell? ⟨go19, ((x22_2).toNat * 4) + 3, none⟩ = some (.int .i64 ((rd_T33 x6_2 x22_2).f3))) (ds := [15]) #[false, false, false, false, false, false, false, false, false, false, false, false, false, false, false, false] (by kernel_rfl) rfl rfl ⟨cz BK331 0 _, cz BK331 1 _, cz BK331 2 _, cz BK331 3 _, hx332_0, hx332_1, hx332_2, hx332_3⟩ (fun hHeld => ?_); refine with_tabW impl_MoveLine.tab8 impl_MoveLine.bits8 (fun HT_ HW_ => ?_)
              generalize w28.drew = w29 at HO_6 BK331 HB GG19 HQ31 hf19_0 hf19_1 hf19_2 hf19_3 hx19_0 hx19_1 hx19_2 hx19_3 hx332_0 hx332_1 hx332_2 hx332_3 hHeld ⊢
              refine pureA 0 30 (bz 16 1) rfl rfl (any_of HT_.out (by kernel_rfl)) ?_
              refine pureA 1 31 (bz 16 3) rfl rfl (any_of HT_.out (by kernel_rfl)) ?_
              refine pureA 2 32 (bz 16 7) rfl rfl (any_of HT_.out (by kernel_rfl)) ?_
              refine pureA 3 33 (bz 16 15) rfl rfl (any_of HT_.out (by kernel_rfl)) ?_
              refine pureA 5 35 (bz 16 47) rfl rfl (any_of HT_.out (by kernel_rfl)) ?_
              refine pureA 7 37 (bz 16 175) rfl rfl (any_of HT_.out (by kernel_rfl)) ?_
              refine pureA 9 39 (bz 16 687) rfl rfl (any_of HT_.out (by kernel_rfl)) ?_
              refine takeA 4 34 (bz 16 703) rfl rfl (take_ofW HT_.out HW_.out (by kernel_rfl)) hHeld (by rintro w' ⟨s0, s1, s2, s3, s4, s5, s6, s7⟩; go_simp; with_reducible rfl) ?_
              refine takeA 6 36 (bz 16 767) rfl rfl (take_ofW HT_.out HW_.out (by kernel_rfl)) hHeld (by rintro w' ⟨s0, s1, s2, s3, s4, s5, s6, s7⟩; go_simp; with_reducible rfl) ?_
              refine pureA 8 38 (bz 16 1023) rfl rfl (any_of HT_.out (by kernel_rfl)) ?_
              refine takeA 10 40 (bz 16 2047) rfl rfl (take_ofW HT_.out HW_.out (by kernel_rfl)) hHeld (by rintro w' ⟨s0, s1, s2, s3, s4, s5, s6, s7⟩; go_simp; with_reducible rfl) ?_
              refine pureA 11 41 (bz 16 4095) rfl rfl (any_of HT_.out (by kernel_rfl)) ?_
              refine pureA 12 42 (bz 16 8191) rfl rfl (any_of HT_.out (by kernel_rfl)) ?_
              refine pureA 13 43 (bz 16 16383) rfl rfl (any_of HT_.out (by kernel_rfl)) ?_
              refine pureA 14 44 (bz 16 32767) rfl rfl (any_of HT_.out (by kernel_rfl)) ?_
              refine last_ (i := 15) (N := none) (bz 16 65535) rfl rfl (one_of HT_.out (by kernel_rfl)) (by decide) (fun K hK => ?_)
              refine skip_ (w1 := ?_) (by rfl) rfl ?_ ?_
              rotate_left
              ·go_simp
               rfl
              refine hK.out _ _ ?_
              clear hK K
              refine done_ (done_of HT_.out (by kernel_rfl)) ?_
              try go_wp2
              have n0_ : Aside0 (Kd.R k33 33 (w29.setCell ⟨go19, (x22_2 : Int).toNat * 4, none⟩ (.int .i64 (wrap64 (((rd_T33 x6_2 x22_2).f0) + (wrap64 (Int.tdiv (wrap64 (((rd_T33 l0 x22_2).f1) * a1)) ((rd_T33 l0 x22_2).f2))))))) w.heap.size (fun k_ => k_ ≠ gb331) (.slice (some ⟨go19, 0, none⟩) x6_2.length co30) y333) := ⟨by (with_reducible repeat (first | apply Kd.R_alloc | apply Kd.R_drewN | apply Kd.R_drew)); exact HQ31.out⟩
              have n1_ : Aside0 ((w29.setCell ⟨go19, (x22_2 : Int).toNat * 4, none⟩ (.int .i64 (wrap64 (((rd_T33 x6_2 x22_2).f0) + (wrap64 (Int.tdiv (wrap64 (((rd_T33 l0 x22_2).f1) * a1)) ((rd_T33 l0 x22_2).f2))))))).heap[gb331]? = some (.cells #[.int .i64 ((rd_T33 l0 x22_2).f0), .int .i64 ((rd_T33 l0 x22_2).f1), .int .i64 ((rd_T33 l0 x22_2).f2), .int .i64 ((rd_T33 l0 x22_2).f3)] 33 (0, 0))) := ⟨by refine bU ?_; refine blk_far ?_ (by have h_ := Kd.R_away HO_6.out (fun _ hk => hk); intro e_; exact h_ (by rw [e_]; rfl)) _; refine bU ?_; exact BK331.out⟩
              have n2_ : Aside0 (Below w.heap.size w (w29.setCell ⟨go19, (x22_2 : Int).toNat * 4, none⟩ (.int .i64 (wrap64 (((rd_T33 x6_2 x22_2).f0) + (wrap64 (Int.tdiv (wrap64 (((rd_T33 l0 x22_2).f1) * a1)) ((rd_T33 l0 x22_2).f2)))))))) := ⟨by repeat (first | (with_reducible first | exact HB.out | apply below_alloc | apply pw_below_drewN | apply below_drew1 | refine below_set ?_ GB19.out | refine below_set ?_ GE331.out) | exact HB.out)⟩
              (try clear HO_6)
              (try clear BK331)
              (try clear HB)
              generalize (w29.setCell ⟨go19, (x22_2 : Int).toNat * 4, none⟩ (.int .i64 (wrap64 (((rd_T33 x6_2 x22_2).f0) + (wrap64 (Int.tdiv (wrap64 (((rd_T33 l0 x22_2).f1) * a1)) ((rd_T33 l0 x22_2).f2))))))) = w32 at n0_ n1_ n2_ ⊢
              have HO_6 := n0_
              have BK331 := n1_
              have HB := n2_
              clear n0_ n1_ n2_
              replace HO_6 := Aside0.mk (Kd.R_drew HO_6.out)
              replace BK331 := Aside0.mk (blk_drew BK331.out)
              replace HB := Aside0.mk (below_drew1 HB.out)
              have p334 : 0 ≤ (x22_2 : Int) := of_decide_eq_true hE
              have q334 : x22_2 < (y333.length : Int) := (by have h_ : (x22_2 : Int) < ((x6_2.length : Int) : Int) := of_decide_eq_true hE; first | (have e_ := (Kd.R_reads' HO_6.out).1; omega) | simpa only [Ny333.out, List.length_set] using h_)
              have ql334 : ((x22_2 : Int) < ((x6_2.length : Int) : Int)) = True := eq_true (of_decide_eq_true hE)
              obtain ⟨ad334, e334, hx334_0, hx334_1, hx334_2, hx334_3⟩ := at_T33 (Kd.R_reads' HO_6.out).2.2 x22_2 p334 q334
              obtain rfl : (⟨go19, 0, none⟩ : Addr) = ad334 := (by injection e334)
              (first | simp only [add_plain] at hx334_0 | simp only [add_at] at hx334_0 | simp only [Addr.add, Nat.zero_add] at hx334_0 | skip)
              (first | simp only [add_plain] at hx334_1 | simp only [add_at] at hx334_1 | simp only [Addr.add, Nat.zero_add] at hx334_1 | skip)
              (first | simp only [add_plain] at hx334_2 | simp only [add_at] at hx334_2 | simp only [Addr.add, Nat.zero_add] at hx334_2 | skip)
              (first | simp only [add_plain] at hx334_3 | simp only [add_at] at hx334_3 | simp only [Addr.add, Nat.zero_add] at hx334_3 | skip)
              replace p334 := eq_true p334
              replace q334 := eq_true q334
              have p335 : 0 ≤ ((ji21) : Int) := of_decide_eq_true hE
              have q335 : (ji21) < (y333.length : Int) := (by have h_ : ((ji21) : Int) < ((x6_2.length : Int) : Int) := of_decide_eq_true hE; first | (have e_ := (Kd.R_reads' HO_6.out).1; omega) | simpa only [Ny333.out, List.length_set] using h_)
              have ql335 : (((ji21) : Int) < ((x6_2.length : Int) : Int)) = True := eq_true (of_decide_eq_true hE)
              obtain ⟨ad335, e335, hx335_0, hx335_1, hx335_2, hx335_3⟩ := at_T33 (Kd.R_reads' HO_6.out).2.2 (ji21) p335 q335
              obtain rfl : (⟨go19, 0, none⟩ : Addr) = ad335 := (by injection e335)
              (first | simp only [add_plain] at hx335_0 | simp only [add_at] at hx335_0 | simp only [Addr.add, Nat.zero_add] at hx335_0 | skip)
              (first | simp only [add_plain] at hx335_1 | simp only [add_at] at hx335_1 | simp only [Addr.add, Nat.zero_add] at hx335_1 | skip)
              (first | simp only [add_plain] at hx335_2 | simp only [add_at] at hx335_2 | simp only [Addr.add, Nat.zero_add] at hx335_2 | skip)
              (first | simp only [add_plain] at hx335_3 | simp only [add_at] at hx335_3 | simp only [Addr.add, Nat.zero_add] at hx335_3 | skip)
              replace p335 := eq_true p335
              replace q335 := eq_true q335
              have p336 : 0 ≤ ((ji21) : Int) := of_decide_eq_true hE
              have q336 : (ji21) < (y333.length : Int) := (by have h_ : ((ji21) : Int) < ((x6_2.length : Int) : Int) := of_decide_eq_true hE; first | (have e_ := (Kd.R_reads' HO_6.out).1; omega) | simpa only [Ny333.out, List.length_set] using h_)
              have ql336 : (((ji21) : Int) < ((x6_2.length : Int) : Int)) = True := eq_true (of_decide_eq_true hE)
              obtain ⟨ad336, e336, hx336_0, hx336_1, hx336_2, hx336_3⟩ := at_T33 (Kd.R_reads' HO_6.out).2.2 (ji21) p336 q336
              obtain rfl : (⟨go19, 0, none⟩ : Addr) = ad336 := (by injection e336)
              (first | simp only [add_plain] at hx336_0 | simp only [add_at] at hx336_0 | simp only [Addr.add, Nat.zero_add] at hx336_0 | skip)
              (first | simp only [add_plain] at hx336_1 | simp only [add_at] at hx336_1 | simp only [Addr.add, Nat.zero_add] at hx336_1 | skip)
              (first | simp only [add_plain] at hx336_2 | simp only [add_at] at hx336_2 | simp only [Addr.add, Nat.zero_add] at hx336_2 | skip)
              (first | simp only [add_plain] at hx336_3 | simp only [add_at] at hx336_3 | simp only [Addr.add, Nat.zero_add] at hx336_3 | skip)
              replace p336 := eq_true p336
              replace q336 := eq_true q336
              have p25 : 0 ≤ (x22_2 : Int) := of_decide_eq_true hE
              have q25 : (x22_2 : Int) < ((x6_2.length : Int) : Int) := of_decide_eq_true hE
              obtain ⟨ce25, hcl25, hM25, hcc25, hfr25⟩ := Kd.R_elem HO_6.out z33 (x22_2 : Int) p25 q25
              obtain rfl := k33_openM hM25
              have hx25_0 : World.cell? _ ⟨go19, (x22_2 : Int).toNat * 4, none⟩ = some (.int .i64 ((rd_T33 y333 x22_2).f0)) := hcc25 0 _ rfl
              have hx25_1 : World.cell? _ ⟨go19, (x22_2 : Int).toNat * 4 + 1, none⟩ = some (.int .i64 ((rd_T33 y333 x22_2).f1)) := hcc25 1 _ rfl
              have hx25_2 : World.cell? _ ⟨go19, (x22_2 : Int).toNat * 4 + 2, none⟩ = some (.int .i64 ((rd_T33 y333 x22_2).f2)) := hcc25 2 _ rfl
              have hx25_3 : World.cell? _ ⟨go19, (x22_2 : Int).toNat * 4 + 3, none⟩ = some (.int .i64 ((rd_T33 y333 x22_2).f3)) := hcc25 3 _ rfl
              have hf25_0 : World.frozen? _ ⟨go19, (x22_2 : Int).toNat * 4, none⟩ = false := hfr25 0
              have hf25_1 : World.frozen? _ ⟨go19, (x22_2 : Int).toNat * 4 + 1, none⟩ = false := hfr25 1
              have hf25_2 : World.frozen? _ ⟨go19, (x22_2 : Int).toNat * 4 + 2, none⟩ = false := hfr25 2
              have hf25_3 : World.frozen? _ ⟨go19, (x22_2 : Int).toNat * 4 + 3, none⟩ = false := hfr25 3
              (try clear hcl25)
              (try clear hcc25)
              (try clear hfr25)
              (try clear hM25)
              replace p25 := eq_true p25
              replace q25 := eq_true q25
              obtain ⟨ce34, hcl34, hM34, hcc34, hfr34⟩ := Kd.R_elem HO_6.out z33 (x22_2 : Int) (of_decide_eq_true hE) (by have h_ : (x22_2 : Int) < ((x6_2.length : Int) : Int) := of_decide_eq_true hE; first | exact h_ | (have e_ := (Kd.R_reads' HO_6.out).1; omega) | simpa using h_)
              obtain rfl := k33_openM hM34
              have HP34 := (Kd.R_seg HO_6.out (x22_2 : Int) (of_decide_eq_true hE) (by have h_ : (x22_2 : Int) < ((x6_2.length : Int) : Int) := of_decide_eq_true hE; first | exact h_ | (have e_ := (Kd.R_reads' HO_6.out).1; omega) | simpa using h_) (seg := [.int .i64 ji24]) (j := 0) hcl34 hcc34 (show 1 ≤ 4 from by decide) (x' := (⟨ji24, (rd_T33 y333 x22_2).f1, (rd_T33 y333 x22_2).f2, (rd_T33 y333 x22_2).f3⟩ : S33)) (k33_mkM _ _ _ (⟨ji24, (rd_T33 y333 x22_2).f1, (rd_T33 y333 x22_2).f2, (rd_T33 y333 x22_2).f3⟩ : S33) ) (fun _ hk => hk)).1
              rw [← Ny337.out] at HP34
              have HQ34 := Aside0.mk HP34
              clear hcl34 hcc34 hfr34 hM34 HP34
              refine start_ (n := 27) (S := fun w' => w'.cell? ⟨gb331, 0, none⟩ = some (.int .i64 ((rd_T33 l0 x22_2).f0)) ∧ w'.cell? ⟨gb331, 1, none⟩ = some (.int .i64 ((rd_T33 l0 x22_2).f1)) ∧ w'.cell? ⟨gb331, 2, none⟩ = some (.int .i64 ((rd_T33 l0 x22_2).f2)) ∧ w'.cell? ⟨gb331, 3, none⟩ = some (.int .i64 ((rd_T33 l0 x22_2).f3)) ∧ w'.cell? ⟨go19, (x22_2).toNat * 4, none⟩ = some (.int .i64 ((rd_T33 y333 x22_2).f0)) ∧ w'.cell? ⟨go19, (x22_2).toNat * 4 + 1, none⟩ = some (.int .i64 ((rd_T33 y333 x22_2).f1)) ∧ w'.cell? ⟨go19, (x22_2).toNat * 4 + 2, none⟩ = some (.int .i64 ((rd_T33 y333 x22_2).f2)) ∧ w'.cell? ⟨go19, (x22_2).toNat * 4 + 3, none⟩ = some (.int .i64 ((rd_T33 y333 x22_2).f3)) ∧ w'.cell? ⟨go19, ((ji21)).toNat * 4, none⟩ = some (.int .i64 ((rd_T33 y333 (ji21)).f0)) ∧ w'.cell? ⟨go19, ((ji21)).toNat * 4 + 1, none⟩ = some (.int .i64 ((rd_T33 y333 (ji21)).f1)) ∧ w'.cell? ⟨go19, ((ji21)).toNat * 4 + 2, none⟩ = some (.int .i64 ((rd_T33 y333 (ji21)).f2)) ∧ w'.cell? ⟨go19, ((ji21)).toNat * 4 + 3, none⟩ = some (.int .i64 ((rd_T33 y333 (ji21)).f3)) ∧ w'.cell? ⟨go19, ((ji21)).toNat * 4, none⟩ = some (.int .i64 ((rd_T33 y333 (ji21)).f0)) ∧ w'.cell? ⟨go19, ((ji21)).toNat * 4 + 1, none⟩ = some (.int .i64 ((rd_T33 y333 (ji21)).f1)) ∧ w'.cell? ⟨go19, ((ji21)).toNat * 4 + 2, none⟩ = some (.int .i64 ((rd_T33 y333 (ji21)).f2)) ∧ w'.cell? ⟨go19, ((ji21)).toNat * 4 + 3, none⟩ = some (.int .i64 ((rd_T33 y333 (ji21)).f3))) (ds := [26]) #[false, false, false, false, false, false, false, false, false, false, false, false, false, false, false, false, false, false, false, false, false, false, false, false, false, false, false] (by kernel_rfl) rfl rfl ⟨cz BK331 0 _, cz BK331 1 _, cz BK331 2 _, cz BK331 3 _, hx334_0, hx334_1, hx334_2, hx334_3, hx335_0, hx335_1, hx335_2, hx335_3, hx336_0, hx336_1, hx336_2, hx336_3⟩ (fun hHeld => ?_); refine with_tabW impl_MoveLine.tab10 impl_MoveLine.bits10 (fun HT_ HW_ => ?_)
              generalize w32.drew = w33 at HO_6 BK331 HB HQ31 HQ34 hf25_0 hf25_1 hf25_2 hf25_3 hx25_0 hx25_1 hx25_2 hx25_3 hx334_0 hx334_1 hx334_2 hx334_3 hx335_0 hx335_1 hx335_2 hx335_3 hx336_0 hx336_1 hx336_2 hx336_3 hHeld ⊢
              refine pureA 0 47 (bz 27 1) rfl rfl (any_of HT_.out (by kernel_rfl)) ?_
              refine pureA 1 48 (bz 27 3) rfl rfl (any_of HT_.out (by kernel_rfl)) ?_
              refine pureA 2 49 (bz 27 7) rfl rfl (any_of HT_.out (by kernel_rfl)) ?_
              refine pureA 3 50 (bz 27 15) rfl rfl (any_of HT_.out (by kernel_rfl)) ?_
              refine pureA 4 51 (bz 27 31) rfl rfl (any_of HT_.out (by kernel_rfl)) ?_
              refine pureA 5 52 (bz 27 63) rfl rfl (any_of HT_.out (by kernel_rfl)) ?_
              refine pureA 7 54 (bz 27 191) rfl rfl (any_of HT_.out (by kernel_rfl)) ?_
              refine pureA 8 55 (bz 27 447) rfl rfl (any_of HT_.out (by kernel_rfl)) ?_
              refine pureA 9 56 (bz 27 959) rfl rfl (any_of HT_.out (by kernel_rfl)) ?_
              refine pureA 10 57 (bz 27 1983) rfl rfl (any_of HT_.out (by kernel_rfl)) ?_
              refine pureA 11 58 (bz 27 4031) rfl rfl (any_of HT_.out (by kernel_rfl)) ?_
              refine pureA 13 60 (bz 27 12223) rfl rfl (any_of HT_.out (by kernel_rfl)) ?_
              refine pureA 14 61 (bz 27 28607) rfl rfl (any_of HT_.out (by kernel_rfl)) ?_
              refine pureA 15 62 (bz 27 61375) rfl rfl (any_of HT_.out (by kernel_rfl)) ?_
              refine pureA 16 63 (bz 27 126911) rfl rfl (any_of HT_.out (by kernel_rfl)) ?_
              refine pureA 17 64 (bz 27 257983) rfl rfl (any_of HT_.out (by kernel_rfl)) ?_
              refine pureA 20 67 (bz 27 1306559) rfl rfl (any_of HT_.out (by kernel_rfl)) ?_
              refine takeA 6 53 (bz 27 1306623) rfl rfl (take_ofW HT_.out HW_.out (by kernel_rfl)) hHeld (by rintro w' ⟨s0, s1, s2, s3, s4, s5, s6, s7, s8, s9, s10, s11, s12, s13, s14, s15⟩; go_simp; with_reducible rfl) ?_
              refine takeA 12 59 (bz 27 1310719) rfl rfl (take_ofW HT_.out HW_.out (by kernel_rfl)) hHeld (by rintro w' ⟨s0, s1, s2, s3, s4, s5, s6, s7, s8, s9, s10, s11, s12, s13, s14, s15⟩; go_simp; with_reducible rfl) ?_
              refine takeA 18 65 (bz 27 1572863) rfl rfl (take_ofW HT_.out HW_.out (by kernel_rfl)) hHeld (by rintro w' ⟨s0, s1, s2, s3, s4, s5, s6, s7, s8, s9, s10, s11, s12, s13, s14, s15⟩; go_simp; with_reducible rfl) ?_
              refine pureA 19 66 (bz 27 2097151) rfl rfl (any_of HT_.out (by kernel_rfl)) ?_
              refine takeA 21 68 (bz 27 4194303) rfl rfl (take_ofW HT_.out HW_.out (by kernel_rfl)) hHeld (by rintro w' ⟨s0, s1, s2, s3, s4, s5, s6, s7, s8, s9, s10, s11, s12, s13, s14, s15⟩; go_simp; with_reducible rfl) ?_
              refine pureA 22 69 (bz 27 8388607) rfl rfl (any_of HT_.out (by kernel_rfl)) ?_
              refine pureA 23 70 (bz 27 16777215) rfl rfl (any_of HT_.out (by kernel_rfl)) ?_
              refine pureA 24 71 (bz 27 33554431) rfl rfl (any_of HT_.out (by kernel_rfl)) ?_
              refine pureA 25 72 (bz 27 67108863) rfl rfl (any_of HT_.out (by kernel_rfl)) ?_
              refine last_ (i := 26) (N := none) (bz 27 134217727) rfl rfl (one_of HT_.out (by kernel_rfl)) (by decide) (fun K hK => ?_)
              refine skip_ (w1 := ?_) (by rfl) rfl ?_ ?_
              rotate_left
              ·go_simp
               rfl
              refine hK.out _ _ ?_
              clear hK K
              refine done_ (done_of HT_.out (by kernel_rfl)) ?_
              try go_wp2
              go_roundg k2
              case measure => have := HJ2.out; have := HK2.out; omega
              case rel => exact ⟨(y337), (wrap64 (x22_2 + 1)), tE, H', ⟨by have := HJ2.out; have := HK2.out; omega⟩, ⟨by (with_reducible repeat (first | apply Kd.R_alloc | apply Kd.R_drewN | apply Kd.R_drew)); exact Kd.R_mono HQ34.out (fun _ hk => trivial)⟩, ⟨by repeat (first | (with_reducible first | exact HB.out | apply below_alloc | apply pw_below_drewN | apply below_drew1 | refine below_set ?_ GB19.out | refine below_set ?_ GE331.out) | exact HB.out)⟩⟩
             ·rw [if_neg c23] at H
              exact absurd H (by simp)
            ·rw [if_neg c22] at H
             exact absurd H (by simp)
           ·rw [if_neg c20] at H
            have c20b0 : decide (0 < x22_2) = false := decide_eq_false c20
            clear c20
            have H' := Aside0.mk H
            clear H
            have p330 : 0 ≤ (x22_2 : Int) := of_decide_eq_true hE
            have q330 : x22_2 < (l0.length : Int) := of_decide_eq_true hE
            obtain ⟨ad330, e330, hx330_0, hx330_1, hx330_2, hx330_3⟩ := at_T33 HR0.out x22_2 p330 q330
            cases e330
            replace hx330_0 := (HB.out.cell (World.block_lt_of_cell? w _ hx330_0)).trans hx330_0
            replace hx330_1 := (HB.out.cell (World.block_lt_of_cell? w _ hx330_1)).trans hx330_1
            replace hx330_2 := (HB.out.cell (World.block_lt_of_cell? w _ hx330_2)).trans hx330_2
            replace hx330_3 := (HB.out.cell (World.block_lt_of_cell? w _ hx330_3)).trans hx330_3
            replace p330 := eq_true p330
            replace q330 := eq_true q330
            try go_wp2_with (first | ((with_reducible refine gate_dst (N := 8) rfl ?_); refine box_event rfl (N := 8) rfl (cs := #[.int .i64 0, .int .i64 0, .int .i64 0, .int .i64 0]) (t := 33) sE ?_; intro gb331 hg w35 hbox hb; replace HO_6 := Aside0.mk (Kd.R_below (Kd.R_elderB (rU HO_6.out) gb331 (Nat.le_of_eq hg.symm)) hb); have BK331 := Aside0.mk hbox; have GW331 := gS w hg (lU); have GE331 := gS w hg (lU); replace HB := bH (lU) hb; clear hb hbox hg; have hcz36_0 := cz BK331 0 (.int .i64 0); have hcz36_1 := cz BK331 1 (.int .i64 0); have hcz36_2 := cz BK331 2 (.int .i64 0); have hcz36_3 := cz BK331 3 (.int .i64 0); have hfz36_0 := fz BK331 0; have hfz36_1 := fz BK331 1; have hfz36_2 := fz BK331 2; have hfz36_3 := fz BK331 3))
            have n0_ : Aside0 (Kd.R k33 33 ((((w35.setCell ⟨gb331, 0, none⟩ (.int .i64 ((rd_T33 l0 x22_2).f0))).setCell ⟨gb331, 1, none⟩ (.int .i64 ((rd_T33 l0 x22_2).f1))).setCell ⟨gb331, 2, none⟩ (.int .i64 ((rd_T33 l0 x22_2).f2))).setCell ⟨gb331, 3, none⟩ (.int .i64 ((rd_T33 l0 x22_2).f3))) w.heap.size (fun k_ => k_ ≠ gb331) v328 x6_2) := ⟨by (with_reducible repeat (first | apply Kd.R_alloc | apply Kd.R_drewN | apply Kd.R_drew)); exact Kd.R_mono (Kd.R_far (p := ⟨gb331, 3, none⟩) (Kd.R_far (p := ⟨gb331, 2, none⟩) (Kd.R_far (p := ⟨gb331, 1, none⟩) (Kd.R_far (p := ⟨gb331, 0, none⟩) (Kd.R_mono HO_6.out (fun k_ hk => (⟨hk, hk.2⟩ : _ ∧ k_ ≠ gb331))) (fun _ hk => hk.2) (.int .i64 ((rd_T33 l0 x22_2).f0))) (fun _ hk => hk.2) (.int .i64 ((rd_T33 l0 x22_2).f1))) (fun _ hk => hk.2) (.int .i64 ((rd_T33 l0 x22_2).f2))) (fun _ hk => hk.2) (.int .i64 ((rd_T33 l0 x22_2).f3))) (fun _ hk => hk.1.2)⟩
            have n1_ : Aside0 (((((w35.setCell ⟨gb331, 0, none⟩ (.int .i64 ((rd_T33 l0 x22_2).f0))).setCell ⟨gb331, 1, none⟩ (.int .i64 ((rd_T33 l0 x22_2).f1))).setCell ⟨gb331, 2, none⟩ (.int .i64 ((rd_T33 l0 x22_2).f2))).setCell ⟨gb331, 3, none⟩ (.int .i64 ((rd_T33 l0 x22_2).f3))).heap[gb331]? = some (.cells #[.int .i64 ((rd_T33 l0 x22_2).f0), .int .i64 ((rd_T33 l0 x22_2).f1), .int .i64 ((rd_T33 l0 x22_2).f2), .int .i64 ((rd_T33 l0 x22_2).f3)] 33 (0, 0))) := ⟨by refine bU ?_; refine blk_put (cs := #[.int .i64 ((rd_T33 l0 x22_2).f0), .int .i64 ((rd_T33 l0 x22_2).f1), .int .i64 ((rd_T33 l0 x22_2).f2), .int .i64 0]) ?_ 3 _ rfl; refine bU ?_; refine blk_put (cs := #[.int .i64 ((rd_T33 l0 x22_2).f0), .int .i64 ((rd_T33 l0 x22_2).f1), .int .i64 0, .int .i64 0]) ?_ 2 _ rfl; refine bU ?_; refine blk_put (cs := #[.int .i64 ((rd_T33 l0 x22_2).f0), .int .i64 0, .int .i64 0, .int .i64 0]) ?_ 1 _ rfl; refine bU ?_; refine blk_put (cs := #[.int .i64 0, .int .i64 0, .int .i64 0, .int .i64 0]) ?_ 0 _ rfl; refine bU ?_; exact BK331.out⟩
            have n2_ : Aside0 (Below w.heap.size w ((((w35.setCell ⟨gb331, 0, none⟩ (.int .i64 ((rd_T33 l0 x22_2).f0))).setCell ⟨gb331, 1, none⟩ (.int .i64 ((rd_T33 l0 x22_2).f1))).setCell ⟨gb331, 2, none⟩ (.int .i64 ((rd_T33 l0 x22_2).f2))).setCell ⟨gb331, 3, none⟩ (.int .i64 ((rd_T33 l0 x22_2).f3)))) := ⟨by repeat (first | (with_reducible first | exact HB.out | apply below_alloc | apply pw_below_drewN | apply below_drew1 | refine below_set ?_ GE331.out) | exact HB.out)⟩
            (try clear HO_6)
            (try clear BK331)
            (try clear HB)
            generalize ((((w35.setCell ⟨gb331, 0, none⟩ (.int .i64 ((rd_T33 l0 x22_2).f0))).setCell ⟨gb331, 1, none⟩ (.int .i64 ((rd_T33 l0 x22_2).f1))).setCell ⟨gb331, 2, none⟩ (.int .i64 ((rd_T33 l0 x22_2).f2))).setCell ⟨gb331, 3, none⟩ (.int .i64 ((rd_T33 l0 x22_2).f3))) = w37 at n0_ n1_ n2_ ⊢
            have HO_6 := n0_
            have BK331 := n1_
            have HB := n2_
            clear n0_ n1_ n2_
            replace HO_6 := Aside0.mk (Kd.R_drew HO_6.out)
            replace BK331 := Aside0.mk (blk_drew BK331.out)
            replace HB := Aside0.mk (below_drew1 HB.out)
            obtain ⟨Ao39, co39, eo39⟩ := Kd.R_slice HO_6.out
            (first | subst eo39 | (injection eo39 with f1_ f2_ f3_; have f4_ := f1_.symm; have f5_ := f3_.symm; clear f1_ f2_ f3_; subst f4_; subst f5_))
            have p332 : 0 ≤ (x22_2 : Int) := of_decide_eq_true hE
            have q332 : x22_2 < (x6_2.length : Int) := of_decide_eq_true hE
            obtain ⟨ad332, e332, hx332_0, hx332_1, hx332_2, hx332_3⟩ := at_T33 (Kd.R_reads' HO_6.out).2.2 x22_2 p332 q332
            cases e332
            replace p332 := eq_true p332
            replace q332 := eq_true q332
            have p19 : 0 ≤ (x22_2 : Int) := of_decide_eq_true hE
            have q19 : (x22_2 : Int) < ((x6_2.length : Int) : Int) := of_decide_eq_true hE
            obtain ⟨go19, co19, eo19, gb19, gl19, cl19, HG19⟩ := Kd.R_form HO_6.out (by omega)
            (first | cases eo19 | (injection eo19 with ea_ en_ ec_; (first | subst ea_ | (injection ea_ with ea_; subst ea_)); subst ec_; clear en_))
            have GB19 := Aside0.mk gb19
            have GG19 := Aside0.mk HG19
            clear gb19 gl19 HG19
            (first | simp only [add_plain] at hx332_0 | skip)
            (first | simp only [add_plain] at hx332_1 | skip)
            (first | simp only [add_plain] at hx332_2 | skip)
            (first | simp only [add_plain] at hx332_3 | skip)
            obtain ⟨ce19, hcl19, hM19, hcc19, hfr19⟩ := Kd.R_elem HO_6.out z33 (x22_2 : Int) p19 q19
            obtain rfl := k33_openM hM19
            have hx19_0 : World.cell? _ ⟨go19, (x22_2 : Int).toNat * 4, none⟩ = some (.int .i64 ((rd_T33 x6_2 x22_2).f0)) := hcc19 0 _ rfl
            have hx19_1 : World.cell? _ ⟨go19, (x22_2 : Int).toNat * 4 + 1, none⟩ = some (.int .i64 ((rd_T33 x6_2 x22_2).f1)) := hcc19 1 _ rfl
            have hx19_2 : World.cell? _ ⟨go19, (x22_2 : Int).toNat * 4 + 2, none⟩ = some (.int .i64 ((rd_T33 x6_2 x22_2).f2)) := hcc19 2 _ rfl
            have hx19_3 : World.cell? _ ⟨go19, (x22_2 : Int).toNat * 4 + 3, none⟩ = some (.int .i64 ((rd_T33 x6_2 x22_2).f3)) := hcc19 3 _ rfl
            have hf19_0 : World.frozen? _ ⟨go19, (x22_2 : Int).toNat * 4, none⟩ = false := hfr19 0
            have hf19_1 : World.frozen? _ ⟨go19, (x22_2 : Int).toNat * 4 + 1, none⟩ = false := hfr19 1
            have hf19_2 : World.frozen? _ ⟨go19, (x22_2 : Int).toNat * 4 + 2, none⟩ = false := hfr19 2
            have hf19_3 : World.frozen? _ ⟨go19, (x22_2 : Int).toNat * 4 + 3, none⟩ = false := hfr19 3
            (try clear hcl19)
            (try clear hcc19)
            (try clear hfr19)
            (try clear hM19)
            replace p19 := eq_true p19
            replace q19 := eq_true q19
            obtain ⟨ce40, hcl40, hM40, hcc40, hfr40⟩ := Kd.R_elem HO_6.out z33 (x22_2 : Int) (of_decide_eq_true hE) (by have h_ : (x22_2 : Int) < ((x6_2.length : Int) : Int) := of_decide_eq_true hE; first | exact h_ | (have e_ := (Kd.R_reads' HO_6.out).1; omega) | simpa using h_)
            obtain rfl := k33_openM hM40
            have HP40 := (Kd.R_seg HO_6.out (x22_2 : Int) (of_decide_eq_true hE) (by have h_ : (x22_2 : Int) < ((x6_2.length : Int) : Int) := of_decide_eq_true hE; first | exact h_ | (have e_ := (Kd.R_reads' HO_6.out).1; omega) | simpa using h_) (seg := [.int .i64 (wrap64 (((rd_T33 x6_2 x22_2).f0) + (wrap64 (Int.tdiv (wrap64 (((rd_T33 l0 x22_2).f1) * a1)) ((rd_T33 l0 x22_2).f2)))))]) (j := 0) hcl40 hcc40 (show 1 ≤ 4 from by decide) (x' := (⟨wrap64 (((rd_T33 x6_2 x22_2).f0) + (wrap64 (Int.tdiv (wrap64 (((rd_T33 l0 x22_2).f1) * a1)) ((rd_T33 l0 x22_2).f2)))), (rd_T33 x6_2 x22_2).f1, (rd_T33 x6_2 x22_2).f2, (rd_T33 x6_2 x22_2).f3⟩ : S33)) (k33_mkM _ _ _ (⟨wrap64 (((rd_T33 x6_2 x22_2).f0) + (wrap64 (Int.tdiv (wrap64 (((rd_T33 l0 x22_2).f1) * a1)) ((rd_T33 l0 x22_2).f2)))), (rd_T33 x6_2 x22_2).f1, (rd_T33 x6_2 x22_2).f2, (rd_T33 x6_2 x22_2).f3⟩ : S33) ) (fun _ hk => hk)).1
            rw [← Ny333.out] at HP40
            have HQ40 := Aside0.mk HP40
            clear hcl40 hcc40 hfr40 hM40 HP40
            refine start_ (n := 16) (S := fun w' => w'.cell? ⟨gb331, 0, none⟩ = some (.int .i64 ((rd_T33 l0 x22_2).f0)) ∧ w'.cell? ⟨gb331, 1, none⟩ = some (.int .i64 ((rd_T33 l0 x22_2).f1)) ∧ w'.cell? ⟨gb331, 2, none⟩ = some (.int .i64 ((rd_T33 l0 x22_2).f2)) ∧ w'.cell? ⟨gb331, 3, none⟩ = some (.int .i64 ((rd_T33 l0 x22_2).f3)) ∧ w'.cell? ⟨go19, ((x22_2).toNat * 4), none⟩ = some (.int .i64 ((rd_T33 x6_2 x22_2).f0)) ∧ w'.cell? ⟨go19, ((x22_2).toNat * 4) + 1, none⟩ = some (.int .i64 ((rd_T33 x6_2 x22_2).f1)) ∧ w'.cell? ⟨go19, ((x22_2).toNat * 4) + 2, none⟩ = some (.int .i64 ((rd_T33 x6_2 x22_2).f2)) ∧ w'.cell? ⟨go19, ((x22_2).toNat * 4) + 3, none⟩ = some (.int .i64 ((rd_T33 x6_2 x22_2).f3))) (ds := [15]) #[false, false, false, false, false, false, false, false, false, false, false, false, false, false, false, false] (by kernel_rfl) rfl rfl ⟨cz BK331 0 _, cz BK331 1 _, cz BK331 2 _, cz BK331 3 _, hx332_0, hx332_1, hx332_2, hx332_3⟩ (fun hHeld => ?_); refine with_tabW impl_MoveLine.tab8 impl_MoveLine.bits8 (fun HT_ HW_ => ?_)
            generalize w37.drew = w38 at HO_6 BK331 HB GG19 HQ40 hf19_0 hf19_1 hf19_2 hf19_3 hx19_0 hx19_1 hx19_2 hx19_3 hx332_0 hx332_1 hx332_2 hx332_3 hHeld ⊢
            refine pureA 0 30 (bz 16 1) rfl rfl (any_of HT_.out (by kernel_rfl)) ?_
            refine pureA 1 31 (bz 16 3) rfl rfl (any_of HT_.out (by kernel_rfl)) ?_
            refine pureA 2 32 (bz 16 7) rfl rfl (any_of HT_.out (by kernel_rfl)) ?_
            refine pureA 3 33 (bz 16 15) rfl rfl (any_of HT_.out (by kernel_rfl)) ?_
            refine pureA 5 35 (bz 16 47) rfl rfl (any_of HT_.out (by kernel_rfl)) ?_
            refine pureA 7 37 (bz 16 175) rfl rfl (any_of HT_.out (by kernel_rfl)) ?_
            refine pureA 9 39 (bz 16 687) rfl rfl (any_of HT_.out (by kernel_rfl)) ?_
            refine takeA 4 34 (bz 16 703) rfl rfl (take_ofW HT_.out HW_.out (by kernel_rfl)) hHeld (by rintro w' ⟨s0, s1, s2, s3, s4, s5, s6, s7⟩; go_simp; with_reducible rfl) ?_
            refine takeA 6 36 (bz 16 767) rfl rfl (take_ofW HT_.out HW_.out (by kernel_rfl)) hHeld (by rintro w' ⟨s0, s1, s2, s3, s4, s5, s6, s7⟩; go_simp; with_reducible rfl) ?_
            refine pureA 8 38 (bz 16 1023) rfl rfl (any_of HT_.out (by kernel_rfl)) ?_
            refine takeA 10 40 (bz 16 2047) rfl rfl (take_ofW HT_.out HW_.out (by kernel_rfl)) hHeld (by rintro w' ⟨s0, s1, s2, s3, s4, s5, s6, s7⟩; go_simp; with_reducible rfl) ?_
            refine pureA 11 41 (bz 16 4095) rfl rfl (any_of HT_.out (by kernel_rfl)) ?_
            refine pureA 12 42 (bz 16 8191) rfl rfl (any_of HT_.out (by kernel_rfl)) ?_
            refine pureA 13 43 (bz 16 16383) rfl rfl (any_of HT_.out (by kernel_rfl)) ?_
            refine pureA 14 44 (bz 16 32767) rfl rfl (any_of HT_.out (by kernel_rfl)) ?_
            refine last_ (i := 15) (N := none) (bz 16 65535) rfl rfl (one_of HT_.out (by kernel_rfl)) (by decide) (fun K hK => ?_)
            refine skip_ (w1 := ?_) (by rfl) rfl ?_ ?_
            rotate_left
            ·go_simp
             rfl
            refine hK.out _ _ ?_
            clear hK K
            refine done_ (done_of HT_.out (by kernel_rfl)) ?_
            try go_wp2
            go_roundg k2
            case measure => have := HJ2.out; have := HK2.out; omega
            case rel => exact ⟨(y333), (wrap64 (x22_2 + 1)), tE, H', ⟨by have := HJ2.out; have := HK2.out; omega⟩, ⟨by (with_reducible repeat (first | apply Kd.R_alloc | apply Kd.R_drewN | apply Kd.R_drew)); exact Kd.R_mono HQ40.out (fun _ hk => trivial)⟩, ⟨by repeat (first | (with_reducible first | exact HB.out | apply below_alloc | apply pw_below_drewN | apply below_drew1 | refine below_set ?_ GB19.out | refine below_set ?_ GE331.out) | exact HB.out)⟩⟩
          ·rw [if_neg c18] at H
           exact absurd H (by simp)
        ·rw [if_neg c14] at H
         exact absurd H (by simp)
       ·rw [if_neg c13] at H
        exact absurd H (by simp)
      ·rw [if_neg c12] at H
       have c12b0 : decide (x22_2 < (l0.length : Int)) = false := decide_eq_false c12
       clear c12
       have H' := Aside0.mk H
       clear H
       obtain ⟨Ao41, co41, eo41⟩ := Kd.R_slice HO_6.out
       subst eo41
       go_wp2
       go_loopg [9] k2 (fun kq v9 w' => ∃ (x6_3 : List (S33)) (x9_3 : Int), v9 = .int .i64 x9_3 ∧ Aside0 (impl_MoveLine.l1 kq x6_3 x9_3 = some (r1, r2)) ∧ Aside0 (kq ≤ k2) ∧ Aside0 (Kd.R k33 33 w' w.heap.size (fun _ => True) (.slice Ao41 x6_2.length co41) x6_3) ∧ Aside0 (Below w.heap.size w w'))
       case atStart => exact ⟨(x6_2), (wrap64 ((x6_2.length : Int) - 2)), tE, H', ⟨Nat.le_refl _⟩, ⟨by (with_reducible repeat (first | apply Kd.R_alloc | apply Kd.R_drewN | apply Kd.R_drew)); exact HO_6.out⟩, ⟨by repeat (first | (with_reducible first | exact HB.out | apply below_alloc | apply pw_below_drewN | apply below_drew1) | exact HB.out)⟩⟩
       case round =>
        clear H'
        try clear c12; try clear c12b0
        obtain ⟨x6_3, x9_3, rfl, HA, HK3, HO_6, HB⟩ := hrel
        have hl6_3 := (Kd.R_reads' HO_6.out).1
        rw [hl6_3] at HO_6
        (try simp only [hl6_3])
        cases gk with
        | zero => exact absurd HA.out (by simp [impl_MoveLine.l1])
        | succ k3 =>
         have H := HA.out
         clear HA
         simp only [impl_MoveLine.l1] at H
         by_cases c42 : x9_3 ≥ 0
         ·rw [if_pos c42] at H
          have c42b0 : decide (0 ≤ x9_3) = true := decide_eq_true c42
          clear c42
          by_cases c43 : 0 ≤ x9_3
          ·rw [if_pos c43] at H
           have c43b0 : decide (0 ≤ x9_3) = true := decide_eq_true c43
           clear c43
           by_cases c44 : x9_3 < (x6_3.length : Int)
           ·rw [if_pos c44] at H
            have c44b0 : decide (x9_3 < (x6_3.length : Int)) = true := decide_eq_true c44
            clear c44
            by_cases c45 : ((rd_T33 x6_3 x9_3).f2) > 0
            ·rw [if_pos c45] at H
             have c45b0 : decide (0 < ((rd_T33 x6_3 x9_3).f2)) = true := decide_eq_true c45
             clear c45
             obtain ⟨ji46, hji46⟩ : ∃ j_ : Int, (wrap64 (x9_3 + 1)) = j_ := ⟨_, rfl⟩
             replace H : (if 0 ≤ (ji46) then (if (ji46) < (x6_3.length : Int) then (impl_MoveLine.l1 k3 (x6_3.set (x9_3 : Int).toNat (⟨mn ((rd_T33 x6_3 x9_3).f0) (wrap64 ((wrap64 (((rd_T33 x6_3 (ji46)).f0) - ((rd_T33 x6_3 (ji46)).f3))) - ((rd_T33 x6_3 x9_3).f3))), (rd_T33 x6_3 x9_3).f1, (rd_T33 x6_3 x9_3).f2, (rd_T33 x6_3 x9_3).f3⟩ : S33)) (wrap64 (x9_3 - 1))) else (none)) else (none)) = some (r1, r2) := by first | (rw [hji46] at H; exact H) | (simp only [hji46] at H ⊢; exact H)
             have hji46w : (IntKind.i64.wrap (x9_3 + 1)) = ji46 := (i64_w _).trans hji46
             by_cases c47 : 0 ≤ (ji46)
             ·rw [if_pos c47] at H
              have c47b0 : decide (0 ≤ (ji46)) = true := decide_eq_true c47
              clear c47
              by_cases c48 : (ji46) < (x6_3.length : Int)
              ·rw [if_pos c48] at H
               have c48b0 : decide ((ji46) < (x6_3.length : Int)) = true := decide_eq_true c48
               clear c48
               obtain ⟨ji49, hji49⟩ : ∃ j_ : Int, (mn ((rd_T33 x6_3 x9_3).f0) (wrap64 ((wrap64 (((rd_T33 x6_3 (ji46)).f0) - ((rd_T33 x6_3 (ji46)).f3))) - ((rd_T33 x6_3 x9_3).f3)))) = j_ := ⟨_, rfl⟩
               replace H : (impl_MoveLine.l1 k3 (x6_3.set (x9_3 : Int).toNat (⟨ji49, (rd_T33 x6_3 x9_3).f1, (rd_T33 x6_3 x9_3).f2, (rd_T33 x6_3 x9_3).f3⟩ : S33)) (wrap64 (x9_3 - 1))) = some (r1, r2) := by first | (rw [hji49] at H; exact H) | (simp only [hji49] at H ⊢; exact H)
               have hji49_ : (if (wrap64 ((wrap64 (((rd_T33 x6_3 (ji46)).f0) - ((rd_T33 x6_3 (ji46)).f3))) - ((rd_T33 x6_3 x9_3).f3))) < ((rd_T33 x6_3 x9_3).f0) then (wrap64 ((wrap64 (((rd_T33 x6_3 (ji46)).f0) - ((rd_T33 x6_3 (ji46)).f3))) - ((rd_T33 x6_3 x9_3).f3))) else ((rd_T33 x6_3 x9_3).f0)) = ji49 := hji49
               obtain ⟨y343, hy343⟩ : ∃ y_ : List (S33), y_ = (x6_3.set (x9_3 : Int).toNat (⟨ji49, (rd_T33 x6_3 x9_3).f1, (rd_T33 x6_3 x9_3).f2, (rd_T33 x6_3 x9_3).f3⟩ : S33)) := ⟨_, rfl⟩
               replace H : (impl_MoveLine.l1 k3 y343 (wrap64 (x9_3 - 1))) = some (r1, r2) := by first | (rw [hy343]; with_reducible exact H) | (have H2_ := (Option.bind_some _ _).symm.trans H; rw [hy343]; with_reducible exact H2_) | (have H2_ := (Option.bind_some _ _).symm.trans H; with_reducible exact H2_) | with_reducible exact H | (rw [hy343]; exact H) | exact H
               have Ny343 := Aside0.mk hy343
               clear hy343
               have H' := Aside0.mk H
               clear H
               have p338 : 0 ≤ (x9_3 : Int) := of_decide_eq_true hE
               have q338 : x9_3 < (x6_3.length : Int) := of_decide_eq_true hE
               obtain ⟨ad338, e338, hx338_0, hx338_1, hx338_2, hx338_3⟩ := at_T33 (Kd.R_reads' HO_6.out).2.2 x9_3 p338 q338
               cases e338
               replace p338 := eq_true p338
               replace q338 := eq_true q338
               try go_wp2
               replace HO_6 := Aside0.mk (Kd.R_drew HO_6.out)
               replace HB := Aside0.mk (below_drew1 HB.out)
               have p339 : 0 ≤ (x9_3 : Int) := of_decide_eq_true hE
               have q339 : x9_3 < (x6_3.length : Int) := of_decide_eq_true hE
               obtain ⟨ad339, e339, hx339_0, hx339_1, hx339_2, hx339_3⟩ := at_T33 (Kd.R_reads' HO_6.out).2.2 x9_3 p339 q339
               obtain rfl : ad338 = ad339 := (by injection e339)
               replace p339 := eq_true p339
               replace q339 := eq_true q339
               have p340 : 0 ≤ ((ji46) : Int) := of_decide_eq_true hE
               have q340 : (ji46) < (x6_3.length : Int) := of_decide_eq_true hE
               obtain ⟨ad340, e340, hx340_0, hx340_1, hx340_2, hx340_3⟩ := at_T33 (Kd.R_reads' HO_6.out).2.2 (ji46) p340 q340
               obtain rfl : ad338 = ad340 := (by injection e340)
               replace p340 := eq_true p340
               replace q340 := eq_true q340
               have p341 : 0 ≤ ((ji46) : Int) := of_decide_eq_true hE
               have q341 : (ji46) < (x6_3.length : Int) := of_decide_eq_true hE
               obtain ⟨ad341, e341, hx341_0, hx341_1, hx341_2, hx341_3⟩ := at_T33 (Kd.R_reads' HO_6.out).2.2 (ji46) p341 q341
               obtain rfl : ad338 = ad341 := (by injection e341)
               replace p341 := eq_true p341
               replace q341 := eq_true q341
               have p342 : 0 ≤ (x9_3 : Int) := of_decide_eq_true hE
               have q342 : x9_3 < (x6_3.length : Int) := of_decide_eq_true hE
               obtain ⟨ad342, e342, hx342_0, hx342_1, hx342_2, hx342_3⟩ := at_T33 (Kd.R_reads' HO_6.out).2.2 x9_3 p342 q342
               obtain rfl : ad338 = ad342 := (by injection e342)
               replace p342 := eq_true p342
               replace q342 := eq_true q342
               have p50 : 0 ≤ (x9_3 : Int) := of_decide_eq_true hE
               have q50 : (x9_3 : Int) < ((x6_3.length : Int) : Int) := of_decide_eq_true hE
               obtain ⟨go50, co50, eo50, gb50, gl50, cl50, HG50⟩ := Kd.R_form HO_6.out (by omega)
               (first | cases eo50 | (injection eo50 with ea_ en_ ec_; (first | subst ea_ | (injection ea_ with ea_; subst ea_)); subst ec_; clear en_))
               have GB50 := Aside0.mk gb50
               have GG50 := Aside0.mk HG50
               clear gb50 gl50 HG50
               (first | simp only [add_plain] at hx338_0 | skip)
               (first | simp only [add_plain] at hx338_1 | skip)
               (first | simp only [add_plain] at hx338_2 | skip)
               (first | simp only [add_plain] at hx338_3 | skip)
               (first | simp only [add_plain] at hx339_0 | skip)
               (first | simp only [add_plain] at hx339_1 | skip)
               (first | simp only [add_plain] at hx339_2 | skip)
               (first | simp only [add_plain] at hx339_3 | skip)
               (first | simp only [add_plain] at hx340_0 | skip)
               (first | simp only [add_plain] at hx340_1 | skip)
               (first | simp only [add_plain] at hx340_2 | skip)
               (first | simp only [add_plain] at hx340_3 | skip)
               (first | simp only [add_plain] at hx341_0 | skip)
               (first | simp only [add_plain] at hx341_1 | skip)
               (first | simp only [add_plain] at hx341_2 | skip)
               (first | simp only [add_plain] at hx341_3 | skip)
               (first | simp only [add_plain] at hx342_0 | skip)
               (first | simp only [add_plain] at hx342_1 | skip)
               (first | simp only [add_plain] at hx342_2 | skip)
               (first | simp only [add_plain] at hx342_3 | skip)
               obtain ⟨ce50, hcl50, hM50, hcc50, hfr50⟩ := Kd.R_elem HO_6.out z33 (x9_3 : Int) p50 q50
               obtain rfl := k33_openM hM50
               have hx50_0 : World.cell? _ ⟨go50, (x9_3 : Int).toNat * 4, none⟩ = some (.int .i64 ((rd_T33 x6_3 x9_3).f0)) := hcc50 0 _ rfl
               have hx50_1 : World.cell? _ ⟨go50, (x9_3 : Int).toNat * 4 + 1, none⟩ = some (.int .i64 ((rd_T33 x6_3 x9_3).f1)) := hcc50 1 _ rfl
               have hx50_2 : World.cell? _ ⟨go50, (x9_3 : Int).toNat * 4 + 2, none⟩ = some (.int .i64 ((rd_T33 x6_3 x9_3).f2)) := hcc50 2 _ rfl
               have hx50_3 : World.cell? _ ⟨go50, (x9_3 : Int).toNat * 4 + 3, none⟩ = some (.int .i64 ((rd_T33 x6_3 x9_3).f3)) := hcc50 3 _ rfl
               have hf50_0 : World.frozen? _ ⟨go50, (x9_3 : Int).toNat * 4, none⟩ = false := hfr50 0
               have hf50_1 : World.frozen? _ ⟨go50, (x9_3 : Int).toNat * 4 + 1, none⟩ = false := hfr50 1
               have hf50_2 : World.frozen? _ ⟨go50, (x9_3 : Int).toNat * 4 + 2, none⟩ = false := hfr50 2
               have hf50_3 : World.frozen? _ ⟨go50, (x9_3 : Int).toNat * 4 + 3, none⟩ = false := hfr50 3
               (try clear hcl50)
               (try clear hcc50)
               (try clear hfr50)
               (try clear hM50)
               replace p50 := eq_true p50
               replace q50 := eq_true q50
               obtain ⟨ce52, hcl52, hM52, hcc52, hfr52⟩ := Kd.R_elem HO_6.out z33 (x9_3 : Int) (of_decide_eq_true hE) (by have h_ : (x9_3 : Int) < ((x6_3.length : Int) : Int) := of_decide_eq_true hE; first | exact h_ | (have e_ := (Kd.R_reads' HO_6.out).1; omega) | simpa using h_)
               obtain rfl := k33_openM hM52
               have HP52 := (Kd.R_seg HO_6.out (x9_3 : Int) (of_decide_eq_true hE) (by have h_ : (x9_3 : Int) < ((x6_3.length : Int) : Int) := of_decide_eq_true hE; first | exact h_ | (have e_ := (Kd.R_reads' HO_6.out).1; omega) | simpa using h_) (seg := [.int .i64 ji49]) (j := 0) hcl52 hcc52 (show 1 ≤ 4 from by decide) (x' := (⟨ji49, (rd_T33 x6_3 x9_3).f1, (rd_T33 x6_3 x9_3).f2, (rd_T33 x6_3 x9_3).f3⟩ : S33)) (k33_mkM _ _ _ (⟨ji49, (rd_T33 x6_3 x9_3).f1, (rd_T33 x6_3 x9_3).f2, (rd_T33 x6_3 x9_3).f3⟩ : S33) ) (fun _ hk => hk)).1
               rw [← Ny343.out] at HP52
               have HQ52 := Aside0.mk HP52
               clear hcl52 hcc52 hfr52 hM52 HP52
               refine start_ (n := 30) (S := fun w' => w'.cell? ⟨go50, ((x9_3).toNat * 4), none⟩ = some (.int .i64 ((rd_T33 x6_3 x9_3).f0)) ∧ w'.cell? ⟨go50, ((x9_3).toNat * 4) + 1, none⟩ = some (.int .i64 ((rd_T33 x6_3 x9_3).f1)) ∧ w'.cell? ⟨go50, ((x9_3).toNat * 4) + 2, none⟩ = some (.int .i64 ((rd_T33 x6_3 x9_3).f2)) ∧ w'.cell? ⟨go50, ((x9_3).toNat * 4) + 3, none⟩ = some (.int .i64 ((rd_T33 x6_3 x9_3).f3)) ∧ w'.cell? ⟨go50, (((ji46)).toNat * 4), none⟩ = some (.int .i64 ((rd_T33 x6_3 (ji46)).f0)) ∧ w'.cell? ⟨go50, (((ji46)).toNat * 4) + 1, none⟩ = some (.int .i64 ((rd_T33 x6_3 (ji46)).f1)) ∧ w'.cell? ⟨go50, (((ji46)).toNat * 4) + 2, none⟩ = some (.int .i64 ((rd_T33 x6_3 (ji46)).f2)) ∧ w'.cell? ⟨go50, (((ji46)).toNat * 4) + 3, none⟩ = some (.int .i64 ((rd_T33 x6_3 (ji46)).f3)) ∧ w'.cell? ⟨go50, (((ji46)).toNat * 4), none⟩ = some (.int .i64 ((rd_T33 x6_3 (ji46)).f0)) ∧ w'.cell? ⟨go50, (((ji46)).toNat * 4) + 1, none⟩ = some (.int .i64 ((rd_T33 x6_3 (ji46)).f1)) ∧ w'.cell? ⟨go50, (((ji46)).toNat * 4) + 2, none⟩ = some (.int .i64 ((rd_T33 x6_3 (ji46)).f2)) ∧ w'.cell? ⟨go50, (((ji46)).toNat * 4) + 3, none⟩ = some (.int .i64 ((rd_T33 x6_3 (ji46)).f3)) ∧ w'.cell? ⟨go50, ((x9_3).toNat * 4), none⟩ = some (.int .i64 ((rd_T33 x6_3 x9_3).f0)) ∧ w'.cell? ⟨go50, ((x9_3).toNat * 4) + 1, none⟩ = some (.int .i64 ((rd_T33 x6_3 x9_3).f1)) ∧ w'.cell? ⟨go50, ((x9_3).toNat * 4) + 2, none⟩ = some (.int .i64 ((rd_T33 x6_3 x9_3).f2)) ∧ w'.cell? ⟨go50, ((x9_3).toNat * 4) + 3, none⟩ = some (.int .i64 ((rd_T33 x6_3 x9_3).f3))) (ds := [29]) #[false, false, false, false, false, false, false, false, false, false, false, false, false, false, false, false, false, false, false, false, false, false, false, false, false, false, false, false, false, false] (by kernel_rfl) rfl rfl ⟨hx339_0, hx339_1, hx339_2, hx339_3, hx340_0, hx340_1, hx340_2, hx340_3, hx341_0, hx341_1, hx341_2, hx341_3, hx342_0, hx342_1, hx342_2, hx342_3⟩ (fun hHeld => ?_); refine with_tabW impl_MoveLine.tab16 impl_MoveLine.bits16 (fun HT_ HW_ => ?_)
               generalize wr.drew = w51 at HO_6 HB GG50 HQ52 hf50_0 hf50_1 hf50_2 hf50_3 hx338_0 hx338_1 hx338_2 hx338_3 hx339_0 hx339_1 hx339_2 hx339_3 hx340_0 hx340_1 hx340_2 hx340_3 hx341_0 hx341_1 hx341_2 hx341_3 hx342_0 hx342_1 hx342_2 hx342_3 hx50_0 hx50_1 hx50_2 hx50_3 hHeld ⊢
               refine pureA 0 87 (bz 30 1) rfl rfl (any_of HT_.out (by kernel_rfl)) ?_
               refine pureA 1 88 (bz 30 3) rfl rfl (any_of HT_.out (by kernel_rfl)) ?_
               refine pureA 2 89 (bz 30 7) rfl rfl (any_of HT_.out (by kernel_rfl)) ?_
               refine pureA 3 90 (bz 30 15) rfl rfl (any_of HT_.out (by kernel_rfl)) ?_
               refine pureA 4 91 (bz 30 31) rfl rfl (any_of HT_.out (by kernel_rfl)) ?_
               refine pureA 5 92 (bz 30 63) rfl rfl (any_of HT_.out (by kernel_rfl)) ?_
               refine pureA 7 94 (bz 30 191) rfl rfl (any_of HT_.out (by kernel_rfl)) ?_
               refine pureA 8 95 (bz 30 447) rfl rfl (any_of HT_.out (by kernel_rfl)) ?_
               refine pureA 9 96 (bz 30 959) rfl rfl (any_of HT_.out (by kernel_rfl)) ?_
               refine pureA 10 97 (bz 30 1983) rfl rfl (any_of HT_.out (by kernel_rfl)) ?_
               refine pureA 11 98 (bz 30 4031) rfl rfl (any_of HT_.out (by kernel_rfl)) ?_
               refine pureA 13 100 (bz 30 12223) rfl rfl (any_of HT_.out (by kernel_rfl)) ?_
               refine pureA 14 101 (bz 30 28607) rfl rfl (any_of HT_.out (by kernel_rfl)) ?_
               refine pureA 15 102 (bz 30 61375) rfl rfl (any_of HT_.out (by kernel_rfl)) ?_
               refine pureA 16 103 (bz 30 126911) rfl rfl (any_of HT_.out (by kernel_rfl)) ?_
               refine pureA 17 104 (bz 30 257983) rfl rfl (any_of HT_.out (by kernel_rfl)) ?_
               refine pureA 20 107 (bz 30 1306559) rfl rfl (any_of HT_.out (by kernel_rfl)) ?_
               refine pureA 21 108 (bz 30 3403711) rfl rfl (any_of HT_.out (by kernel_rfl)) ?_
               refine pureA 22 109 (bz 30 7598015) rfl rfl (any_of HT_.out (by kernel_rfl)) ?_
               refine pureA 23 110 (bz 30 15986623) rfl rfl (any_of HT_.out (by kernel_rfl)) ?_
               refine takeA 6 93 (bz 30 15986687) rfl rfl (take_ofW HT_.out HW_.out (by kernel_rfl)) hHeld (by rintro w' ⟨s0, s1, s2, s3, s4, s5, s6, s7, s8, s9, s10, s11, s12, s13, s14, s15⟩; go_simp; with_reducible rfl) ?_
               refine takeA 12 99 (bz 30 15990783) rfl rfl (take_ofW HT_.out HW_.out (by kernel_rfl)) hHeld (by rintro w' ⟨s0, s1, s2, s3, s4, s5, s6, s7, s8, s9, s10, s11, s12, s13, s14, s15⟩; go_simp; with_reducible rfl) ?_
               refine takeA 18 105 (bz 30 16252927) rfl rfl (take_ofW HT_.out HW_.out (by kernel_rfl)) hHeld (by rintro w' ⟨s0, s1, s2, s3, s4, s5, s6, s7, s8, s9, s10, s11, s12, s13, s14, s15⟩; go_simp; with_reducible rfl) ?_
               refine pureA 19 106 (bz 30 16777215) rfl rfl (any_of HT_.out (by kernel_rfl)) ?_
               refine takeA 24 111 (bz 30 33554431) rfl rfl (take_ofW HT_.out HW_.out (by kernel_rfl)) hHeld (by rintro w' ⟨s0, s1, s2, s3, s4, s5, s6, s7, s8, s9, s10, s11, s12, s13, s14, s15⟩; go_simp; with_reducible rfl) ?_
               refine pureA 25 112 (bz 30 67108863) rfl rfl (any_of HT_.out (by kernel_rfl)) ?_
               refine pureA 26 113 (bz 30 134217727) rfl rfl (any_of HT_.out (by kernel_rfl)) ?_
               refine pureA 27 114 (bz 30 268435455) rfl rfl (any_of HT_.out (by kernel_rfl)) ?_
               refine pureA 28 115 (bz 30 536870911) rfl rfl (any_of HT_.out (by kernel_rfl)) ?_
               refine last_ (i := 29) (N := none) (bz 30 1073741823) rfl rfl (one_of HT_.out (by kernel_rfl)) (by decide) (fun K hK => ?_)
               refine skip_ (w1 := ?_) (by rfl) rfl ?_ ?_
               rotate_left
               ·go_simp
                rfl
               refine hK.out _ _ ?_
               clear hK K
               refine done_ (done_of HT_.out (by kernel_rfl)) ?_
               try go_wp2
               (try simp only [← hl6_3])
               go_roundg k3
               case measure => have := HJ2.out; have := HK2.out; have := HK3.out; omega
               case rel => exact ⟨(y343), (wrap64 (x9_3 - 1)), tE, H', ⟨by have := HJ2.out; have := HK2.out; have := HK3.out; omega⟩, ⟨by (try simp only [hl6_3]); (with_reducible repeat (first | apply Kd.R_alloc | apply Kd.R_drewN | apply Kd.R_drew)); exact HQ52.out⟩, ⟨by repeat (first | (with_reducible first | exact HB.out | apply below_alloc | apply pw_below_drewN | apply below_drew1 | refine below_set ?_ GB50.out) | exact HB.out)⟩⟩
              ·rw [if_neg c48] at H
               exact absurd H (by simp)
             ·rw [if_neg c47] at H
              exact absurd H (by simp)
            ·rw [if_neg c45] at H
             have c45b0 : decide (0 < ((rd_T33 x6_3 x9_3).f2)) = false := decide_eq_false c45
             clear c45
             have H' := Aside0.mk H
             clear H
             have p338 : 0 ≤ (x9_3 : Int) := of_decide_eq_true hE
             have q338 : x9_3 < (x6_3.length : Int) := of_decide_eq_true hE
             obtain ⟨ad338, e338, hx338_0, hx338_1, hx338_2, hx338_3⟩ := at_T33 (Kd.R_reads' HO_6.out).2.2 x9_3 p338 q338
             cases e338
             replace p338 := eq_true p338
             replace q338 := eq_true q338
             go_wp2
             (try simp only [← hl6_3])
             go_roundg k3
             case measure => have := HJ2.out; have := HK2.out; have := HK3.out; omega
             case rel => exact ⟨(x6_3), (wrap64 (x9_3 - 1)), tE, H', ⟨by have := HJ2.out; have := HK2.out; have := HK3.out; omega⟩, ⟨by (try simp only [hl6_3]); (with_reducible repeat (first | apply Kd.R_alloc | apply Kd.R_drewN | apply Kd.R_drew)); exact HO_6.out⟩, ⟨by repeat (first | (with_reducible first | exact HB.out | apply below_alloc | apply pw_below_drewN | apply below_drew1) | exact HB.out)⟩⟩
           ·rw [if_neg c44] at H
            exact absurd H (by simp)
          ·rw [if_neg c43] at H
           exact absurd H (by simp)
         ·rw [if_neg c42] at H
          have c42b0 : decide (0 ≤ x9_3) = false := decide_eq_false c42
          clear c42
          replace H := Option.bind_eq_some_iff.mp H
          obtain ⟨t344, A530, H⟩ := H
          replace H : (if t344 = true then (some (x6_3, true)) else (some (([] : List (S33)), false))) = some (r1, r2) := H
          have A53 := Aside0.mk A530
          clear A530
          by_cases c54 : t344 = true
          ·subst c54
           have H1 : (some (x6_3, true)) = some (r1, r2) := by rw [if_pos rfl] at H; exact H
           clear H
           have H := H1
           clear H1
           simp only [Option.some.injEq, Prod.mk.injEq] at H
           obtain ⟨rfl, rfl⟩ := H
           go_wp2_with (first | ((with_reducible refine gate_callee (f := 18) rfl ?_); refine goesL_ (some 117) rfl rfl Try.func18 (by kernel_rfl) rfl #[.slice Ao41 x6_3.length co41] rfl aE ?_; (with_reducible refine (impl_GoodLine.calls k3 _ _ x6_3 true _ ?side1 ?side2 A53.out).mono ?_); (case side1 => exact cU (Kd.R_reads' HO_6.out).2.2); (case side2 => exact (Kd.R_reads' HO_6.out).2.1); rintro e w55 ⟨rfl, hb⟩; refine ⟨_, rfl, ?_⟩; replace HO_6 := Aside0.mk (Kd.R_below (rU HO_6.out) hb); replace HB := bH (lU) hb; (try clear hb)))
           go_ret2
           exact ⟨_, eE, by (with_reducible repeat (first | apply Kd.R_alloc | apply Kd.R_drewN | apply Kd.R_drew)); exact HO_6.out, lU⟩
          ·replace c54 := Bool.eq_false_iff.mpr c54
           subst c54
           have H1 : (some (([] : List (S33)), false)) = some (r1, r2) := by rw [if_neg (show ¬ (false = true) by decide)] at H; exact H
           clear H
           have H := H1
           clear H1
           simp only [Option.some.injEq, Prod.mk.injEq] at H
           obtain ⟨rfl, rfl⟩ := H
           go_wp2_with (first | ((with_reducible refine gate_callee (f := 18) rfl ?_); refine goesL_ (some 117) rfl rfl Try.func18 (by kernel_rfl) rfl #[.slice Ao41 x6_3.length co41] rfl aE ?_; (with_reducible refine (impl_GoodLine.calls k3 _ _ x6_3 false _ ?side1 ?side2 A53.out).mono ?_); (case side1 => exact cU (Kd.R_reads' HO_6.out).2.2); (case side2 => exact (Kd.R_reads' HO_6.out).2.1); rintro e w56 ⟨rfl, hb⟩; refine ⟨_, rfl, ?_⟩; replace HO_6 := Aside0.mk (Kd.R_below (rU HO_6.out) hb); replace HB := bH (lU) hb; (try clear hb)))
           go_ret2
           exact ⟨_, eE, by first | exact Kd.R_nil _ _ _ _ _ | exact Kd.N_nil _ _ _ _ _ | exact Kd.V_nil _ _ _ _ _ | exact Kd.Q_nil _ _ _ _ _ | exact Kd.S_nil _ _ _ _ _, lU⟩
end Go.Proofs.Ytnacjhgpanedoab.PFnPushed
namespace Go.Proofs.Ytnacjhgpanedoab.PFnPushed
open Go.RowKit Go.Proofs.YtnacjhgpanedoabW.PrintWords Go.Proofs.YtnacjhgpanedoabW.PrintLast Go.Proofs.YtnacjhgpanedoabW.PrintMore
attribute [local go_sem] max2_int min2_int max_two min_two max_three min_three max_four min_four   -- for this text's walks alone
set_option linter.unusedVariables false
set_option linter.unusedSimpArgs false
mutual
def spec_l10Move.j0 : Nat → List (S33) → Int → Bool → Option ((List (S33)) × Bool)
 | 0, _, _, _ => none
 | k + 1, x0, x1, x18 => if x18 = true then (some (([] : List (S33)), false)) else ((some (([] : List (S33)) : List (S33))).bind fun y347 => (if y347.length + x0.length < 4398046511104 then ((some (y347 ++ x0 : List (S33))).bind fun y350 => (spec_l10Move.l0 k x1 y350 (y350.length : Int) 0)) else (none)))
def spec_l10Move.l0 : Nat → Int → List (S33) → Int → Int → Option ((List (S33)) × Bool)
 | 0, _, _, _, _ => none
 | k + 1, x1, x6, x23, x24 => if x24 < x23 then (if 0 ≤ x24 then (if x24 < (x6.length : Int) then (if ((rd_T33 x6 x24).f2) > 0 then (if ((rd_T33 x6 x24).f2) = 0 then (none) else ((some (x6.set (x24 : Int).toNat (⟨wrap64 (((rd_T33 x6 x24).f0) + (wrap64 (Int.tdiv (wrap64 (((rd_T33 x6 x24).f1) * x1)) ((rd_T33 x6 x24).f2)))), (rd_T33 x6 x24).f1, (rd_T33 x6 x24).f2, (rd_T33 x6 x24).f3⟩ : S33) : List (S33))).bind fun y357 => (if x24 > 0 then (if 0 ≤ (wrap64 (x24 - 1)) then (if (wrap64 (x24 - 1)) < (x6.length : Int) then (if ((rd_T33 y357 x24).f0) < (wrap64 ((wrap64 (((rd_T33 y357 (wrap64 (x24 - 1))).f0) + ((rd_T33 y357 (wrap64 (x24 - 1))).f3))) + ((rd_T33 y357 x24).f3))) then (spec_l10Move.l0 k x1 (y357.set (x24 : Int).toNat (⟨wrap64 ((wrap64 (((rd_T33 y357 (wrap64 (x24 - 1))).f0) + ((rd_T33 y357 (wrap64 (x24 - 1))).f3))) + ((rd_T33 y357 x24).f3)), (rd_T33 y357 x24).f1, (rd_T33 y357 x24).f2, (rd_T33 y357 x24).f3⟩ : S33)) x23 (wrap64 (x24 + 1))) else (spec_l10Move.l0 k x1 y357 x23 (wrap64 (x24 + 1)))) else (none)) else (none)) else (spec_l10Move.l0 k x1 y357 x23 (wrap64 (x24 + 1)))))) else (spec_l10Move.l0 k x1 x6 x23 (wrap64 (x24 + 1)))) else (none)) else (none)) else (spec_l10Move.l1 k x6 (wrap64 ((x6.length : Int) - 2)))
def spec_l10Move.l1 : Nat → List (S33) → Int → Option ((List (S33)) × Bool)
 | 0, _, _ => none
 | k + 1, x6, x9 => if x9 ≥ 0 then (if 0 ≤ (wrap64 (x9 + 1)) then (if (wrap64 (x9 + 1)) < (x6.length : Int) then (if 0 ≤ x9 then (if x9 < (x6.length : Int) then (if ((rd_T33 x6 x9).f2) > 0 then (if ((rd_T33 x6 x9).f0) > (wrap64 ((wrap64 (((rd_T33 x6 (wrap64 (x9 + 1))).f0) - ((rd_T33 x6 (wrap64 (x9 + 1))).f3))) - ((rd_T33 x6 x9).f3))) then (spec_l10Move.l1 k (x6.set (x9 : Int).toNat (⟨wrap64 ((wrap64 (((rd_T33 x6 (wrap64 (x9 + 1))).f0) - ((rd_T33 x6 (wrap64 (x9 + 1))).f3))) - ((rd_T33 x6 x9).f3)), (rd_T33 x6 x9).f1, (rd_T33 x6 x9).f2, (rd_T33 x6 x9).f3⟩ : S33)) (wrap64 (x9 - 1))) else (spec_l10Move.l1 k x6 (wrap64 (x9 - 1)))) else (spec_l10Move.l1 k x6 (wrap64 (x9 - 1)))) else (none)) else (none)) else (none)) else (none)) else ((spec_GoodLine.f k x6).bind fun t369 => (if t369 = true then (some (x6, true)) else (some (([] : List (S33)), false))))
end
def spec_l10Move.f (k : Nat) (l0 : List (S33)) (a1 : Int) : Option ((List (S33)) × Bool) := (spec_GoodLine.f k l0).bind fun t345 => (if t345 = true then ((spec_l1In.f a1 0 1000).bind fun t346 => (spec_l10Move.j0 k l0 a1 (!t346))) else (spec_l10Move.j0 k l0 a1 true))
theorem spec_l10Move.mono_l : ∀ k, (∀ y0 y1 y2, LeO (spec_l10Move.j0 k y0 y1 y2) (spec_l10Move.j0 (k + 1) y0 y1 y2)) ∧ (∀ y0 y1 y2 y3, LeO (spec_l10Move.l0 k y0 y1 y2 y3) (spec_l10Move.l0 (k + 1) y0 y1 y2 y3)) ∧ (∀ y0 y1, LeO (spec_l10Move.l1 k y0 y1) (spec_l10Move.l1 (k + 1) y0 y1))
 | 0 => ⟨fun _ _ _ r h => by simp [spec_l10Move.j0] at h, fun _ _ _ _ r h => by simp [spec_l10Move.l0] at h, fun _ _ r h => by simp [spec_l10Move.l1] at h⟩
 | k + 1 => by
  obtain ⟨ih0, ih1, ih2⟩ := spec_l10Move.mono_l k
  refine ⟨?_, ?_, ?_⟩
  ·intro y0 y1 y2
   unfold spec_l10Move.j0
   repeat' first
   | (with_reducible exact ih0 _ _ _)
   | (with_reducible exact ih1 _ _ _ _)
   | (with_reducible exact ih2 _ _)
   | (with_reducible exact spec_GoodLine.mono _ _)
   | (with_reducible first | exact LeO.refl _ | exact LeO.none _ | refine LeO.ite ?_ ?_ | refine LeO.bind ?_ (fun _ => ?_))
   | exact ih0 _ _ _
   | exact ih1 _ _ _ _
   | exact ih2 _ _
   | exact spec_GoodLine.mono _ _ | exact LeO.none _ | refine LeO.ite ?_ ?_ | refine LeO.bind ?_ (fun _ => ?_)
  ·intro y0 y1 y2 y3
   unfold spec_l10Move.l0
   repeat' first
   | (with_reducible exact ih0 _ _ _)
   | (with_reducible exact ih1 _ _ _ _)
   | (with_reducible exact ih2 _ _)
   | (with_reducible exact spec_GoodLine.mono _ _)
   | (with_reducible first | exact LeO.refl _ | exact LeO.none _ | refine LeO.ite ?_ ?_ | refine LeO.bind ?_ (fun _ => ?_))
   | exact ih0 _ _ _
   | exact ih1 _ _ _ _
   | exact ih2 _ _
   | exact spec_GoodLine.mono _ _ | exact LeO.none _ | refine LeO.ite ?_ ?_ | refine LeO.bind ?_ (fun _ => ?_)
  ·intro y0 y1
   unfold spec_l10Move.l1
   repeat' first
   | (with_reducible exact ih0 _ _ _)
   | (with_reducible exact ih1 _ _ _ _)
   | (with_reducible exact ih2 _ _)
   | (with_reducible exact spec_GoodLine.mono _ _)
   | (with_reducible first | exact LeO.refl _ | exact LeO.none _ | refine LeO.ite ?_ ?_ | refine LeO.bind ?_ (fun _ => ?_))
   | exact ih0 _ _ _
   | exact ih1 _ _ _ _
   | exact ih2 _ _
   | exact spec_GoodLine.mono _ _ | exact LeO.none _ | refine LeO.ite ?_ ?_ | refine LeO.bind ?_ (fun _ => ?_)
theorem spec_l10Move.mono : ∀ a0 a1 k, LeO (spec_l10Move.f k a0 a1) (spec_l10Move.f (k + 1) a0 a1) := by
 intro a0 a1 k
 obtain ⟨ih0, ih1, ih2⟩ := spec_l10Move.mono_l k
 unfold spec_l10Move.f
 repeat' first
   | (with_reducible exact ih0 _ _ _)
   | (with_reducible exact ih1 _ _ _ _)
   | (with_reducible exact ih2 _ _)
   | (with_reducible exact spec_GoodLine.mono _ _)
   | (with_reducible first | exact LeO.refl _ | exact LeO.none _ | refine LeO.ite ?_ ?_ | refine LeO.bind ?_ (fun _ => ?_))
   | exact ih0 _ _ _
   | exact ih1 _ _ _ _
   | exact ih2 _ _
   | exact spec_GoodLine.mono _ _ | exact LeO.none _ | refine LeO.ite ?_ ?_ | refine LeO.bind ?_ (fun _ => ?_)
def spec_l10Move.T8 : Bool × List (List Nat × List Nat) := (true, [([], []), ([], []), ([0, 1], [0, 1]), ([2], [2]), ([3], [3]), ([], []), ([], []), ([5, 6], [5, 6]), ([7], [7]), ([8], [8]), ([], []), ([9, 10], [9, 10]), ([], []), ([], []), ([12, 13], [12, 13]), ([14], [14]), ([15], [15]), ([11, 16], [11, 16]), ([4, 17], [4, 17]), ([0, 1, 0, 1, 2, 3, 4, 5, 6, 7, 8, 9, 10, 11, 12, 13, 14, 15, 16, 17, 18], [0, 1]), ([19, 0, 1, 2, 3, 4, 5, 6, 7, 8, 9, 10, 11, 12, 13, 14, 15, 16, 17, 18], [19]), ([20, 18, 0, 1, 2, 3, 4, 5, 6, 7, 8, 9, 10, 11, 12, 13, 14, 15, 16, 17, 18], [18, 20])])
def spec_l10Move.B8 : List Nat := [0, 0, 3, 7, 15, 0, 0, 96, 224, 480, 0, 2016, 0, 0, 12288, 28672, 61440, 131040, 262143, 524287, 1048575, 2097151]
theorem spec_l10Move.tab8 : rtab .any (opsOf Try.f26 8) = spec_l10Move.T8 := by kernel_rfl
theorem spec_l10Move.bits8 : waitsOk spec_l10Move.T8.2 spec_l10Move.B8 = true := by kernel_rfl
def spec_l10Move.T10 : Bool × List (List Nat × List Nat) := (true, [([], []), ([], []), ([1], [1]), ([0, 2], [0, 2]), ([3], [3]), ([4], [4]), ([], []), ([], []), ([7], [7]), ([6, 8], [6, 8]), ([9], [9]), ([10], [10]), ([5, 11], [5, 11]), ([], []), ([], []), ([13, 14], [13, 14]), ([15], [15]), ([16], [16]), ([12, 17], [12, 17]), ([18, 0, 1, 2, 3, 4, 5, 6, 7, 8, 9, 10, 11, 12, 13, 14, 15, 16, 17, 18], [18])])
def spec_l10Move.B10 : List Nat := [0, 0, 2, 7, 15, 31, 0, 0, 128, 448, 960, 1984, 4095, 0, 0, 24576, 57344, 122880, 262143, 524287]
theorem spec_l10Move.tab10 : rtab .any (opsOf Try.f26 10) = spec_l10Move.T10 := by kernel_rfl
theorem spec_l10Move.bits10 : waitsOk spec_l10Move.T10.2 spec_l10Move.B10 = true := by kernel_rfl
def spec_l10Move.T17 : Bool × List (List Nat × List Nat) := (true, [([], []), ([], []), ([1], [1]), ([0, 2], [0, 2]), ([3], [3]), ([4], [4]), ([], []), ([], []), ([7], [7]), ([6, 8], [6, 8]), ([9], [9]), ([10], [10]), ([5, 11], [5, 11]), ([], []), ([], []), ([13, 14], [13, 14]), ([15], [15]), ([16], [16]), ([12, 17], [12, 17]), ([18, 0, 1, 2, 3, 4, 5, 6, 7, 8, 9, 10, 11, 12, 13, 14, 15, 16, 17, 18], [18])])
def spec_l10Move.B17 : List Nat := [0, 0, 2, 7, 15, 31, 0, 0, 128, 448, 960, 1984, 4095, 0, 0, 24576, 57344, 122880, 262143, 524287]
theorem spec_l10Move.tab17 : rtab .any (opsOf Try.f26 17) = spec_l10Move.T17 := by kernel_rfl
theorem spec_l10Move.bits17 : waitsOk spec_l10Move.T17.2 spec_l10Move.B17 = true := by kernel_rfl
set_option maxHeartbeats 8000000 in
set_option maxRecDepth 100000 in
theorem spec_l10Move.calls (k : Nat) (A0 : Option Addr) (c0 : Nat) (l0 : List (S33)) (a1 : Int) (r1 : List (S33)) (r2 : Bool) (w : World) (hr0 : Kd.C k33 w A0 l0.length l0) (hc0 : l0.length ≤ c0) (h : spec_l10Move.f k l0 a1 = some (r1, r2)) :
  Calls Try.prog 26 #[.slice A0 l0.length c0, .int .i64 a1] w fun e w' => ∃ v0_ : Value, e = .returned (.tuple #[v0_, .bool r2]) ∧ Kd.R k33 33 w' w.heap.size (fun _ => True) v0_ r1 ∧ Below w.heap.size w w' := by
 have HR0 := Aside0.mk hr0
 have HC0 := Aside0.mk hc0
 clear hr0 hc0
 have HB := Aside0.mk (Below.refl w.heap.size w)
 have H : ((spec_GoodLine.f k l0).bind fun t345 => (if t345 = true then ((spec_l1In.f a1 0 1000).bind fun t346 => (spec_l10Move.j0 k l0 a1 (!t346))) else (spec_l10Move.j0 k l0 a1 true))) = some (r1, r2) := h
 clear h
 have HC3 := Aside0.mk H
 clear H
 go_enter Try.func26, Try.ntmps26
 go_upto_region 1 with (fail)
 go_cut [18] (fun v18 wc => ∃ (kq : Nat) (x18_2 : Bool), v18 = .bool x18_2 ∧ Aside0 (spec_l10Move.j0 kq l0 a1 x18_2 = some (r1, r2)) ∧ Aside0 (kq ≤ k) ∧ Aside0 (Below w.heap.size w wc))
 case first =>
  have H := HC3.out
  clear HC3
  replace H := Option.bind_eq_some_iff.mp H
  obtain ⟨t345, A40, H⟩ := H
  replace H : (if t345 = true then ((spec_l1In.f a1 0 1000).bind fun t346 => (spec_l10Move.j0 k l0 a1 (!t346))) else (spec_l10Move.j0 k l0 a1 true)) = some (r1, r2) := H
  have A4 := Aside0.mk A40
  clear A40
  by_cases c5 : t345 = true
  ·subst c5
   have H1 : ((spec_l1In.f a1 0 1000).bind fun t346 => (spec_l10Move.j0 k l0 a1 (!t346))) = some (r1, r2) := by rw [if_pos rfl] at H; exact H
   clear H
   have H := H1
   clear H1
   replace H := Option.bind_eq_some_iff.mp H
   obtain ⟨t346, A60, H⟩ := H
   replace H : (spec_l10Move.j0 k l0 a1 (!t346)) = some (r1, r2) := H
   have A6 := Aside0.mk A60
   clear A60
   have H' := Aside0.mk H
   clear H
   go_wp2_with (first | ((with_reducible refine gate_callee (f := 32) rfl ?_); refine goesL_ (some 12) rfl rfl Try.func32 (by kernel_rfl) rfl #[.slice A0 l0.length c0] rfl aE ?_; (with_reducible refine (spec_GoodLine.calls k _ _ l0 true _ ?side1 ?side2 A4.out).mono ?_); (case side1 => exact cU (Kd.C_below HR0.out HB.out)); (case side2 => exact HC0.out); rintro e w7 ⟨rfl, hb⟩; refine ⟨_, rfl, ?_⟩; replace HB := bH (lU) hb; (try clear hb)) | (go_at_call 34; (with_reducible refine (spec_l1In.calls a1 0 1000 t346 _ A6.out).mono ?_); rintro e w' ⟨rfl, ⟨nd, rfl⟩⟩))
   go_meet
   case rel => exact ⟨_, (!t346), tE, H', ⟨by first | omega | exact Nat.le_refl _⟩, ⟨by repeat (first | (with_reducible first | exact HB.out | apply below_alloc | apply pw_below_drewN | apply below_drew1) | exact HB.out)⟩⟩
  ·replace c5 := Bool.eq_false_iff.mpr c5
   subst c5
   have H1 : (spec_l10Move.j0 k l0 a1 true) = some (r1, r2) := by rw [if_neg (show ¬ (false = true) by decide)] at H; exact H
   clear H
   have H := H1
   clear H1
   have H' := Aside0.mk H
   clear H
   go_wp2_with (first | ((with_reducible refine gate_callee (f := 32) rfl ?_); refine goesL_ (some 12) rfl rfl Try.func32 (by kernel_rfl) rfl #[.slice A0 l0.length c0] rfl aE ?_; (with_reducible refine (spec_GoodLine.calls k _ _ l0 false _ ?side1 ?side2 A4.out).mono ?_); (case side1 => exact cU (Kd.C_below HR0.out HB.out)); (case side2 => exact HC0.out); rintro e w8 ⟨rfl, hb⟩; refine ⟨_, rfl, ?_⟩; replace HB := bH (lU) hb; (try clear hb)))
   go_meet
   case rel => exact ⟨_, (true), tE, H', ⟨by first | omega | exact Nat.le_refl _⟩, ⟨by repeat (first | (with_reducible first | exact HB.out | apply below_alloc | apply pw_below_drewN | apply below_drew1) | exact HB.out)⟩⟩
 case rest =>
  clear HC3
  obtain ⟨kq, x18_2, rfl, HA, HJ2, HB⟩ := hcut
  cases kq with
  | zero => exact absurd HA.out (by simp [spec_l10Move.j0])
  | succ kj2 =>
   have H := HA.out
   clear HA
   simp only [spec_l10Move.j0] at H
   by_cases c9 : x18_2 = true
   ·subst c9
    have H1 : (some (([] : List (S33)), false)) = some (r1, r2) := by rw [if_pos rfl] at H; exact H
    clear H
    have H := H1
    clear H1
    simp only [Option.some.injEq, Prod.mk.injEq] at H
    obtain ⟨rfl, rfl⟩ := H
    go_wp2
    go_ret2
    exact ⟨_, eE, by first | exact Kd.R_nil _ _ _ _ _ | exact Kd.N_nil _ _ _ _ _ | exact Kd.V_nil _ _ _ _ _ | exact Kd.Q_nil _ _ _ _ _ | exact Kd.S_nil _ _ _ _ _, lU⟩
   ·replace c9 := Bool.eq_false_iff.mpr c9
    subst c9
    have H1 : ((some (([] : List (S33)) : List (S33))).bind fun y347 => (if y347.length + l0.length < 4398046511104 then ((some (y347 ++ l0 : List (S33))).bind fun y350 => (spec_l10Move.l0 kj2 a1 y350 (y350.length : Int) 0)) else (none))) = some (r1, r2) := by rw [if_neg (show ¬ (false = true) by decide)] at H; exact H
    clear H
    have H := H1
    clear H1
    obtain ⟨y347, hy347⟩ : ∃ y_ : List (S33), y_ = (([] : List (S33))) := ⟨_, rfl⟩
    replace H : (if y347.length + l0.length < 4398046511104 then ((some (y347 ++ l0 : List (S33))).bind fun y350 => (spec_l10Move.l0 kj2 a1 y350 (y350.length : Int) 0)) else (none)) = some (r1, r2) := by first | (rw [hy347]; with_reducible exact H) | (have H2_ := (Option.bind_some _ _).symm.trans H; rw [hy347]; with_reducible exact H2_) | (have H2_ := (Option.bind_some _ _).symm.trans H; with_reducible exact H2_) | with_reducible exact H | (rw [hy347]; exact H) | exact H
    have Ny347 := Aside0.mk hy347
    clear hy347
    by_cases c10 : y347.length + l0.length < 4398046511104
    ·rw [if_pos c10] at H
     have LMc10 := Aside0.mk c10
     clear c10
     obtain ⟨y350, hy350⟩ : ∃ y_ : List (S33), y_ = (y347 ++ l0) := ⟨_, rfl⟩
     replace H : (spec_l10Move.l0 kj2 a1 y350 (y350.length : Int) 0) = some (r1, r2) := by first | (rw [hy350]; with_reducible exact H) | (have H2_ := (Option.bind_some _ _).symm.trans H; rw [hy350]; with_reducible exact H2_) | (have H2_ := (Option.bind_some _ _).symm.trans H; with_reducible exact H2_) | with_reducible exact H | (rw [hy350]; exact H) | exact H
     have Ny350 := Aside0.mk hy350
     clear hy350
     have H' := Aside0.mk H
     clear H
     go_wp2_with (first | ((with_reducible refine gate_dst (N := 19) rfl ?_); refine Kd.R_lit k33 _ 33 ?hg (N := 19) ?hd (xs := ([] : List (S33))) (inner := []) (ok := fun _ => True) (okp := fun _ => True) ?hr ?hp (fun _ hk => hk) trivial (Below.refl _ _) (Nat.le_refl _) (by simp) ?_; (case hd => rfl); (case hg => rfl); (case hr => exact sE); (case hp => exact (Reps.none _ _)); intro v348 w11 ho12 hb hg_ hnew_; clear hg_ hnew_; (first | rw [← Ny347.out] at ho12 | (simp only [Int.reduceToNat] at ho12; rw [← Ny347.out] at ho12)); have HO349 := Aside0.mk (Kd.R_lower ho12 (below_size (lU))); replace HB := bH (lU) hb; clear hb ho12) | ((with_reducible refine gate_builtin (b := .append) (xs := #[.tmp 19, .tmp 20]) rfl ?_); at_builtin; refine Kd.R_append_rows k33 (w0 := w) w.heap.size rfl (.tmp 19) (.tmp 20) 23 33 (.agg #[(.int .i64 0), (.int .i64 0), (.int .i64 0), (.int .i64 0)]) 32 rfl Try.underlying23 info33 rfl (by decide) (by omega) v348 y347 l0 _ _ _ (fun _ => True) (fun _ => False) rfl rfl ?aO ?aR (fun _ _ h => h) (fun _ h => h.elim) ?aF ?aB ?aS ?aL ?_; (case aR => repeat (first | exact (Kd.C_below HR0.out HB.out) | exact (Kd.C_drewN (Kd.C_below HR0.out HB.out) _) | exact (Kd.C_drew (Kd.C_below HR0.out HB.out)) | exact (Kd.C_alloc (Kd.C_below HR0.out HB.out) _) | (with_reducible refine Kd.C_alloc ?_ _) | (with_reducible refine Kd.C_drewN ?_ _) | (with_reducible refine Kd.C_drew ?_))); (case aB => exact (lU)); (case aF => exact (fun _ _ => trivial)); (case aO => exact (rU HO349.out)); (case aS => exact (below_size (lU))); (case aL => have := LMc10.out; omega); intro v351 w13 ho hb hg hat; rw [← Ny350.out] at ho; replace HB := Aside0.mk hb; have HO352 := Aside0.mk ho; clear HO349; clear ho hb hg hat; obtain ⟨Ao14, co14, eo14⟩ := Kd.R_slice HO352.out; subst eo14))
     (try simp only [Act.put, List.setIfInBounds_toArray, List.set_cons_zero, List.set_cons_succ])
     go_loopg [24] kj2 (fun kq v24 w' => ∃ (x6_2 : List (S33)) (x24_2 : Int), v24 = .int .i64 x24_2 ∧ Aside0 (spec_l10Move.l0 kq a1 x6_2 (y350.length : Int) x24_2 = some (r1, r2)) ∧ Aside0 (kq ≤ kj2) ∧ Aside0 (Kd.R k33 33 w' w.heap.size (fun _ => True) (.slice Ao14 y350.length co14) x6_2) ∧ Aside0 (Below w.heap.size w w'))
     case atStart => exact ⟨(y350), (0), tE, H', ⟨Nat.le_refl _⟩, ⟨by (with_reducible repeat (first | apply Kd.R_alloc | apply Kd.R_drewN | apply Kd.R_drew)); exact HO352.out⟩, ⟨by repeat (first | (with_reducible first | exact HB.out | apply below_alloc | apply pw_below_drewN | apply below_drew1) | exact HB.out)⟩⟩
     case round =>
      clear H'
      try clear c9; try clear c10
      obtain ⟨x6_2, x24_2, rfl, HA, HK2, HO_6, HB⟩ := hrel
      have hl6_2 := (Kd.R_reads' HO_6.out).1
      rw [hl6_2] at HO_6
      (try simp only [hl6_2])
      cases gk with
      | zero => exact absurd HA.out (by simp [spec_l10Move.l0])
      | succ k2 =>
       have H := HA.out
       clear HA
       simp only [spec_l10Move.l0] at H
       by_cases c15 : x24_2 < (y350.length : Int)
       ·rw [if_pos c15] at H
        have c15b0 : decide (x24_2 < (y350.length : Int)) = true := decide_eq_true c15
        try have c15b0hl6_2 : decide (x24_2 < (x6_2.length : Int)) = true := by rw [← hl6_2]; exact c15b0
        clear c15
        by_cases c16 : 0 ≤ x24_2
        ·rw [if_pos c16] at H
         have c16b0 : decide (0 ≤ x24_2) = true := decide_eq_true c16
         clear c16
         by_cases c17 : x24_2 < (x6_2.length : Int)
         ·rw [if_pos c17] at H
          have c17b0 : decide (x24_2 < (x6_2.length : Int)) = true := decide_eq_true c17
          clear c17
          by_cases c18 : ((rd_T33 x6_2 x24_2).f2) > 0
          ·rw [if_pos c18] at H
           have c18b0 : decide (0 < ((rd_T33 x6_2 x24_2).f2)) = true := decide_eq_true c18
           clear c18
           by_cases c19 : ((rd_T33 x6_2 x24_2).f2) = 0
           ·rw [if_pos c19] at H
            exact absurd H (by simp)
           ·rw [if_neg c19] at H
            have c19b0 : (((rd_T33 x6_2 x24_2).f2) == 0) = false := beq_eq_false_iff_ne.mpr c19
            have c19b1 : (((rd_T33 x6_2 x24_2).f2) != 0) = true := bne_iff_ne.mpr c19
            obtain ⟨y357, hy357⟩ : ∃ y_ : List (S33), y_ = (x6_2.set (x24_2 : Int).toNat (⟨wrap64 (((rd_T33 x6_2 x24_2).f0) + (wrap64 (Int.tdiv (wrap64 (((rd_T33 x6_2 x24_2).f1) * a1)) ((rd_T33 x6_2 x24_2).f2)))), (rd_T33 x6_2 x24_2).f1, (rd_T33 x6_2 x24_2).f2, (rd_T33 x6_2 x24_2).f3⟩ : S33)) := ⟨_, rfl⟩
            replace H : (if x24_2 > 0 then (if 0 ≤ (wrap64 (x24_2 - 1)) then (if (wrap64 (x24_2 - 1)) < (x6_2.length : Int) then (if ((rd_T33 y357 x24_2).f0) < (wrap64 ((wrap64 (((rd_T33 y357 (wrap64 (x24_2 - 1))).f0) + ((rd_T33 y357 (wrap64 (x24_2 - 1))).f3))) + ((rd_T33 y357 x24_2).f3))) then (spec_l10Move.l0 k2 a1 (y357.set (x24_2 : Int).toNat (⟨wrap64 ((wrap64 (((rd_T33 y357 (wrap64 (x24_2 - 1))).f0) + ((rd_T33 y357 (wrap64 (x24_2 - 1))).f3))) + ((rd_T33 y357 x24_2).f3)), (rd_T33 y357 x24_2).f1, (rd_T33 y357 x24_2).f2, (rd_T33 y357 x24_2).f3⟩ : S33)) (y350.length : Int) (wrap64 (x24_2 + 1))) else (spec_l10Move.l0 k2 a1 y357 (y350.length : Int) (wrap64 (x24_2 + 1)))) else (none)) else (none)) else (spec_l10Move.l0 k2 a1 y357 (y350.length : Int) (wrap64 (x24_2 + 1)))) = some (r1, r2) := by first | (rw [hy357]; with_reducible exact H) | (have H2_ := (Option.bind_some _ _).symm.trans H; rw [hy357]; with_reducible exact H2_) | (have H2_ := (Option.bind_some _ _).symm.trans H; with_reducible exact H2_) | with_reducible exact H | (rw [hy357]; exact H) | exact H
            have Ny357 := Aside0.mk hy357
            clear hy357
            by_cases c21 : x24_2 > 0
            ·rw [if_pos c21] at H
             have c21b0 : decide (0 < x24_2) = true := decide_eq_true c21
             clear c21
             obtain ⟨ji22, hji22⟩ : ∃ j_ : Int, (wrap64 (x24_2 - 1)) = j_ := ⟨_, rfl⟩
             replace H : (if 0 ≤ (ji22) then (if (ji22) < (x6_2.length : Int) then (if ((rd_T33 y357 x24_2).f0) < (wrap64 ((wrap64 (((rd_T33 y357 (ji22)).f0) + ((rd_T33 y357 (ji22)).f3))) + ((rd_T33 y357 x24_2).f3))) then (spec_l10Move.l0 k2 a1 (y357.set (x24_2 : Int).toNat (⟨wrap64 ((wrap64 (((rd_T33 y357 (ji22)).f0) + ((rd_T33 y357 (ji22)).f3))) + ((rd_T33 y357 x24_2).f3)), (rd_T33 y357 x24_2).f1, (rd_T33 y357 x24_2).f2, (rd_T33 y357 x24_2).f3⟩ : S33)) (y350.length : Int) (wrap64 (x24_2 + 1))) else (spec_l10Move.l0 k2 a1 y357 (y350.length : Int) (wrap64 (x24_2 + 1)))) else (none)) else (none)) = some (r1, r2) := by first | (rw [hji22] at H; exact H) | (simp only [hji22] at H ⊢; exact H)
             have hji22w : (IntKind.i64.wrap (x24_2 - 1)) = ji22 := (i64_w _).trans hji22
             by_cases c23 : 0 ≤ (ji22)
             ·rw [if_pos c23] at H
              have c23b0 : decide (0 ≤ (ji22)) = true := decide_eq_true c23
              clear c23
              by_cases c24 : (ji22) < (x6_2.length : Int)
              ·rw [if_pos c24] at H
               have c24b0 : decide ((ji22) < (x6_2.length : Int)) = true := decide_eq_true c24
               clear c24
               by_cases c25 : ((rd_T33 y357 x24_2).f0) < (wrap64 ((wrap64 (((rd_T33 y357 (ji22)).f0) + ((rd_T33 y357 (ji22)).f3))) + ((rd_T33 y357 x24_2).f3)))
               ·rw [if_pos c25] at H
                have c25b0 : decide (((rd_T33 y357 x24_2).f0) < (wrap64 ((wrap64 (((rd_T33 y357 (ji22)).f0) + ((rd_T33 y357 (ji22)).f3))) + ((rd_T33 y357 x24_2).f3)))) = true := decide_eq_true c25
                clear c25
                obtain ⟨y362, hy362⟩ : ∃ y_ : List (S33), y_ = (y357.set (x24_2 : Int).toNat (⟨wrap64 ((wrap64 (((rd_T33 y357 (ji22)).f0) + ((rd_T33 y357 (ji22)).f3))) + ((rd_T33 y357 x24_2).f3)), (rd_T33 y357 x24_2).f1, (rd_T33 y357 x24_2).f2, (rd_T33 y357 x24_2).f3⟩ : S33)) := ⟨_, rfl⟩
                replace H : (spec_l10Move.l0 k2 a1 y362 (y350.length : Int) (wrap64 (x24_2 + 1))) = some (r1, r2) := by first | (rw [hy362]; with_reducible exact H) | (have H2_ := (Option.bind_some _ _).symm.trans H; rw [hy362]; with_reducible exact H2_) | (have H2_ := (Option.bind_some _ _).symm.trans H; with_reducible exact H2_) | with_reducible exact H | (rw [hy362]; exact H) | exact H
                have Ny362 := Aside0.mk hy362
                clear hy362
                have H' := Aside0.mk H
                clear H
                have p353 : 0 ≤ (x24_2 : Int) := of_decide_eq_true hE
                have q353 : x24_2 < (x6_2.length : Int) := of_decide_eq_true hE
                obtain ⟨ad353, e353, hx353_0, hx353_1, hx353_2, hx353_3⟩ := at_T33 (Kd.R_reads' HO_6.out).2.2 x24_2 p353 q353
                cases e353
                replace p353 := eq_true p353
                replace q353 := eq_true q353
                try go_wp2
                replace HO_6 := Aside0.mk (Kd.R_drew HO_6.out)
                replace HB := Aside0.mk (below_drew1 HB.out)
                have p354 : 0 ≤ (x24_2 : Int) := of_decide_eq_true hE
                have q354 : x24_2 < (x6_2.length : Int) := of_decide_eq_true hE
                obtain ⟨ad354, e354, hx354_0, hx354_1, hx354_2, hx354_3⟩ := at_T33 (Kd.R_reads' HO_6.out).2.2 x24_2 p354 q354
                obtain rfl : ad353 = ad354 := (by injection e354)
                replace p354 := eq_true p354
                replace q354 := eq_true q354
                have p355 : 0 ≤ (x24_2 : Int) := of_decide_eq_true hE
                have q355 : x24_2 < (x6_2.length : Int) := of_decide_eq_true hE
                obtain ⟨ad355, e355, hx355_0, hx355_1, hx355_2, hx355_3⟩ := at_T33 (Kd.R_reads' HO_6.out).2.2 x24_2 p355 q355
                obtain rfl : ad353 = ad355 := (by injection e355)
                replace p355 := eq_true p355
                replace q355 := eq_true q355
                have p356 : 0 ≤ (x24_2 : Int) := of_decide_eq_true hE
                have q356 : x24_2 < (x6_2.length : Int) := of_decide_eq_true hE
                obtain ⟨ad356, e356, hx356_0, hx356_1, hx356_2, hx356_3⟩ := at_T33 (Kd.R_reads' HO_6.out).2.2 x24_2 p356 q356
                obtain rfl : ad353 = ad356 := (by injection e356)
                replace p356 := eq_true p356
                replace q356 := eq_true q356
                have p20 : 0 ≤ (x24_2 : Int) := of_decide_eq_true hE
                have q20 : (x24_2 : Int) < ((x6_2.length : Int) : Int) := of_decide_eq_true hE
                obtain ⟨go20, co20, eo20, gb20, gl20, cl20, HG20⟩ := Kd.R_form HO_6.out (by omega)
                (first | cases eo20 | (injection eo20 with ea_ en_ ec_; (first | subst ea_ | (injection ea_ with ea_; subst ea_)); subst ec_; clear en_))
                have GB20 := Aside0.mk gb20
                have GG20 := Aside0.mk HG20
                clear gb20 gl20 HG20
                (first | simp only [add_plain] at hx353_0 | skip)
                (first | simp only [add_plain] at hx353_1 | skip)
                (first | simp only [add_plain] at hx353_2 | skip)
                (first | simp only [add_plain] at hx353_3 | skip)
                (first | simp only [add_plain] at hx354_0 | skip)
                (first | simp only [add_plain] at hx354_1 | skip)
                (first | simp only [add_plain] at hx354_2 | skip)
                (first | simp only [add_plain] at hx354_3 | skip)
                (first | simp only [add_plain] at hx355_0 | skip)
                (first | simp only [add_plain] at hx355_1 | skip)
                (first | simp only [add_plain] at hx355_2 | skip)
                (first | simp only [add_plain] at hx355_3 | skip)
                (first | simp only [add_plain] at hx356_0 | skip)
                (first | simp only [add_plain] at hx356_1 | skip)
                (first | simp only [add_plain] at hx356_2 | skip)
                (first | simp only [add_plain] at hx356_3 | skip)
                obtain ⟨ce20, hcl20, hM20, hcc20, hfr20⟩ := Kd.R_elem HO_6.out z33 (x24_2 : Int) p20 q20
                obtain rfl := k33_openM hM20
                have hx20_0 : World.cell? _ ⟨go20, (x24_2 : Int).toNat * 4, none⟩ = some (.int .i64 ((rd_T33 x6_2 x24_2).f0)) := hcc20 0 _ rfl
                have hx20_1 : World.cell? _ ⟨go20, (x24_2 : Int).toNat * 4 + 1, none⟩ = some (.int .i64 ((rd_T33 x6_2 x24_2).f1)) := hcc20 1 _ rfl
                have hx20_2 : World.cell? _ ⟨go20, (x24_2 : Int).toNat * 4 + 2, none⟩ = some (.int .i64 ((rd_T33 x6_2 x24_2).f2)) := hcc20 2 _ rfl
                have hx20_3 : World.cell? _ ⟨go20, (x24_2 : Int).toNat * 4 + 3, none⟩ = some (.int .i64 ((rd_T33 x6_2 x24_2).f3)) := hcc20 3 _ rfl
                have hf20_0 : World.frozen? _ ⟨go20, (x24_2 : Int).toNat * 4, none⟩ = false := hfr20 0
                have hf20_1 : World.frozen? _ ⟨go20, (x24_2 : Int).toNat * 4 + 1, none⟩ = false := hfr20 1
                have hf20_2 : World.frozen? _ ⟨go20, (x24_2 : Int).toNat * 4 + 2, none⟩ = false := hfr20 2
                have hf20_3 : World.frozen? _ ⟨go20, (x24_2 : Int).toNat * 4 + 3, none⟩ = false := hfr20 3
                (try clear hcl20)
                (try clear hcc20)
                (try clear hfr20)
                (try clear hM20)
                replace p20 := eq_true p20
                replace q20 := eq_true q20
                obtain ⟨ce28, hcl28, hM28, hcc28, hfr28⟩ := Kd.R_elem HO_6.out z33 (x24_2 : Int) (of_decide_eq_true hE) (by have h_ : (x24_2 : Int) < ((x6_2.length : Int) : Int) := of_decide_eq_true hE; first | exact h_ | (have e_ := (Kd.R_reads' HO_6.out).1; omega) | simpa using h_)
                obtain rfl := k33_openM hM28
                have HP28 := (Kd.R_seg HO_6.out (x24_2 : Int) (of_decide_eq_true hE) (by have h_ : (x24_2 : Int) < ((x6_2.length : Int) : Int) := of_decide_eq_true hE; first | exact h_ | (have e_ := (Kd.R_reads' HO_6.out).1; omega) | simpa using h_) (seg := [.int .i64 (wrap64 (((rd_T33 x6_2 x24_2).f0) + (wrap64 (Int.tdiv (wrap64 (((rd_T33 x6_2 x24_2).f1) * a1)) ((rd_T33 x6_2 x24_2).f2)))))]) (j := 0) hcl28 hcc28 (show 1 ≤ 4 from by decide) (x' := (⟨wrap64 (((rd_T33 x6_2 x24_2).f0) + (wrap64 (Int.tdiv (wrap64 (((rd_T33 x6_2 x24_2).f1) * a1)) ((rd_T33 x6_2 x24_2).f2)))), (rd_T33 x6_2 x24_2).f1, (rd_T33 x6_2 x24_2).f2, (rd_T33 x6_2 x24_2).f3⟩ : S33)) (k33_mkM _ _ _ (⟨wrap64 (((rd_T33 x6_2 x24_2).f0) + (wrap64 (Int.tdiv (wrap64 (((rd_T33 x6_2 x24_2).f1) * a1)) ((rd_T33 x6_2 x24_2).f2)))), (rd_T33 x6_2 x24_2).f1, (rd_T33 x6_2 x24_2).f2, (rd_T33 x6_2 x24_2).f3⟩ : S33) ) (fun _ hk => hk)).1
                rw [← Ny357.out] at HP28
                have HQ28 := Aside0.mk HP28
                clear hcl28 hcc28 hfr28 hM28 HP28
                refine start_ (n := 22) (S := fun w' => w'.cell? ⟨go20, ((x24_2).toNat * 4), none⟩ = some (.int .i64 ((rd_T33 x6_2 x24_2).f0)) ∧ w'.cell? ⟨go20, ((x24_2).toNat * 4) + 1, none⟩ = some (.int .i64 ((rd_T33 x6_2 x24_2).f1)) ∧ w'.cell? ⟨go20, ((x24_2).toNat * 4) + 2, none⟩ = some (.int .i64 ((rd_T33 x6_2 x24_2).f2)) ∧ w'.cell? ⟨go20, ((x24_2).toNat * 4) + 3, none⟩ = some (.int .i64 ((rd_T33 x6_2 x24_2).f3)) ∧ w'.cell? ⟨go20, ((x24_2).toNat * 4), none⟩ = some (.int .i64 ((rd_T33 x6_2 x24_2).f0)) ∧ w'.cell? ⟨go20, ((x24_2).toNat * 4) + 1, none⟩ = some (.int .i64 ((rd_T33 x6_2 x24_2).f1)) ∧ w'.cell? ⟨go20, ((x24_2).toNat * 4) + 2, none⟩ = some (.int .i64 ((rd_T33 x6_2 x24_2).f2)) ∧ w'.cell? ⟨go20, ((x24_2).toNat * 4) + 3, none⟩ = some (.int .i64 ((rd_T33 x6_2 x24_2).f3)) ∧ w'.cell? ⟨go20, ((x24_2).toNat * 4), none⟩ = some (.int .i64 ((rd_T33 x6_2 x24_2).f0)) ∧ w'.cell? ⟨go20, ((x24_2).toNat * 4) + 1, none⟩ = some (.int .i64 ((rd_T33 x6_2 x24_2).f1)) ∧ w'.cell? ⟨go20, ((x24_2).toNat * 4) + 2, none⟩ = some (.int .i64 ((rd_T33 x6_2 x24_2).f2)) ∧ w'.cell? ⟨go20, ((x24_2).toNat * 4) + 3, none⟩ = some (.int .i64 ((rd_T33 x6_2 x24_2).f3))) (ds := [21]) #[false, false, false, false, false, false, false, false, false, false, false, false, false, false, false, false, false, false, false, false, false, false] (by kernel_rfl) rfl rfl ⟨hx354_0, hx354_1, hx354_2, hx354_3, hx355_0, hx355_1, hx355_2, hx355_3, hx356_0, hx356_1, hx356_2, hx356_3⟩ (fun hHeld => ?_); refine with_tabW spec_l10Move.tab8 spec_l10Move.bits8 (fun HT_ HW_ => ?_)
                generalize wr.drew = w27 at HO_6 HB GG20 HQ28 hf20_0 hf20_1 hf20_2 hf20_3 hx20_0 hx20_1 hx20_2 hx20_3 hx353_0 hx353_1 hx353_2 hx353_3 hx354_0 hx354_1 hx354_2 hx354_3 hx355_0 hx355_1 hx355_2 hx355_3 hx356_0 hx356_1 hx356_2 hx356_3 hHeld ⊢
                refine pureA 0 33 (bz 22 1) rfl rfl (any_of HT_.out (by kernel_rfl)) ?_
                refine pureA 1 34 (bz 22 3) rfl rfl (any_of HT_.out (by kernel_rfl)) ?_
                refine pureA 2 35 (bz 22 7) rfl rfl (any_of HT_.out (by kernel_rfl)) ?_
                refine pureA 3 36 (bz 22 15) rfl rfl (any_of HT_.out (by kernel_rfl)) ?_
                refine pureA 5 38 (bz 22 47) rfl rfl (any_of HT_.out (by kernel_rfl)) ?_
                refine pureA 6 39 (bz 22 111) rfl rfl (any_of HT_.out (by kernel_rfl)) ?_
                refine pureA 7 40 (bz 22 239) rfl rfl (any_of HT_.out (by kernel_rfl)) ?_
                refine pureA 8 41 (bz 22 495) rfl rfl (any_of HT_.out (by kernel_rfl)) ?_
                refine pureA 10 43 (bz 22 1519) rfl rfl (any_of HT_.out (by kernel_rfl)) ?_
                refine pureA 12 45 (bz 22 5615) rfl rfl (any_of HT_.out (by kernel_rfl)) ?_
                refine pureA 13 46 (bz 22 13807) rfl rfl (any_of HT_.out (by kernel_rfl)) ?_
                refine pureA 14 47 (bz 22 30191) rfl rfl (any_of HT_.out (by kernel_rfl)) ?_
                refine pureA 15 48 (bz 22 62959) rfl rfl (any_of HT_.out (by kernel_rfl)) ?_
                refine takeA 4 37 (bz 22 62975) rfl rfl (take_ofW HT_.out HW_.out (by kernel_rfl)) hHeld (by rintro w' ⟨s0, s1, s2, s3, s4, s5, s6, s7, s8, s9, s10, s11⟩; go_simp; with_reducible rfl) ?_
                refine takeA 9 42 (bz 22 63487) rfl rfl (take_ofW HT_.out HW_.out (by kernel_rfl)) hHeld (by rintro w' ⟨s0, s1, s2, s3, s4, s5, s6, s7, s8, s9, s10, s11⟩; go_simp; with_reducible rfl) ?_
                refine pureA 11 44 (bz 22 65535) rfl rfl (any_of HT_.out (by kernel_rfl)) ?_
                refine takeA 16 49 (bz 22 131071) rfl rfl (take_ofW HT_.out HW_.out (by kernel_rfl)) hHeld (by rintro w' ⟨s0, s1, s2, s3, s4, s5, s6, s7, s8, s9, s10, s11⟩; go_simp; with_reducible rfl) ?_
                refine pureA 17 50 (bz 22 262143) rfl rfl (any_of HT_.out (by kernel_rfl)) ?_
                refine pureA 18 51 (bz 22 524287) rfl rfl (any_of HT_.out (by kernel_rfl)) ?_
                refine pureA 19 52 (bz 22 1048575) rfl rfl (any_of HT_.out (by kernel_rfl)) ?_
                refine pureA 20 53 (bz 22 2097151) rfl rfl (any_of HT_.out (by kernel_rfl)) ?_
                refine last_ (i := 21) (N := none) (bz 22 4194303) rfl rfl (one_of HT_.out (by kernel_rfl)) (by decide) (fun K hK => ?_)
                refine skip_ (w1 := ?_) (by rfl) rfl ?_ ?_
                rotate_left
                ·go_simp
                 rfl
                refine hK.out _ _ ?_
                clear hK K
                refine done_ (done_of HT_.out (by kernel_rfl)) ?_
                try go_wp2
                have n0_ : Aside0 (Kd.R k33 33 (w27.setCell ⟨go20, (x24_2 : Int).toNat * 4, none⟩ (.int .i64 (wrap64 (((rd_T33 x6_2 x24_2).f0) + (wrap64 (Int.tdiv (wrap64 (((rd_T33 x6_2 x24_2).f1) * a1)) ((rd_T33 x6_2 x24_2).f2))))))) w.heap.size (fun _ => True) (.slice (some ⟨go20, 0, none⟩) x6_2.length co14) y357) := ⟨by (with_reducible repeat (first | apply Kd.R_alloc | apply Kd.R_drewN | apply Kd.R_drew)); exact HQ28.out⟩
                have n1_ : Aside0 (Below w.heap.size w (w27.setCell ⟨go20, (x24_2 : Int).toNat * 4, none⟩ (.int .i64 (wrap64 (((rd_T33 x6_2 x24_2).f0) + (wrap64 (Int.tdiv (wrap64 (((rd_T33 x6_2 x24_2).f1) * a1)) ((rd_T33 x6_2 x24_2).f2)))))))) := ⟨by repeat (first | (with_reducible first | exact HB.out | apply below_alloc | apply pw_below_drewN | apply below_drew1 | refine below_set ?_ GB20.out) | exact HB.out)⟩
                (try clear HO_6)
                (try clear HB)
                generalize (w27.setCell ⟨go20, (x24_2 : Int).toNat * 4, none⟩ (.int .i64 (wrap64 (((rd_T33 x6_2 x24_2).f0) + (wrap64 (Int.tdiv (wrap64 (((rd_T33 x6_2 x24_2).f1) * a1)) ((rd_T33 x6_2 x24_2).f2))))))) = w29 at n0_ n1_ ⊢
                have HO_6 := n0_
                have HB := n1_
                clear n0_ n1_
                replace HO_6 := Aside0.mk (Kd.R_drew HO_6.out)
                replace HB := Aside0.mk (below_drew1 HB.out)
                have p358 : 0 ≤ ((ji22) : Int) := of_decide_eq_true hE
                have q358 : (ji22) < (y357.length : Int) := (by have h_ : ((ji22) : Int) < ((x6_2.length : Int) : Int) := of_decide_eq_true hE; first | (have e_ := (Kd.R_reads' HO_6.out).1; omega) | simpa only [Ny357.out, List.length_set] using h_)
                have ql358 : (((ji22) : Int) < ((x6_2.length : Int) : Int)) = True := eq_true (of_decide_eq_true hE)
                obtain ⟨ad358, e358, hx358_0, hx358_1, hx358_2, hx358_3⟩ := at_T33 (Kd.R_reads' HO_6.out).2.2 (ji22) p358 q358
                obtain rfl : (⟨go20, 0, none⟩ : Addr) = ad358 := (by injection e358)
                (first | simp only [add_plain] at hx358_0 | simp only [add_at] at hx358_0 | simp only [Addr.add, Nat.zero_add] at hx358_0 | skip)
                (first | simp only [add_plain] at hx358_1 | simp only [add_at] at hx358_1 | simp only [Addr.add, Nat.zero_add] at hx358_1 | skip)
                (first | simp only [add_plain] at hx358_2 | simp only [add_at] at hx358_2 | simp only [Addr.add, Nat.zero_add] at hx358_2 | skip)
                (first | simp only [add_plain] at hx358_3 | simp only [add_at] at hx358_3 | simp only [Addr.add, Nat.zero_add] at hx358_3 | skip)
                replace p358 := eq_true p358
                replace q358 := eq_true q358
                have p359 : 0 ≤ ((ji22) : Int) := of_decide_eq_true hE
                have q359 : (ji22) < (y357.length : Int) := (by have h_ : ((ji22) : Int) < ((x6_2.length : Int) : Int) := of_decide_eq_true hE; first | (have e_ := (Kd.R_reads' HO_6.out).1; omega) | simpa only [Ny357.out, List.length_set] using h_)
                have ql359 : (((ji22) : Int) < ((x6_2.length : Int) : Int)) = True := eq_true (of_decide_eq_true hE)
                obtain ⟨ad359, e359, hx359_0, hx359_1, hx359_2, hx359_3⟩ := at_T33 (Kd.R_reads' HO_6.out).2.2 (ji22) p359 q359
                obtain rfl : (⟨go20, 0, none⟩ : Addr) = ad359 := (by injection e359)
                (first | simp only [add_plain] at hx359_0 | simp only [add_at] at hx359_0 | simp only [Addr.add, Nat.zero_add] at hx359_0 | skip)
                (first | simp only [add_plain] at hx359_1 | simp only [add_at] at hx359_1 | simp only [Addr.add, Nat.zero_add] at hx359_1 | skip)
                (first | simp only [add_plain] at hx359_2 | simp only [add_at] at hx359_2 | simp only [Addr.add, Nat.zero_add] at hx359_2 | skip)
                (first | simp only [add_plain] at hx359_3 | simp only [add_at] at hx359_3 | simp only [Addr.add, Nat.zero_add] at hx359_3 | skip)
                replace p359 := eq_true p359
                replace q359 := eq_true q359
                have p360 : 0 ≤ (x24_2 : Int) := of_decide_eq_true hE
                have q360 : x24_2 < (y357.length : Int) := (by have h_ : (x24_2 : Int) < ((x6_2.length : Int) : Int) := of_decide_eq_true hE; first | (have e_ := (Kd.R_reads' HO_6.out).1; omega) | simpa only [Ny357.out, List.length_set] using h_)
                have ql360 : ((x24_2 : Int) < ((x6_2.length : Int) : Int)) = True := eq_true (of_decide_eq_true hE)
                obtain ⟨ad360, e360, hx360_0, hx360_1, hx360_2, hx360_3⟩ := at_T33 (Kd.R_reads' HO_6.out).2.2 x24_2 p360 q360
                obtain rfl : (⟨go20, 0, none⟩ : Addr) = ad360 := (by injection e360)
                (first | simp only [add_plain] at hx360_0 | simp only [add_at] at hx360_0 | simp only [Addr.add, Nat.zero_add] at hx360_0 | skip)
                (first | simp only [add_plain] at hx360_1 | simp only [add_at] at hx360_1 | simp only [Addr.add, Nat.zero_add] at hx360_1 | skip)
                (first | simp only [add_plain] at hx360_2 | simp only [add_at] at hx360_2 | simp only [Addr.add, Nat.zero_add] at hx360_2 | skip)
                (first | simp only [add_plain] at hx360_3 | simp only [add_at] at hx360_3 | simp only [Addr.add, Nat.zero_add] at hx360_3 | skip)
                replace p360 := eq_true p360
                replace q360 := eq_true q360
                refine start_ (n := 20) (S := fun w' => w'.cell? ⟨go20, ((ji22)).toNat * 4, none⟩ = some (.int .i64 ((rd_T33 y357 (ji22)).f0)) ∧ w'.cell? ⟨go20, ((ji22)).toNat * 4 + 1, none⟩ = some (.int .i64 ((rd_T33 y357 (ji22)).f1)) ∧ w'.cell? ⟨go20, ((ji22)).toNat * 4 + 2, none⟩ = some (.int .i64 ((rd_T33 y357 (ji22)).f2)) ∧ w'.cell? ⟨go20, ((ji22)).toNat * 4 + 3, none⟩ = some (.int .i64 ((rd_T33 y357 (ji22)).f3)) ∧ w'.cell? ⟨go20, ((ji22)).toNat * 4, none⟩ = some (.int .i64 ((rd_T33 y357 (ji22)).f0)) ∧ w'.cell? ⟨go20, ((ji22)).toNat * 4 + 1, none⟩ = some (.int .i64 ((rd_T33 y357 (ji22)).f1)) ∧ w'.cell? ⟨go20, ((ji22)).toNat * 4 + 2, none⟩ = some (.int .i64 ((rd_T33 y357 (ji22)).f2)) ∧ w'.cell? ⟨go20, ((ji22)).toNat * 4 + 3, none⟩ = some (.int .i64 ((rd_T33 y357 (ji22)).f3)) ∧ w'.cell? ⟨go20, (x24_2).toNat * 4, none⟩ = some (.int .i64 ((rd_T33 y357 x24_2).f0)) ∧ w'.cell? ⟨go20, (x24_2).toNat * 4 + 1, none⟩ = some (.int .i64 ((rd_T33 y357 x24_2).f1)) ∧ w'.cell? ⟨go20, (x24_2).toNat * 4 + 2, none⟩ = some (.int .i64 ((rd_T33 y357 x24_2).f2)) ∧ w'.cell? ⟨go20, (x24_2).toNat * 4 + 3, none⟩ = some (.int .i64 ((rd_T33 y357 x24_2).f3))) (ds := []) #[false, false, false, false, false, false, false, false, false, false, false, false, false, false, false, false, false, false, false, false] (by kernel_rfl) rfl rfl ⟨hx358_0, hx358_1, hx358_2, hx358_3, hx359_0, hx359_1, hx359_2, hx359_3, hx360_0, hx360_1, hx360_2, hx360_3⟩ (fun hHeld => ?_); refine with_tabW spec_l10Move.tab10 spec_l10Move.bits10 (fun HT_ HW_ => ?_)
                generalize w29.drew = w30 at HO_6 HB HQ28 hx358_0 hx358_1 hx358_2 hx358_3 hx359_0 hx359_1 hx359_2 hx359_3 hx360_0 hx360_1 hx360_2 hx360_3 hHeld ⊢
                refine pureA 0 56 (bz 20 1) rfl rfl (any_of HT_.out (by kernel_rfl)) ?_
                refine pureA 1 57 (bz 20 3) rfl rfl (any_of HT_.out (by kernel_rfl)) ?_
                refine pureA 2 58 (bz 20 7) rfl rfl (any_of HT_.out (by kernel_rfl)) ?_
                refine pureA 3 59 (bz 20 15) rfl rfl (any_of HT_.out (by kernel_rfl)) ?_
                refine pureA 4 60 (bz 20 31) rfl rfl (any_of HT_.out (by kernel_rfl)) ?_
                refine pureA 6 62 (bz 20 95) rfl rfl (any_of HT_.out (by kernel_rfl)) ?_
                refine pureA 7 63 (bz 20 223) rfl rfl (any_of HT_.out (by kernel_rfl)) ?_
                refine pureA 8 64 (bz 20 479) rfl rfl (any_of HT_.out (by kernel_rfl)) ?_
                refine pureA 9 65 (bz 20 991) rfl rfl (any_of HT_.out (by kernel_rfl)) ?_
                refine pureA 10 66 (bz 20 2015) rfl rfl (any_of HT_.out (by kernel_rfl)) ?_
                refine pureA 13 69 (bz 20 10207) rfl rfl (any_of HT_.out (by kernel_rfl)) ?_
                refine pureA 14 70 (bz 20 26591) rfl rfl (any_of HT_.out (by kernel_rfl)) ?_
                refine pureA 15 71 (bz 20 59359) rfl rfl (any_of HT_.out (by kernel_rfl)) ?_
                refine pureA 16 72 (bz 20 124895) rfl rfl (any_of HT_.out (by kernel_rfl)) ?_
                refine takeA 5 61 (bz 20 124927) rfl rfl (take_ofW HT_.out HW_.out (by kernel_rfl)) hHeld (by rintro w' ⟨s0, s1, s2, s3, s4, s5, s6, s7, s8, s9, s10, s11⟩; go_simp; with_reducible rfl) ?_
                refine takeA 11 67 (bz 20 126975) rfl rfl (take_ofW HT_.out HW_.out (by kernel_rfl)) hHeld (by rintro w' ⟨s0, s1, s2, s3, s4, s5, s6, s7, s8, s9, s10, s11⟩; go_simp; with_reducible rfl) ?_
                refine pureA 12 68 (bz 20 131071) rfl rfl (any_of HT_.out (by kernel_rfl)) ?_
                refine takeA 17 73 (bz 20 262143) rfl rfl (take_ofW HT_.out HW_.out (by kernel_rfl)) hHeld (by rintro w' ⟨s0, s1, s2, s3, s4, s5, s6, s7, s8, s9, s10, s11⟩; go_simp; with_reducible rfl) ?_
                refine pureA 18 74 (bz 20 524287) rfl rfl (any_of HT_.out (by kernel_rfl)) ?_
                refine pureA 19 8 (bz 20 1048575) rfl rfl (any_of HT_.out (by kernel_rfl)) ?_
                refine done_ (done_of HT_.out (by kernel_rfl)) ?_
                have p361 : 0 ≤ (x24_2 : Int) := of_decide_eq_true hE
                have q361 : x24_2 < (y357.length : Int) := (by have h_ : (x24_2 : Int) < ((x6_2.length : Int) : Int) := of_decide_eq_true hE; first | (have e_ := (Kd.R_reads' HO_6.out).1; omega) | simpa only [Ny357.out, List.length_set] using h_)
                have ql361 : ((x24_2 : Int) < ((x6_2.length : Int) : Int)) = True := eq_true (of_decide_eq_true hE)
                obtain ⟨ad361, e361, hx361_0, hx361_1, hx361_2, hx361_3⟩ := at_T33 (Kd.R_reads' HO_6.out).2.2 x24_2 p361 q361
                obtain rfl : (⟨go20, 0, none⟩ : Addr) = ad361 := (by injection e361)
                (first | simp only [add_plain] at hx361_0 | simp only [add_at] at hx361_0 | simp only [Addr.add, Nat.zero_add] at hx361_0 | skip)
                (first | simp only [add_plain] at hx361_1 | simp only [add_at] at hx361_1 | simp only [Addr.add, Nat.zero_add] at hx361_1 | skip)
                (first | simp only [add_plain] at hx361_2 | simp only [add_at] at hx361_2 | simp only [Addr.add, Nat.zero_add] at hx361_2 | skip)
                (first | simp only [add_plain] at hx361_3 | simp only [add_at] at hx361_3 | simp only [Addr.add, Nat.zero_add] at hx361_3 | skip)
                replace p361 := eq_true p361
                replace q361 := eq_true q361
                have p26 : 0 ≤ (x24_2 : Int) := of_decide_eq_true hE
                have q26 : (x24_2 : Int) < ((x6_2.length : Int) : Int) := of_decide_eq_true hE
                obtain ⟨ce26, hcl26, hM26, hcc26, hfr26⟩ := Kd.R_elem HO_6.out z33 (x24_2 : Int) p26 q26
                obtain rfl := k33_openM hM26
                have hx26_0 : w30.cell? ⟨go20, (x24_2 : Int).toNat * 4, none⟩ = some (.int .i64 ((rd_T33 y357 x24_2).f0)) := hcc26 0 _ rfl
                have hx26_1 : w30.cell? ⟨go20, (x24_2 : Int).toNat * 4 + 1, none⟩ = some (.int .i64 ((rd_T33 y357 x24_2).f1)) := hcc26 1 _ rfl
                have hx26_2 : w30.cell? ⟨go20, (x24_2 : Int).toNat * 4 + 2, none⟩ = some (.int .i64 ((rd_T33 y357 x24_2).f2)) := hcc26 2 _ rfl
                have hx26_3 : w30.cell? ⟨go20, (x24_2 : Int).toNat * 4 + 3, none⟩ = some (.int .i64 ((rd_T33 y357 x24_2).f3)) := hcc26 3 _ rfl
                have hf26_0 : w30.frozen? ⟨go20, (x24_2 : Int).toNat * 4, none⟩ = false := hfr26 0
                have hf26_1 : w30.frozen? ⟨go20, (x24_2 : Int).toNat * 4 + 1, none⟩ = false := hfr26 1
                have hf26_2 : w30.frozen? ⟨go20, (x24_2 : Int).toNat * 4 + 2, none⟩ = false := hfr26 2
                have hf26_3 : w30.frozen? ⟨go20, (x24_2 : Int).toNat * 4 + 3, none⟩ = false := hfr26 3
                (try clear hcl26)
                (try clear hcc26)
                (try clear hfr26)
                (try clear hM26)
                replace p26 := eq_true p26
                replace q26 := eq_true q26
                have HX31 := Aside0.mk (show Kd.R k33 33 w30 w.heap.size (fun _ => True) (.slice (some ⟨go20, 0, none⟩) x6_2.length co14) y357 from (rU HO_6.out))
                obtain ⟨ce31, hcl31, hM31, hcc31, hfr31⟩ := Kd.R_elem HX31.out z33 (x24_2 : Int) (of_decide_eq_true hE) (by have h_ : (x24_2 : Int) < ((x6_2.length : Int) : Int) := of_decide_eq_true hE; first | exact h_ | (have e_ := (Kd.R_reads' HO_6.out).1; omega) | simpa using h_)
                obtain rfl := k33_openM hM31
                have HP31 := Kd.R_seg HX31.out (x24_2 : Int) (of_decide_eq_true hE) (by have h_ : (x24_2 : Int) < ((x6_2.length : Int) : Int) := of_decide_eq_true hE; first | exact h_ | (have e_ := (Kd.R_reads' HO_6.out).1; omega) | simpa using h_) (seg := [.int .i64 (wrap64 ((wrap64 (((rd_T33 y357 (ji22)).f0) + ((rd_T33 y357 (ji22)).f3))) + ((rd_T33 y357 x24_2).f3)))]) (j := 0) hcl31 hcc31 (show 1 ≤ 4 from by decide) (x' := (⟨wrap64 ((wrap64 (((rd_T33 y357 (ji22)).f0) + ((rd_T33 y357 (ji22)).f3))) + ((rd_T33 y357 x24_2).f3)), (rd_T33 y357 x24_2).f1, (rd_T33 y357 x24_2).f2, (rd_T33 y357 x24_2).f3⟩ : S33)) (k33_mkM _ _ _ (⟨wrap64 ((wrap64 (((rd_T33 y357 (ji22)).f0) + ((rd_T33 y357 (ji22)).f3))) + ((rd_T33 y357 x24_2).f3)), (rd_T33 y357 x24_2).f1, (rd_T33 y357 x24_2).f2, (rd_T33 y357 x24_2).f3⟩ : S33) ) (fun _ hk => hk)
                have hx31_0 := hcc31 0 _ rfl
                (try simp only [show (k33).sz = 4 from rfl, Nat.mul_one, Nat.add_zero] at hx31_0)
                have hf31_0 := hfr31 0
                (try simp only [show (k33).sz = 4 from rfl, Nat.mul_one, Nat.add_zero] at hf31_0)
                (try clear hcl31)
                (try clear hcc31)
                (try clear hfr31)
                (try clear hM31)
                try go_wp2_with (first | ((with_reducible refine gate_store (t := 3) (p := 86) rfl ?_); refine store_event (t := 3) (p := 86) (v := ?vo_w32) (w1 := (w30.setCell ⟨go20, (x24_2 : Int).toNat * 4, none⟩ (.int .i64 (wrap64 ((wrap64 (((rd_T33 y357 (ji22)).f0) + ((rd_T33 y357 (ji22)).f3))) + ((rd_T33 y357 x24_2).f3)))))) ?hg ?ho ?hn ?hr ?_; (case ho => rfl); (case hg => rfl); (case hn => rfl); (case hr => exact sE); intro w32 hw; have hg : w30.grownBy w32 (some go20) := (by rw [hw]; exact HP31.2); have hp_ : Kd.R k33 33 w32 w.heap.size (fun _ => True) (.slice (some ⟨go20, 0, none⟩) x6_2.length co14) y362 := (by rw [hw, Ny362.out]; exact HP31.1); clear HP31; replace HO_6 := Aside0.mk hp_; replace HB := Aside0.mk ((by rw [hw]; exact below_set (HB.out) GB20.out : Below w.heap.size w w32)); clear hg hw hp_))
                (try simp only [← hl6_2])
                go_roundg k2
                case measure => have := HJ2.out; have := HK2.out; omega
                case rel => exact ⟨(y362), (wrap64 (x24_2 + 1)), tE, H', ⟨by have := HJ2.out; have := HK2.out; omega⟩, ⟨by (try simp only [hl6_2]); (with_reducible repeat (first | apply Kd.R_alloc | apply Kd.R_drewN | apply Kd.R_drew)); exact HO_6.out⟩, ⟨by repeat (first | (with_reducible first | exact HB.out | apply below_alloc | apply pw_below_drewN | apply below_drew1) | exact HB.out)⟩⟩
               ·rw [if_neg c25] at H
                have c25b0 : decide (((rd_T33 y357 x24_2).f0) < (wrap64 ((wrap64 (((rd_T33 y357 (ji22)).f0) + ((rd_T33 y357 (ji22)).f3))) + ((rd_T33 y357 x24_2).f3)))) = false := decide_eq_false c25
                clear c25
                have H' := Aside0.mk H
                clear H
                have p353 : 0 ≤ (x24_2 : Int) := of_decide_eq_true hE
                have q353 : x24_2 < (x6_2.length : Int) := of_decide_eq_true hE
                obtain ⟨ad353, e353, hx353_0, hx353_1, hx353_2, hx353_3⟩ := at_T33 (Kd.R_reads' HO_6.out).2.2 x24_2 p353 q353
                cases e353
                replace p353 := eq_true p353
                replace q353 := eq_true q353
                try go_wp2
                replace HO_6 := Aside0.mk (Kd.R_drew HO_6.out)
                replace HB := Aside0.mk (below_drew1 HB.out)
                have p354 : 0 ≤ (x24_2 : Int) := of_decide_eq_true hE
                have q354 : x24_2 < (x6_2.length : Int) := of_decide_eq_true hE
                obtain ⟨ad354, e354, hx354_0, hx354_1, hx354_2, hx354_3⟩ := at_T33 (Kd.R_reads' HO_6.out).2.2 x24_2 p354 q354
                obtain rfl : ad353 = ad354 := (by injection e354)
                replace p354 := eq_true p354
                replace q354 := eq_true q354
                have p355 : 0 ≤ (x24_2 : Int) := of_decide_eq_true hE
                have q355 : x24_2 < (x6_2.length : Int) := of_decide_eq_true hE
                obtain ⟨ad355, e355, hx355_0, hx355_1, hx355_2, hx355_3⟩ := at_T33 (Kd.R_reads' HO_6.out).2.2 x24_2 p355 q355
                obtain rfl : ad353 = ad355 := (by injection e355)
                replace p355 := eq_true p355
                replace q355 := eq_true q355
                have p356 : 0 ≤ (x24_2 : Int) := of_decide_eq_true hE
                have q356 : x24_2 < (x6_2.length : Int) := of_decide_eq_true hE
                obtain ⟨ad356, e356, hx356_0, hx356_1, hx356_2, hx356_3⟩ := at_T33 (Kd.R_reads' HO_6.out).2.2 x24_2 p356 q356
                obtain rfl : ad353 = ad356 := (by injection e356)
                replace p356 := eq_true p356
                replace q356 := eq_true q356
                have p20 : 0 ≤ (x24_2 : Int) := of_decide_eq_true hE
                have q20 : (x24_2 : Int) < ((x6_2.length : Int) : Int) := of_decide_eq_true hE
                obtain ⟨go20, co20, eo20, gb20, gl20, cl20, HG20⟩ := Kd.R_form HO_6.out (by omega)
                (first | cases eo20 | (injection eo20 with ea_ en_ ec_; (first | subst ea_ | (injection ea_ with ea_; subst ea_)); subst ec_; clear en_))
                have GB20 := Aside0.mk gb20
                have GG20 := Aside0.mk HG20
                clear gb20 gl20 HG20
                (first | simp only [add_plain] at hx353_0 | skip)
                (first | simp only [add_plain] at hx353_1 | skip)
                (first | simp only [add_plain] at hx353_2 | skip)
                (first | simp only [add_plain] at hx353_3 | skip)
                (first | simp only [add_plain] at hx354_0 | skip)
                (first | simp only [add_plain] at hx354_1 | skip)
                (first | simp only [add_plain] at hx354_2 | skip)
                (first | simp only [add_plain] at hx354_3 | skip)
                (first | simp only [add_plain] at hx355_0 | skip)
                (first | simp only [add_plain] at hx355_1 | skip)
                (first | simp only [add_plain] at hx355_2 | skip)
                (first | simp only [add_plain] at hx355_3 | skip)
                (first | simp only [add_plain] at hx356_0 | skip)
                (first | simp only [add_plain] at hx356_1 | skip)
                (first | simp only [add_plain] at hx356_2 | skip)
                (first | simp only [add_plain] at hx356_3 | skip)
                obtain ⟨ce20, hcl20, hM20, hcc20, hfr20⟩ := Kd.R_elem HO_6.out z33 (x24_2 : Int) p20 q20
                obtain rfl := k33_openM hM20
                have hx20_0 : World.cell? _ ⟨go20, (x24_2 : Int).toNat * 4, none⟩ = some (.int .i64 ((rd_T33 x6_2 x24_2).f0)) := hcc20 0 _ rfl
                have hx20_1 : World.cell? _ ⟨go20, (x24_2 : Int).toNat * 4 + 1, none⟩ = some (.int .i64 ((rd_T33 x6_2 x24_2).f1)) := hcc20 1 _ rfl
                have hx20_2 : World.cell? _ ⟨go20, (x24_2 : Int).toNat * 4 + 2, none⟩ = some (.int .i64 ((rd_T33 x6_2 x24_2).f2)) := hcc20 2 _ rfl
                have hx20_3 : World.cell? _ ⟨go20, (x24_2 : Int).toNat * 4 + 3, none⟩ = some (.int .i64 ((rd_T33 x6_2 x24_2).f3)) := hcc20 3 _ rfl
                have hf20_0 : World.frozen? _ ⟨go20, (x24_2 : Int).toNat * 4, none⟩ = false := hfr20 0
                have hf20_1 : World.frozen? _ ⟨go20, (x24_2 : Int).toNat * 4 + 1, none⟩ = false := hfr20 1
                have hf20_2 : World.frozen? _ ⟨go20, (x24_2 : Int).toNat * 4 + 2, none⟩ = false := hfr20 2
                have hf20_3 : World.frozen? _ ⟨go20, (x24_2 : Int).toNat * 4 + 3, none⟩ = false := hfr20 3
                (try clear hcl20)
                (try clear hcc20)
                (try clear hfr20)
                (try clear hM20)
                replace p20 := eq_true p20
                replace q20 := eq_true q20
                obtain ⟨ce34, hcl34, hM34, hcc34, hfr34⟩ := Kd.R_elem HO_6.out z33 (x24_2 : Int) (of_decide_eq_true hE) (by have h_ : (x24_2 : Int) < ((x6_2.length : Int) : Int) := of_decide_eq_true hE; first | exact h_ | (have e_ := (Kd.R_reads' HO_6.out).1; omega) | simpa using h_)
                obtain rfl := k33_openM hM34
                have HP34 := (Kd.R_seg HO_6.out (x24_2 : Int) (of_decide_eq_true hE) (by have h_ : (x24_2 : Int) < ((x6_2.length : Int) : Int) := of_decide_eq_true hE; first | exact h_ | (have e_ := (Kd.R_reads' HO_6.out).1; omega) | simpa using h_) (seg := [.int .i64 (wrap64 (((rd_T33 x6_2 x24_2).f0) + (wrap64 (Int.tdiv (wrap64 (((rd_T33 x6_2 x24_2).f1) * a1)) ((rd_T33 x6_2 x24_2).f2)))))]) (j := 0) hcl34 hcc34 (show 1 ≤ 4 from by decide) (x' := (⟨wrap64 (((rd_T33 x6_2 x24_2).f0) + (wrap64 (Int.tdiv (wrap64 (((rd_T33 x6_2 x24_2).f1) * a1)) ((rd_T33 x6_2 x24_2).f2)))), (rd_T33 x6_2 x24_2).f1, (rd_T33 x6_2 x24_2).f2, (rd_T33 x6_2 x24_2).f3⟩ : S33)) (k33_mkM _ _ _ (⟨wrap64 (((rd_T33 x6_2 x24_2).f0) + (wrap64 (Int.tdiv (wrap64 (((rd_T33 x6_2 x24_2).f1) * a1)) ((rd_T33 x6_2 x24_2).f2)))), (rd_T33 x6_2 x24_2).f1, (rd_T33 x6_2 x24_2).f2, (rd_T33 x6_2 x24_2).f3⟩ : S33) ) (fun _ hk => hk)).1
                rw [← Ny357.out] at HP34
                have HQ34 := Aside0.mk HP34
                clear hcl34 hcc34 hfr34 hM34 HP34
                refine start_ (n := 22) (S := fun w' => w'.cell? ⟨go20, ((x24_2).toNat * 4), none⟩ = some (.int .i64 ((rd_T33 x6_2 x24_2).f0)) ∧ w'.cell? ⟨go20, ((x24_2).toNat * 4) + 1, none⟩ = some (.int .i64 ((rd_T33 x6_2 x24_2).f1)) ∧ w'.cell? ⟨go20, ((x24_2).toNat * 4) + 2, none⟩ = some (.int .i64 ((rd_T33 x6_2 x24_2).f2)) ∧ w'.cell? ⟨go20, ((x24_2).toNat * 4) + 3, none⟩ = some (.int .i64 ((rd_T33 x6_2 x24_2).f3)) ∧ w'.cell? ⟨go20, ((x24_2).toNat * 4), none⟩ = some (.int .i64 ((rd_T33 x6_2 x24_2).f0)) ∧ w'.cell? ⟨go20, ((x24_2).toNat * 4) + 1, none⟩ = some (.int .i64 ((rd_T33 x6_2 x24_2).f1)) ∧ w'.cell? ⟨go20, ((x24_2).toNat * 4) + 2, none⟩ = some (.int .i64 ((rd_T33 x6_2 x24_2).f2)) ∧ w'.cell? ⟨go20, ((x24_2).toNat * 4) + 3, none⟩ = some (.int .i64 ((rd_T33 x6_2 x24_2).f3)) ∧ w'.cell? ⟨go20, ((x24_2).toNat * 4), none⟩ = some (.int .i64 ((rd_T33 x6_2 x24_2).f0)) ∧ w'.cell? ⟨go20, ((x24_2).toNat * 4) + 1, none⟩ = some (.int .i64 ((rd_T33 x6_2 x24_2).f1)) ∧ w'.cell? ⟨go20, ((x24_2).toNat * 4) + 2, none⟩ = some (.int .i64 ((rd_T33 x6_2 x24_2).f2)) ∧ w'.cell? ⟨go20, ((x24_2).toNat * 4) + 3, none⟩ = some (.int .i64 ((rd_T33 x6_2 x24_2).f3))) (ds := [21]) #[false, false, false, false, false, false, false, false, false, false, false, false, false, false, false, false, false, false, false, false, false, false] (by kernel_rfl) rfl rfl ⟨hx354_0, hx354_1, hx354_2, hx354_3, hx355_0, hx355_1, hx355_2, hx355_3, hx356_0, hx356_1, hx356_2, hx356_3⟩ (fun hHeld => ?_); refine with_tabW spec_l10Move.tab8 spec_l10Move.bits8 (fun HT_ HW_ => ?_)
                generalize wr.drew = w33 at HO_6 HB GG20 HQ34 hf20_0 hf20_1 hf20_2 hf20_3 hx20_0 hx20_1 hx20_2 hx20_3 hx353_0 hx353_1 hx353_2 hx353_3 hx354_0 hx354_1 hx354_2 hx354_3 hx355_0 hx355_1 hx355_2 hx355_3 hx356_0 hx356_1 hx356_2 hx356_3 hHeld ⊢
                refine pureA 0 33 (bz 22 1) rfl rfl (any_of HT_.out (by kernel_rfl)) ?_
                refine pureA 1 34 (bz 22 3) rfl rfl (any_of HT_.out (by kernel_rfl)) ?_
                refine pureA 2 35 (bz 22 7) rfl rfl (any_of HT_.out (by kernel_rfl)) ?_
                refine pureA 3 36 (bz 22 15) rfl rfl (any_of HT_.out (by kernel_rfl)) ?_
                refine pureA 5 38 (bz 22 47) rfl rfl (any_of HT_.out (by kernel_rfl)) ?_
                refine pureA 6 39 (bz 22 111) rfl rfl (any_of HT_.out (by kernel_rfl)) ?_
                refine pureA 7 40 (bz 22 239) rfl rfl (any_of HT_.out (by kernel_rfl)) ?_
                refine pureA 8 41 (bz 22 495) rfl rfl (any_of HT_.out (by kernel_rfl)) ?_
                refine pureA 10 43 (bz 22 1519) rfl rfl (any_of HT_.out (by kernel_rfl)) ?_
                refine pureA 12 45 (bz 22 5615) rfl rfl (any_of HT_.out (by kernel_rfl)) ?_
                refine pureA 13 46 (bz 22 13807) rfl rfl (any_of HT_.out (by kernel_rfl)) ?_
                refine pureA 14 47 (bz 22 30191) rfl rfl (any_of HT_.out (by kernel_rfl)) ?_
                refine pureA 15 48 (bz 22 62959) rfl rfl (any_of HT_.out (by kernel_rfl)) ?_
                refine takeA 4 37 (bz 22 62975) rfl rfl (take_ofW HT_.out HW_.out (by kernel_rfl)) hHeld (by rintro w' ⟨s0, s1, s2, s3, s4, s5, s6, s7, s8, s9, s10, s11⟩; go_simp; with_reducible rfl) ?_
                refine takeA 9 42 (bz 22 63487) rfl rfl (take_ofW HT_.out HW_.out (by kernel_rfl)) hHeld (by rintro w' ⟨s0, s1, s2, s3, s4, s5, s6, s7, s8, s9, s10, s11⟩; go_simp; with_reducible rfl) ?_
                refine pureA 11 44 (bz 22 65535) rfl rfl (any_of HT_.out (by kernel_rfl)) ?_
                refine takeA 16 49 (bz 22 131071) rfl rfl (take_ofW HT_.out HW_.out (by kernel_rfl)) hHeld (by rintro w' ⟨s0, s1, s2, s3, s4, s5, s6, s7, s8, s9, s10, s11⟩; go_simp; with_reducible rfl) ?_
                refine pureA 17 50 (bz 22 262143) rfl rfl (any_of HT_.out (by kernel_rfl)) ?_
                refine pureA 18 51 (bz 22 524287) rfl rfl (any_of HT_.out (by kernel_rfl)) ?_
                refine pureA 19 52 (bz 22 1048575) rfl rfl (any_of HT_.out (by kernel_rfl)) ?_
                refine pureA 20 53 (bz 22 2097151) rfl rfl (any_of HT_.out (by kernel_rfl)) ?_
                refine last_ (i := 21) (N := none) (bz 22 4194303) rfl rfl (one_of HT_.out (by kernel_rfl)) (by decide) (fun K hK => ?_)
                refine skip_ (w1 := ?_) (by rfl) rfl ?_ ?_
                rotate_left
                ·go_simp
                 rfl
                refine hK.out _ _ ?_
                clear hK K
                refine done_ (done_of HT_.out (by kernel_rfl)) ?_
                try go_wp2
                have n0_ : Aside0 (Kd.R k33 33 (w33.setCell ⟨go20, (x24_2 : Int).toNat * 4, none⟩ (.int .i64 (wrap64 (((rd_T33 x6_2 x24_2).f0) + (wrap64 (Int.tdiv (wrap64 (((rd_T33 x6_2 x24_2).f1) * a1)) ((rd_T33 x6_2 x24_2).f2))))))) w.heap.size (fun _ => True) (.slice (some ⟨go20, 0, none⟩) x6_2.length co14) y357) := ⟨by (with_reducible repeat (first | apply Kd.R_alloc | apply Kd.R_drewN | apply Kd.R_drew)); exact HQ34.out⟩
                have n1_ : Aside0 (Below w.heap.size w (w33.setCell ⟨go20, (x24_2 : Int).toNat * 4, none⟩ (.int .i64 (wrap64 (((rd_T33 x6_2 x24_2).f0) + (wrap64 (Int.tdiv (wrap64 (((rd_T33 x6_2 x24_2).f1) * a1)) ((rd_T33 x6_2 x24_2).f2)))))))) := ⟨by repeat (first | (with_reducible first | exact HB.out | apply below_alloc | apply pw_below_drewN | apply below_drew1 | refine below_set ?_ GB20.out) | exact HB.out)⟩
                (try clear HO_6)
                (try clear HB)
                generalize (w33.setCell ⟨go20, (x24_2 : Int).toNat * 4, none⟩ (.int .i64 (wrap64 (((rd_T33 x6_2 x24_2).f0) + (wrap64 (Int.tdiv (wrap64 (((rd_T33 x6_2 x24_2).f1) * a1)) ((rd_T33 x6_2 x24_2).f2))))))) = w35 at n0_ n1_ ⊢
                have HO_6 := n0_
                have HB := n1_
                clear n0_ n1_
                replace HO_6 := Aside0.mk (Kd.R_drew HO_6.out)
                replace HB := Aside0.mk (below_drew1 HB.out)
                have p358 : 0 ≤ ((ji22) : Int) := of_decide_eq_true hE
                have q358 : (ji22) < (y357.length : Int) := (by have h_ : ((ji22) : Int) < ((x6_2.length : Int) : Int) := of_decide_eq_true hE; first | (have e_ := (Kd.R_reads' HO_6.out).1; omega) | simpa only [Ny357.out, List.length_set] using h_)
                have ql358 : (((ji22) : Int) < ((x6_2.length : Int) : Int)) = True := eq_true (of_decide_eq_true hE)
                obtain ⟨ad358, e358, hx358_0, hx358_1, hx358_2, hx358_3⟩ := at_T33 (Kd.R_reads' HO_6.out).2.2 (ji22) p358 q358
                obtain rfl : (⟨go20, 0, none⟩ : Addr) = ad358 := (by injection e358)
                (first | simp only [add_plain] at hx358_0 | simp only [add_at] at hx358_0 | simp only [Addr.add, Nat.zero_add] at hx358_0 | skip)
                (first | simp only [add_plain] at hx358_1 | simp only [add_at] at hx358_1 | simp only [Addr.add, Nat.zero_add] at hx358_1 | skip)
                (first | simp only [add_plain] at hx358_2 | simp only [add_at] at hx358_2 | simp only [Addr.add, Nat.zero_add] at hx358_2 | skip)
                (first | simp only [add_plain] at hx358_3 | simp only [add_at] at hx358_3 | simp only [Addr.add, Nat.zero_add] at hx358_3 | skip)
                replace p358 := eq_true p358
                replace q358 := eq_true q358
                have p359 : 0 ≤ ((ji22) : Int) := of_decide_eq_true hE
                have q359 : (ji22) < (y357.length : Int) := (by have h_ : ((ji22) : Int) < ((x6_2.length : Int) : Int) := of_decide_eq_true hE; first | (have e_ := (Kd.R_reads' HO_6.out).1; omega) | simpa only [Ny357.out, List.length_set] using h_)
                have ql359 : (((ji22) : Int) < ((x6_2.length : Int) : Int)) = True := eq_true (of_decide_eq_true hE)
                obtain ⟨ad359, e359, hx359_0, hx359_1, hx359_2, hx359_3⟩ := at_T33 (Kd.R_reads' HO_6.out).2.2 (ji22) p359 q359
                obtain rfl : (⟨go20, 0, none⟩ : Addr) = ad359 := (by injection e359)
                (first | simp only [add_plain] at hx359_0 | simp only [add_at] at hx359_0 | simp only [Addr.add, Nat.zero_add] at hx359_0 | skip)
                (first | simp only [add_plain] at hx359_1 | simp only [add_at] at hx359_1 | simp only [Addr.add, Nat.zero_add] at hx359_1 | skip)
                (first | simp only [add_plain] at hx359_2 | simp only [add_at] at hx359_2 | simp only [Addr.add, Nat.zero_add] at hx359_2 | skip)
                (first | simp only [add_plain] at hx359_3 | simp only [add_at] at hx359_3 | simp only [Addr.add, Nat.zero_add] at hx359_3 | skip)
                replace p359 := eq_true p359
                replace q359 := eq_true q359
                have p360 : 0 ≤ (x24_2 : Int) := of_decide_eq_true hE
                have q360 : x24_2 < (y357.length : Int) := (by have h_ : (x24_2 : Int) < ((x6_2.length : Int) : Int) := of_decide_eq_true hE; first | (have e_ := (Kd.R_reads' HO_6.out).1; omega) | simpa only [Ny357.out, List.length_set] using h_)
                have ql360 : ((x24_2 : Int) < ((x6_2.length : Int) : Int)) = True := eq_true (of_decide_eq_true hE)
                obtain ⟨ad360, e360, hx360_0, hx360_1, hx360_2, hx360_3⟩ := at_T33 (Kd.R_reads' HO_6.out).2.2 x24_2 p360 q360
                obtain rfl : (⟨go20, 0, none⟩ : Addr) = ad360 := (by injection e360)
                (first | simp only [add_plain] at hx360_0 | simp only [add_at] at hx360_0 | simp only [Addr.add, Nat.zero_add] at hx360_0 | skip)
                (first | simp only [add_plain] at hx360_1 | simp only [add_at] at hx360_1 | simp only [Addr.add, Nat.zero_add] at hx360_1 | skip)
                (first | simp only [add_plain] at hx360_2 | simp only [add_at] at hx360_2 | simp only [Addr.add, Nat.zero_add] at hx360_2 | skip)
                (first | simp only [add_plain] at hx360_3 | simp only [add_at] at hx360_3 | simp only [Addr.add, Nat.zero_add] at hx360_3 | skip)
                replace p360 := eq_true p360
                replace q360 := eq_true q360
                refine start_ (n := 20) (S := fun w' => w'.cell? ⟨go20, ((ji22)).toNat * 4, none⟩ = some (.int .i64 ((rd_T33 y357 (ji22)).f0)) ∧ w'.cell? ⟨go20, ((ji22)).toNat * 4 + 1, none⟩ = some (.int .i64 ((rd_T33 y357 (ji22)).f1)) ∧ w'.cell? ⟨go20, ((ji22)).toNat * 4 + 2, none⟩ = some (.int .i64 ((rd_T33 y357 (ji22)).f2)) ∧ w'.cell? ⟨go20, ((ji22)).toNat * 4 + 3, none⟩ = some (.int .i64 ((rd_T33 y357 (ji22)).f3)) ∧ w'.cell? ⟨go20, ((ji22)).toNat * 4, none⟩ = some (.int .i64 ((rd_T33 y357 (ji22)).f0)) ∧ w'.cell? ⟨go20, ((ji22)).toNat * 4 + 1, none⟩ = some (.int .i64 ((rd_T33 y357 (ji22)).f1)) ∧ w'.cell? ⟨go20, ((ji22)).toNat * 4 + 2, none⟩ = some (.int .i64 ((rd_T33 y357 (ji22)).f2)) ∧ w'.cell? ⟨go20, ((ji22)).toNat * 4 + 3, none⟩ = some (.int .i64 ((rd_T33 y357 (ji22)).f3)) ∧ w'.cell? ⟨go20, (x24_2).toNat * 4, none⟩ = some (.int .i64 ((rd_T33 y357 x24_2).f0)) ∧ w'.cell? ⟨go20, (x24_2).toNat * 4 + 1, none⟩ = some (.int .i64 ((rd_T33 y357 x24_2).f1)) ∧ w'.cell? ⟨go20, (x24_2).toNat * 4 + 2, none⟩ = some (.int .i64 ((rd_T33 y357 x24_2).f2)) ∧ w'.cell? ⟨go20, (x24_2).toNat * 4 + 3, none⟩ = some (.int .i64 ((rd_T33 y357 x24_2).f3))) (ds := []) #[false, false, false, false, false, false, false, false, false, false, false, false, false, false, false, false, false, false, false, false] (by kernel_rfl) rfl rfl ⟨hx358_0, hx358_1, hx358_2, hx358_3, hx359_0, hx359_1, hx359_2, hx359_3, hx360_0, hx360_1, hx360_2, hx360_3⟩ (fun hHeld => ?_); refine with_tabW spec_l10Move.tab10 spec_l10Move.bits10 (fun HT_ HW_ => ?_)
                generalize w35.drew = w36 at HO_6 HB HQ34 hx358_0 hx358_1 hx358_2 hx358_3 hx359_0 hx359_1 hx359_2 hx359_3 hx360_0 hx360_1 hx360_2 hx360_3 hHeld ⊢
                refine pureA 0 56 (bz 20 1) rfl rfl (any_of HT_.out (by kernel_rfl)) ?_
                refine pureA 1 57 (bz 20 3) rfl rfl (any_of HT_.out (by kernel_rfl)) ?_
                refine pureA 2 58 (bz 20 7) rfl rfl (any_of HT_.out (by kernel_rfl)) ?_
                refine pureA 3 59 (bz 20 15) rfl rfl (any_of HT_.out (by kernel_rfl)) ?_
                refine pureA 4 60 (bz 20 31) rfl rfl (any_of HT_.out (by kernel_rfl)) ?_
                refine pureA 6 62 (bz 20 95) rfl rfl (any_of HT_.out (by kernel_rfl)) ?_
                refine pureA 7 63 (bz 20 223) rfl rfl (any_of HT_.out (by kernel_rfl)) ?_
                refine pureA 8 64 (bz 20 479) rfl rfl (any_of HT_.out (by kernel_rfl)) ?_
                refine pureA 9 65 (bz 20 991) rfl rfl (any_of HT_.out (by kernel_rfl)) ?_
                refine pureA 10 66 (bz 20 2015) rfl rfl (any_of HT_.out (by kernel_rfl)) ?_
                refine pureA 13 69 (bz 20 10207) rfl rfl (any_of HT_.out (by kernel_rfl)) ?_
                refine pureA 14 70 (bz 20 26591) rfl rfl (any_of HT_.out (by kernel_rfl)) ?_
                refine pureA 15 71 (bz 20 59359) rfl rfl (any_of HT_.out (by kernel_rfl)) ?_
                refine pureA 16 72 (bz 20 124895) rfl rfl (any_of HT_.out (by kernel_rfl)) ?_
                refine takeA 5 61 (bz 20 124927) rfl rfl (take_ofW HT_.out HW_.out (by kernel_rfl)) hHeld (by rintro w' ⟨s0, s1, s2, s3, s4, s5, s6, s7, s8, s9, s10, s11⟩; go_simp; with_reducible rfl) ?_
                refine takeA 11 67 (bz 20 126975) rfl rfl (take_ofW HT_.out HW_.out (by kernel_rfl)) hHeld (by rintro w' ⟨s0, s1, s2, s3, s4, s5, s6, s7, s8, s9, s10, s11⟩; go_simp; with_reducible rfl) ?_
                refine pureA 12 68 (bz 20 131071) rfl rfl (any_of HT_.out (by kernel_rfl)) ?_
                refine takeA 17 73 (bz 20 262143) rfl rfl (take_ofW HT_.out HW_.out (by kernel_rfl)) hHeld (by rintro w' ⟨s0, s1, s2, s3, s4, s5, s6, s7, s8, s9, s10, s11⟩; go_simp; with_reducible rfl) ?_
                refine pureA 18 74 (bz 20 524287) rfl rfl (any_of HT_.out (by kernel_rfl)) ?_
                refine pureA 19 8 (bz 20 1048575) rfl rfl (any_of HT_.out (by kernel_rfl)) ?_
                refine done_ (done_of HT_.out (by kernel_rfl)) ?_
                have p361 : 0 ≤ (x24_2 : Int) := of_decide_eq_true hE
                have q361 : x24_2 < (y357.length : Int) := (by have h_ : (x24_2 : Int) < ((x6_2.length : Int) : Int) := of_decide_eq_true hE; first | (have e_ := (Kd.R_reads' HO_6.out).1; omega) | simpa only [Ny357.out, List.length_set] using h_)
                have ql361 : ((x24_2 : Int) < ((x6_2.length : Int) : Int)) = True := eq_true (of_decide_eq_true hE)
                obtain ⟨ad361, e361, hx361_0, hx361_1, hx361_2, hx361_3⟩ := at_T33 (Kd.R_reads' HO_6.out).2.2 x24_2 p361 q361
                obtain rfl : (⟨go20, 0, none⟩ : Addr) = ad361 := (by injection e361)
                (first | simp only [add_plain] at hx361_0 | simp only [add_at] at hx361_0 | simp only [Addr.add, Nat.zero_add] at hx361_0 | skip)
                (first | simp only [add_plain] at hx361_1 | simp only [add_at] at hx361_1 | simp only [Addr.add, Nat.zero_add] at hx361_1 | skip)
                (first | simp only [add_plain] at hx361_2 | simp only [add_at] at hx361_2 | simp only [Addr.add, Nat.zero_add] at hx361_2 | skip)
                (first | simp only [add_plain] at hx361_3 | simp only [add_at] at hx361_3 | simp only [Addr.add, Nat.zero_add] at hx361_3 | skip)
                replace p361 := eq_true p361
                replace q361 := eq_true q361
                try go_wp2
                (try simp only [← hl6_2])
                go_roundg k2
                case measure => have := HJ2.out; have := HK2.out; omega
                case rel => exact ⟨(y357), (wrap64 (x24_2 + 1)), tE, H', ⟨by have := HJ2.out; have := HK2.out; omega⟩, ⟨by (try simp only [hl6_2]); (with_reducible repeat (first | apply Kd.R_alloc | apply Kd.R_drewN | apply Kd.R_drew)); exact HO_6.out⟩, ⟨by repeat (first | (with_reducible first | exact HB.out | apply below_alloc | apply pw_below_drewN | apply below_drew1) | exact HB.out)⟩⟩
              ·rw [if_neg c24] at H
               exact absurd H (by simp)
             ·rw [if_neg c23] at H
              exact absurd H (by simp)
            ·rw [if_neg c21] at H
             have c21b0 : decide (0 < x24_2) = false := decide_eq_false c21
             clear c21
             have H' := Aside0.mk H
             clear H
             have p353 : 0 ≤ (x24_2 : Int) := of_decide_eq_true hE
             have q353 : x24_2 < (x6_2.length : Int) := of_decide_eq_true hE
             obtain ⟨ad353, e353, hx353_0, hx353_1, hx353_2, hx353_3⟩ := at_T33 (Kd.R_reads' HO_6.out).2.2 x24_2 p353 q353
             cases e353
             replace p353 := eq_true p353
             replace q353 := eq_true q353
             try go_wp2
             replace HO_6 := Aside0.mk (Kd.R_drew HO_6.out)
             replace HB := Aside0.mk (below_drew1 HB.out)
             have p354 : 0 ≤ (x24_2 : Int) := of_decide_eq_true hE
             have q354 : x24_2 < (x6_2.length : Int) := of_decide_eq_true hE
             obtain ⟨ad354, e354, hx354_0, hx354_1, hx354_2, hx354_3⟩ := at_T33 (Kd.R_reads' HO_6.out).2.2 x24_2 p354 q354
             obtain rfl : ad353 = ad354 := (by injection e354)
             replace p354 := eq_true p354
             replace q354 := eq_true q354
             have p355 : 0 ≤ (x24_2 : Int) := of_decide_eq_true hE
             have q355 : x24_2 < (x6_2.length : Int) := of_decide_eq_true hE
             obtain ⟨ad355, e355, hx355_0, hx355_1, hx355_2, hx355_3⟩ := at_T33 (Kd.R_reads' HO_6.out).2.2 x24_2 p355 q355
             obtain rfl : ad353 = ad355 := (by injection e355)
             replace p355 := eq_true p355
             replace q355 := eq_true q355
             have p356 : 0 ≤ (x24_2 : Int) := of_decide_eq_true hE
             have q356 : x24_2 < (x6_2.length : Int) := of_decide_eq_true hE
             obtain ⟨ad356, e356, hx356_0, hx356_1, hx356_2, hx356_3⟩ := at_T33 (Kd.R_reads' HO_6.out).2.2 x24_2 p356 q356
             obtain rfl : ad353 = ad356 := (by injection e356)
             replace p356 := eq_true p356
             replace q356 := eq_true q356
             have p20 : 0 ≤ (x24_2 : Int) := of_decide_eq_true hE
             have q20 : (x24_2 : Int) < ((x6_2.length : Int) : Int) := of_decide_eq_true hE
             obtain ⟨go20, co20, eo20, gb20, gl20, cl20, HG20⟩ := Kd.R_form HO_6.out (by omega)
             (first | cases eo20 | (injection eo20 with ea_ en_ ec_; (first | subst ea_ | (injection ea_ with ea_; subst ea_)); subst ec_; clear en_))
             have GB20 := Aside0.mk gb20
             have GG20 := Aside0.mk HG20
             clear gb20 gl20 HG20
             (first | simp only [add_plain] at hx353_0 | skip)
             (first | simp only [add_plain] at hx353_1 | skip)
             (first | simp only [add_plain] at hx353_2 | skip)
             (first | simp only [add_plain] at hx353_3 | skip)
             (first | simp only [add_plain] at hx354_0 | skip)
             (first | simp only [add_plain] at hx354_1 | skip)
             (first | simp only [add_plain] at hx354_2 | skip)
             (first | simp only [add_plain] at hx354_3 | skip)
             (first | simp only [add_plain] at hx355_0 | skip)
             (first | simp only [add_plain] at hx355_1 | skip)
             (first | simp only [add_plain] at hx355_2 | skip)
             (first | simp only [add_plain] at hx355_3 | skip)
             (first | simp only [add_plain] at hx356_0 | skip)
             (first | simp only [add_plain] at hx356_1 | skip)
             (first | simp only [add_plain] at hx356_2 | skip)
             (first | simp only [add_plain] at hx356_3 | skip)
             obtain ⟨ce20, hcl20, hM20, hcc20, hfr20⟩ := Kd.R_elem HO_6.out z33 (x24_2 : Int) p20 q20
             obtain rfl := k33_openM hM20
             have hx20_0 : World.cell? _ ⟨go20, (x24_2 : Int).toNat * 4, none⟩ = some (.int .i64 ((rd_T33 x6_2 x24_2).f0)) := hcc20 0 _ rfl
             have hx20_1 : World.cell? _ ⟨go20, (x24_2 : Int).toNat * 4 + 1, none⟩ = some (.int .i64 ((rd_T33 x6_2 x24_2).f1)) := hcc20 1 _ rfl
             have hx20_2 : World.cell? _ ⟨go20, (x24_2 : Int).toNat * 4 + 2, none⟩ = some (.int .i64 ((rd_T33 x6_2 x24_2).f2)) := hcc20 2 _ rfl
             have hx20_3 : World.cell? _ ⟨go20, (x24_2 : Int).toNat * 4 + 3, none⟩ = some (.int .i64 ((rd_T33 x6_2 x24_2).f3)) := hcc20 3 _ rfl
             have hf20_0 : World.frozen? _ ⟨go20, (x24_2 : Int).toNat * 4, none⟩ = false := hfr20 0
             have hf20_1 : World.frozen? _ ⟨go20, (x24_2 : Int).toNat * 4 + 1, none⟩ = false := hfr20 1
             have hf20_2 : World.frozen? _ ⟨go20, (x24_2 : Int).toNat * 4 + 2, none⟩ = false := hfr20 2
             have hf20_3 : World.frozen? _ ⟨go20, (x24_2 : Int).toNat * 4 + 3, none⟩ = false := hfr20 3
             (try clear hcl20)
             (try clear hcc20)
             (try clear hfr20)
             (try clear hM20)
             replace p20 := eq_true p20
             replace q20 := eq_true q20
             obtain ⟨ce38, hcl38, hM38, hcc38, hfr38⟩ := Kd.R_elem HO_6.out z33 (x24_2 : Int) (of_decide_eq_true hE) (by have h_ : (x24_2 : Int) < ((x6_2.length : Int) : Int) := of_decide_eq_true hE; first | exact h_ | (have e_ := (Kd.R_reads' HO_6.out).1; omega) | simpa using h_)
             obtain rfl := k33_openM hM38
             have HP38 := (Kd.R_seg HO_6.out (x24_2 : Int) (of_decide_eq_true hE) (by have h_ : (x24_2 : Int) < ((x6_2.length : Int) : Int) := of_decide_eq_true hE; first | exact h_ | (have e_ := (Kd.R_reads' HO_6.out).1; omega) | simpa using h_) (seg := [.int .i64 (wrap64 (((rd_T33 x6_2 x24_2).f0) + (wrap64 (Int.tdiv (wrap64 (((rd_T33 x6_2 x24_2).f1) * a1)) ((rd_T33 x6_2 x24_2).f2)))))]) (j := 0) hcl38 hcc38 (show 1 ≤ 4 from by decide) (x' := (⟨wrap64 (((rd_T33 x6_2 x24_2).f0) + (wrap64 (Int.tdiv (wrap64 (((rd_T33 x6_2 x24_2).f1) * a1)) ((rd_T33 x6_2 x24_2).f2)))), (rd_T33 x6_2 x24_2).f1, (rd_T33 x6_2 x24_2).f2, (rd_T33 x6_2 x24_2).f3⟩ : S33)) (k33_mkM _ _ _ (⟨wrap64 (((rd_T33 x6_2 x24_2).f0) + (wrap64 (Int.tdiv (wrap64 (((rd_T33 x6_2 x24_2).f1) * a1)) ((rd_T33 x6_2 x24_2).f2)))), (rd_T33 x6_2 x24_2).f1, (rd_T33 x6_2 x24_2).f2, (rd_T33 x6_2 x24_2).f3⟩ : S33) ) (fun _ hk => hk)).1
             rw [← Ny357.out] at HP38
             have HQ38 := Aside0.mk HP38
             clear hcl38 hcc38 hfr38 hM38 HP38
             refine start_ (n := 22) (S := fun w' => w'.cell? ⟨go20, ((x24_2).toNat * 4), none⟩ = some (.int .i64 ((rd_T33 x6_2 x24_2).f0)) ∧ w'.cell? ⟨go20, ((x24_2).toNat * 4) + 1, none⟩ = some (.int .i64 ((rd_T33 x6_2 x24_2).f1)) ∧ w'.cell? ⟨go20, ((x24_2).toNat * 4) + 2, none⟩ = some (.int .i64 ((rd_T33 x6_2 x24_2).f2)) ∧ w'.cell? ⟨go20, ((x24_2).toNat * 4) + 3, none⟩ = some (.int .i64 ((rd_T33 x6_2 x24_2).f3)) ∧ w'.cell? ⟨go20, ((x24_2).toNat * 4), none⟩ = some (.int .i64 ((rd_T33 x6_2 x24_2).f0)) ∧ w'.cell? ⟨go20, ((x24_2).toNat * 4) + 1, none⟩ = some (.int .i64 ((rd_T33 x6_2 x24_2).f1)) ∧ w'.cell? ⟨go20, ((x24_2).toNat * 4) + 2, none⟩ = some (.int .i64 ((rd_T33 x6_2 x24_2).f2)) ∧ w'.cell? ⟨go20, ((x24_2).toNat * 4) + 3, none⟩ = some (.int .i64 ((rd_T33 x6_2 x24_2).f3)) ∧ w'.cell? ⟨go20, ((x24_2).toNat * 4), none⟩ = some (.int .i64 ((rd_T33 x6_2 x24_2).f0)) ∧ w'.cell? ⟨go20, ((x24_2).toNat * 4) + 1, none⟩ = some (.int .i64 ((rd_T33 x6_2 x24_2).f1)) ∧ w'.cell? ⟨go20, ((x24_2).toNat * 4) + 2, none⟩ = some (.int .i64 ((rd_T33 x6_2 x24_2).f2)) ∧ w'.cell? ⟨go20, ((x24_2).toNat * 4) + 3, none⟩ = some (.int .i64 ((rd_T33 x6_2 x24_2).f3))) (ds := [21]) #[false, false, false, false, false, false, false, false, false, false, false, false, false, false, false, false, false, false, false, false, false, false] (by kernel_rfl) rfl rfl ⟨hx354_0, hx354_1, hx354_2, hx354_3, hx355_0, hx355_1, hx355_2, hx355_3, hx356_0, hx356_1, hx356_2, hx356_3⟩ (fun hHeld => ?_); refine with_tabW spec_l10Move.tab8 spec_l10Move.bits8 (fun HT_ HW_ => ?_)
             generalize wr.drew = w37 at HO_6 HB GG20 HQ38 hf20_0 hf20_1 hf20_2 hf20_3 hx20_0 hx20_1 hx20_2 hx20_3 hx353_0 hx353_1 hx353_2 hx353_3 hx354_0 hx354_1 hx354_2 hx354_3 hx355_0 hx355_1 hx355_2 hx355_3 hx356_0 hx356_1 hx356_2 hx356_3 hHeld ⊢
             refine pureA 0 33 (bz 22 1) rfl rfl (any_of HT_.out (by kernel_rfl)) ?_
             refine pureA 1 34 (bz 22 3) rfl rfl (any_of HT_.out (by kernel_rfl)) ?_
             refine pureA 2 35 (bz 22 7) rfl rfl (any_of HT_.out (by kernel_rfl)) ?_
             refine pureA 3 36 (bz 22 15) rfl rfl (any_of HT_.out (by kernel_rfl)) ?_
             refine pureA 5 38 (bz 22 47) rfl rfl (any_of HT_.out (by kernel_rfl)) ?_
             refine pureA 6 39 (bz 22 111) rfl rfl (any_of HT_.out (by kernel_rfl)) ?_
             refine pureA 7 40 (bz 22 239) rfl rfl (any_of HT_.out (by kernel_rfl)) ?_
             refine pureA 8 41 (bz 22 495) rfl rfl (any_of HT_.out (by kernel_rfl)) ?_
             refine pureA 10 43 (bz 22 1519) rfl rfl (any_of HT_.out (by kernel_rfl)) ?_
             refine pureA 12 45 (bz 22 5615) rfl rfl (any_of HT_.out (by kernel_rfl)) ?_
             refine pureA 13 46 (bz 22 13807) rfl rfl (any_of HT_.out (by kernel_rfl)) ?_
             refine pureA 14 47 (bz 22 30191) rfl rfl (any_of HT_.out (by kernel_rfl)) ?_
             refine pureA 15 48 (bz 22 62959) rfl rfl (any_of HT_.out (by kernel_rfl)) ?_
             refine takeA 4 37 (bz 22 62975) rfl rfl (take_ofW HT_.out HW_.out (by kernel_rfl)) hHeld (by rintro w' ⟨s0, s1, s2, s3, s4, s5, s6, s7, s8, s9, s10, s11⟩; go_simp; with_reducible rfl) ?_
             refine takeA 9 42 (bz 22 63487) rfl rfl (take_ofW HT_.out HW_.out (by kernel_rfl)) hHeld (by rintro w' ⟨s0, s1, s2, s3, s4, s5, s6, s7, s8, s9, s10, s11⟩; go_simp; with_reducible rfl) ?_
             refine pureA 11 44 (bz 22 65535) rfl rfl (any_of HT_.out (by kernel_rfl)) ?_
             refine takeA 16 49 (bz 22 131071) rfl rfl (take_ofW HT_.out HW_.out (by kernel_rfl)) hHeld (by rintro w' ⟨s0, s1, s2, s3, s4, s5, s6, s7, s8, s9, s10, s11⟩; go_simp; with_reducible rfl) ?_
             refine pureA 17 50 (bz 22 262143) rfl rfl (any_of HT_.out (by kernel_rfl)) ?_
             refine pureA 18 51 (bz 22 524287) rfl rfl (any_of HT_.out (by kernel_rfl)) ?_
             refine pureA 19 52 (bz 22 1048575) rfl rfl (any_of HT_.out (by kernel_rfl)) ?_
             refine pureA 20 53 (bz 22 2097151) rfl rfl (any_of HT_.out (by kernel_rfl)) ?_
             refine last_ (i := 21) (N := none) (bz 22 4194303) rfl rfl (one_of HT_.out (by kernel_rfl)) (by decide) (fun K hK => ?_)
             refine skip_ (w1 := ?_) (by rfl) rfl ?_ ?_
             rotate_left
             ·go_simp
              rfl
             refine hK.out _ _ ?_
             clear hK K
             refine done_ (done_of HT_.out (by kernel_rfl)) ?_
             try go_wp2
             (try simp only [← hl6_2])
             go_roundg k2
             case measure => have := HJ2.out; have := HK2.out; omega
             case rel => exact ⟨(y357), (wrap64 (x24_2 + 1)), tE, H', ⟨by have := HJ2.out; have := HK2.out; omega⟩, ⟨by (try simp only [hl6_2]); (with_reducible repeat (first | apply Kd.R_alloc | apply Kd.R_drewN | apply Kd.R_drew)); exact HQ38.out⟩, ⟨by repeat (first | (with_reducible first | exact HB.out | apply below_alloc | apply pw_below_drewN | apply below_drew1 | refine below_set ?_ GB20.out) | exact HB.out)⟩⟩
          ·rw [if_neg c18] at H
           have c18b0 : decide (0 < ((rd_T33 x6_2 x24_2).f2)) = false := decide_eq_false c18
           clear c18
           have H' := Aside0.mk H
           clear H
           have p353 : 0 ≤ (x24_2 : Int) := of_decide_eq_true hE
           have q353 : x24_2 < (x6_2.length : Int) := of_decide_eq_true hE
           obtain ⟨ad353, e353, hx353_0, hx353_1, hx353_2, hx353_3⟩ := at_T33 (Kd.R_reads' HO_6.out).2.2 x24_2 p353 q353
           cases e353
           replace p353 := eq_true p353
           replace q353 := eq_true q353
           go_wp2
           (try simp only [← hl6_2])
           go_roundg k2
           case measure => have := HJ2.out; have := HK2.out; omega
           case rel => exact ⟨(x6_2), (wrap64 (x24_2 + 1)), tE, H', ⟨by have := HJ2.out; have := HK2.out; omega⟩, ⟨by (try simp only [hl6_2]); (with_reducible repeat (first | apply Kd.R_alloc | apply Kd.R_drewN | apply Kd.R_drew)); exact HO_6.out⟩, ⟨by repeat (first | (with_reducible first | exact HB.out | apply below_alloc | apply pw_below_drewN | apply below_drew1) | exact HB.out)⟩⟩
         ·rw [if_neg c17] at H
          exact absurd H (by simp)
        ·rw [if_neg c16] at H
         exact absurd H (by simp)
       ·rw [if_neg c15] at H
        have c15b0 : decide (x24_2 < (y350.length : Int)) = false := decide_eq_false c15
        try have c15b0hl6_2 : decide (x24_2 < (x6_2.length : Int)) = false := by rw [← hl6_2]; exact c15b0
        clear c15
        have H' := Aside0.mk H
        clear H
        go_wp2
        go_loopg [9] k2 (fun kq v9 w' => ∃ (x6_3 : List (S33)) (x9_3 : Int), v9 = .int .i64 x9_3 ∧ Aside0 (spec_l10Move.l1 kq x6_3 x9_3 = some (r1, r2)) ∧ Aside0 (kq ≤ k2) ∧ Aside0 (Kd.R k33 33 w' w.heap.size (fun _ => True) (.slice Ao14 x6_2.length co14) x6_3) ∧ Aside0 (Below w.heap.size w w'))
        case atStart => exact ⟨(x6_2), (wrap64 ((x6_2.length : Int) - 2)), tE, H', ⟨Nat.le_refl _⟩, ⟨by (try simp only [hl6_2]); (with_reducible repeat (first | apply Kd.R_alloc | apply Kd.R_drewN | apply Kd.R_drew)); exact HO_6.out⟩, ⟨by repeat (first | (with_reducible first | exact HB.out | apply below_alloc | apply pw_below_drewN | apply below_drew1) | exact HB.out)⟩⟩
        case round =>
         clear H'
         try clear c15; try clear c15b0
         obtain ⟨x6_3, x9_3, rfl, HA, HK3, HO_6, HB⟩ := hrel
         have hl6_3 := (Kd.R_reads' HO_6.out).1
         rw [hl6_3] at HO_6
         (try simp only [hl6_3])
         cases gk with
         | zero => exact absurd HA.out (by simp [spec_l10Move.l1])
         | succ k3 =>
          have H := HA.out
          clear HA
          simp only [spec_l10Move.l1] at H
          by_cases c39 : x9_3 ≥ 0
          ·rw [if_pos c39] at H
           have c39b0 : decide (0 ≤ x9_3) = true := decide_eq_true c39
           clear c39
           obtain ⟨ji40, hji40⟩ : ∃ j_ : Int, (wrap64 (x9_3 + 1)) = j_ := ⟨_, rfl⟩
           replace H : (if 0 ≤ (ji40) then (if (ji40) < (x6_3.length : Int) then (if 0 ≤ x9_3 then (if x9_3 < (x6_3.length : Int) then (if ((rd_T33 x6_3 x9_3).f2) > 0 then (if ((rd_T33 x6_3 x9_3).f0) > (wrap64 ((wrap64 (((rd_T33 x6_3 (ji40)).f0) - ((rd_T33 x6_3 (ji40)).f3))) - ((rd_T33 x6_3 x9_3).f3))) then (spec_l10Move.l1 k3 (x6_3.set (x9_3 : Int).toNat (⟨wrap64 ((wrap64 (((rd_T33 x6_3 (ji40)).f0) - ((rd_T33 x6_3 (ji40)).f3))) - ((rd_T33 x6_3 x9_3).f3)), (rd_T33 x6_3 x9_3).f1, (rd_T33 x6_3 x9_3).f2, (rd_T33 x6_3 x9_3).f3⟩ : S33)) (wrap64 (x9_3 - 1))) else (spec_l10Move.l1 k3 x6_3 (wrap64 (x9_3 - 1)))) else (spec_l10Move.l1 k3 x6_3 (wrap64 (x9_3 - 1)))) else (none)) else (none)) else (none)) else (none)) = some (r1, r2) := by first | (rw [hji40] at H; exact H) | (simp only [hji40] at H ⊢; exact H)
           have hji40w : (IntKind.i64.wrap (x9_3 + 1)) = ji40 := (i64_w _).trans hji40
           by_cases c41 : 0 ≤ (ji40)
           ·rw [if_pos c41] at H
            have c41b0 : decide (0 ≤ (ji40)) = true := decide_eq_true c41
            clear c41
            by_cases c42 : (ji40) < (x6_3.length : Int)
            ·rw [if_pos c42] at H
             have c42b0 : decide ((ji40) < (x6_3.length : Int)) = true := decide_eq_true c42
             clear c42
             by_cases c43 : 0 ≤ x9_3
             ·rw [if_pos c43] at H
              have c43b0 : decide (0 ≤ x9_3) = true := decide_eq_true c43
              clear c43
              by_cases c44 : x9_3 < (x6_3.length : Int)
              ·rw [if_pos c44] at H
               have c44b0 : decide (x9_3 < (x6_3.length : Int)) = true := decide_eq_true c44
               clear c44
               by_cases c45 : ((rd_T33 x6_3 x9_3).f2) > 0
               ·rw [if_pos c45] at H
                have c45b0 : decide (0 < ((rd_T33 x6_3 x9_3).f2)) = true := decide_eq_true c45
                clear c45
                by_cases c46 : ((rd_T33 x6_3 x9_3).f0) > (wrap64 ((wrap64 (((rd_T33 x6_3 (ji40)).f0) - ((rd_T33 x6_3 (ji40)).f3))) - ((rd_T33 x6_3 x9_3).f3)))
                ·rw [if_pos c46] at H
                 have c46b0 : decide ((wrap64 ((wrap64 (((rd_T33 x6_3 (ji40)).f0) - ((rd_T33 x6_3 (ji40)).f3))) - ((rd_T33 x6_3 x9_3).f3))) < ((rd_T33 x6_3 x9_3).f0)) = true := decide_eq_true c46
                 clear c46
                 obtain ⟨y368, hy368⟩ : ∃ y_ : List (S33), y_ = (x6_3.set (x9_3 : Int).toNat (⟨wrap64 ((wrap64 (((rd_T33 x6_3 (ji40)).f0) - ((rd_T33 x6_3 (ji40)).f3))) - ((rd_T33 x6_3 x9_3).f3)), (rd_T33 x6_3 x9_3).f1, (rd_T33 x6_3 x9_3).f2, (rd_T33 x6_3 x9_3).f3⟩ : S33)) := ⟨_, rfl⟩
                 replace H : (spec_l10Move.l1 k3 y368 (wrap64 (x9_3 - 1))) = some (r1, r2) := by first | (rw [hy368]; with_reducible exact H) | (have H2_ := (Option.bind_some _ _).symm.trans H; rw [hy368]; with_reducible exact H2_) | (have H2_ := (Option.bind_some _ _).symm.trans H; with_reducible exact H2_) | with_reducible exact H | (rw [hy368]; exact H) | exact H
                 have Ny368 := Aside0.mk hy368
                 clear hy368
                 have H' := Aside0.mk H
                 clear H
                 try go_wp2
                 replace HO_6 := Aside0.mk (Kd.R_drew HO_6.out)
                 replace HB := Aside0.mk (below_drew1 HB.out)
                 have p363 : 0 ≤ ((ji40) : Int) := of_decide_eq_true hE
                 have q363 : (ji40) < (x6_3.length : Int) := of_decide_eq_true hE
                 obtain ⟨ad363, e363, hx363_0, hx363_1, hx363_2, hx363_3⟩ := at_T33 (Kd.R_reads' HO_6.out).2.2 (ji40) p363 q363
                 cases e363
                 replace p363 := eq_true p363
                 replace q363 := eq_true q363
                 have p364 : 0 ≤ ((ji40) : Int) := of_decide_eq_true hE
                 have q364 : (ji40) < (x6_3.length : Int) := of_decide_eq_true hE
                 obtain ⟨ad364, e364, hx364_0, hx364_1, hx364_2, hx364_3⟩ := at_T33 (Kd.R_reads' HO_6.out).2.2 (ji40) p364 q364
                 obtain rfl : ad363 = ad364 := (by injection e364)
                 replace p364 := eq_true p364
                 replace q364 := eq_true q364
                 have p365 : 0 ≤ (x9_3 : Int) := of_decide_eq_true hE
                 have q365 : x9_3 < (x6_3.length : Int) := of_decide_eq_true hE
                 obtain ⟨ad365, e365, hx365_0, hx365_1, hx365_2, hx365_3⟩ := at_T33 (Kd.R_reads' HO_6.out).2.2 x9_3 p365 q365
                 obtain rfl : ad363 = ad365 := (by injection e365)
                 replace p365 := eq_true p365
                 replace q365 := eq_true q365
                 refine start_ (n := 20) (S := fun w' => w'.cell? (ad363.add (((ji40)).toNat * 4)) = some (.int .i64 ((rd_T33 x6_3 (ji40)).f0)) ∧ w'.cell? ⟨(ad363.add (((ji40)).toNat * 4)).block, (ad363.add (((ji40)).toNat * 4)).off + 1, none⟩ = some (.int .i64 ((rd_T33 x6_3 (ji40)).f1)) ∧ w'.cell? ⟨(ad363.add (((ji40)).toNat * 4)).block, (ad363.add (((ji40)).toNat * 4)).off + 2, none⟩ = some (.int .i64 ((rd_T33 x6_3 (ji40)).f2)) ∧ w'.cell? ⟨(ad363.add (((ji40)).toNat * 4)).block, (ad363.add (((ji40)).toNat * 4)).off + 3, none⟩ = some (.int .i64 ((rd_T33 x6_3 (ji40)).f3)) ∧ w'.cell? (ad363.add (((ji40)).toNat * 4)) = some (.int .i64 ((rd_T33 x6_3 (ji40)).f0)) ∧ w'.cell? ⟨(ad363.add (((ji40)).toNat * 4)).block, (ad363.add (((ji40)).toNat * 4)).off + 1, none⟩ = some (.int .i64 ((rd_T33 x6_3 (ji40)).f1)) ∧ w'.cell? ⟨(ad363.add (((ji40)).toNat * 4)).block, (ad363.add (((ji40)).toNat * 4)).off + 2, none⟩ = some (.int .i64 ((rd_T33 x6_3 (ji40)).f2)) ∧ w'.cell? ⟨(ad363.add (((ji40)).toNat * 4)).block, (ad363.add (((ji40)).toNat * 4)).off + 3, none⟩ = some (.int .i64 ((rd_T33 x6_3 (ji40)).f3)) ∧ w'.cell? (ad363.add ((x9_3).toNat * 4)) = some (.int .i64 ((rd_T33 x6_3 x9_3).f0)) ∧ w'.cell? ⟨(ad363.add ((x9_3).toNat * 4)).block, (ad363.add ((x9_3).toNat * 4)).off + 1, none⟩ = some (.int .i64 ((rd_T33 x6_3 x9_3).f1)) ∧ w'.cell? ⟨(ad363.add ((x9_3).toNat * 4)).block, (ad363.add ((x9_3).toNat * 4)).off + 2, none⟩ = some (.int .i64 ((rd_T33 x6_3 x9_3).f2)) ∧ w'.cell? ⟨(ad363.add ((x9_3).toNat * 4)).block, (ad363.add ((x9_3).toNat * 4)).off + 3, none⟩ = some (.int .i64 ((rd_T33 x6_3 x9_3).f3))) (ds := []) #[false, false, false, false, false, false, false, false, false, false, false, false, false, false, false, false, false, false, false, false] (by kernel_rfl) rfl rfl ⟨hx363_0, hx363_1, hx363_2, hx363_3, hx364_0, hx364_1, hx364_2, hx364_3, hx365_0, hx365_1, hx365_2, hx365_3⟩ (fun hHeld => ?_); refine with_tabW spec_l10Move.tab17 spec_l10Move.bits17 (fun HT_ HW_ => ?_)
                 generalize wr.drew = w48 at HO_6 HB hx363_0 hx363_1 hx363_2 hx363_3 hx364_0 hx364_1 hx364_2 hx364_3 hx365_0 hx365_1 hx365_2 hx365_3 hHeld ⊢
                 refine pureA 0 95 (bz 20 1) rfl rfl (any_of HT_.out (by kernel_rfl)) ?_
                 refine pureA 1 96 (bz 20 3) rfl rfl (any_of HT_.out (by kernel_rfl)) ?_
                 refine pureA 2 97 (bz 20 7) rfl rfl (any_of HT_.out (by kernel_rfl)) ?_
                 refine pureA 3 98 (bz 20 15) rfl rfl (any_of HT_.out (by kernel_rfl)) ?_
                 refine pureA 4 99 (bz 20 31) rfl rfl (any_of HT_.out (by kernel_rfl)) ?_
                 refine pureA 6 101 (bz 20 95) rfl rfl (any_of HT_.out (by kernel_rfl)) ?_
                 refine pureA 7 102 (bz 20 223) rfl rfl (any_of HT_.out (by kernel_rfl)) ?_
                 refine pureA 8 103 (bz 20 479) rfl rfl (any_of HT_.out (by kernel_rfl)) ?_
                 refine pureA 9 104 (bz 20 991) rfl rfl (any_of HT_.out (by kernel_rfl)) ?_
                 refine pureA 10 105 (bz 20 2015) rfl rfl (any_of HT_.out (by kernel_rfl)) ?_
                 refine pureA 13 108 (bz 20 10207) rfl rfl (any_of HT_.out (by kernel_rfl)) ?_
                 refine pureA 14 109 (bz 20 26591) rfl rfl (any_of HT_.out (by kernel_rfl)) ?_
                 refine pureA 15 110 (bz 20 59359) rfl rfl (any_of HT_.out (by kernel_rfl)) ?_
                 refine pureA 16 111 (bz 20 124895) rfl rfl (any_of HT_.out (by kernel_rfl)) ?_
                 refine takeA 5 100 (bz 20 124927) rfl rfl (take_ofW HT_.out HW_.out (by kernel_rfl)) hHeld (by rintro w' ⟨s0, s1, s2, s3, s4, s5, s6, s7, s8, s9, s10, s11⟩; go_simp; with_reducible rfl) ?_
                 refine takeA 11 106 (bz 20 126975) rfl rfl (take_ofW HT_.out HW_.out (by kernel_rfl)) hHeld (by rintro w' ⟨s0, s1, s2, s3, s4, s5, s6, s7, s8, s9, s10, s11⟩; go_simp; with_reducible rfl) ?_
                 refine pureA 12 107 (bz 20 131071) rfl rfl (any_of HT_.out (by kernel_rfl)) ?_
                 refine takeA 17 112 (bz 20 262143) rfl rfl (take_ofW HT_.out HW_.out (by kernel_rfl)) hHeld (by rintro w' ⟨s0, s1, s2, s3, s4, s5, s6, s7, s8, s9, s10, s11⟩; go_simp; with_reducible rfl) ?_
                 refine pureA 18 113 (bz 20 524287) rfl rfl (any_of HT_.out (by kernel_rfl)) ?_
                 refine pureA 19 10 (bz 20 1048575) rfl rfl (any_of HT_.out (by kernel_rfl)) ?_
                 refine done_ (done_of HT_.out (by kernel_rfl)) ?_
                 have p366 : 0 ≤ (x9_3 : Int) := of_decide_eq_true hE
                 have q366 : x9_3 < (x6_3.length : Int) := of_decide_eq_true hE
                 obtain ⟨ad366, e366, hx366_0, hx366_1, hx366_2, hx366_3⟩ := at_T33 (Kd.R_reads' HO_6.out).2.2 x9_3 p366 q366
                 obtain rfl : ad363 = ad366 := (by injection e366)
                 replace p366 := eq_true p366
                 replace q366 := eq_true q366
                 have p367 : 0 ≤ (x9_3 : Int) := of_decide_eq_true hE
                 have q367 : x9_3 < (x6_3.length : Int) := of_decide_eq_true hE
                 obtain ⟨ad367, e367, hx367_0, hx367_1, hx367_2, hx367_3⟩ := at_T33 (Kd.R_reads' HO_6.out).2.2 x9_3 p367 q367
                 obtain rfl : ad363 = ad367 := (by injection e367)
                 replace p367 := eq_true p367
                 replace q367 := eq_true q367
                 have p47 : 0 ≤ (x9_3 : Int) := of_decide_eq_true hE
                 have q47 : (x9_3 : Int) < ((x6_3.length : Int) : Int) := of_decide_eq_true hE
                 obtain ⟨go47, co47, eo47, gb47, gl47, cl47, HG47⟩ := Kd.R_form HO_6.out (by omega)
                 (first | cases eo47 | (injection eo47 with ea_ en_ ec_; (first | subst ea_ | (injection ea_ with ea_; subst ea_)); subst ec_; clear en_))
                 have GB47 := Aside0.mk gb47
                 have GG47 := Aside0.mk HG47
                 clear gb47 gl47 HG47
                 (first | simp only [add_plain] at hx363_0 | skip)
                 (first | simp only [add_plain] at hx363_1 | skip)
                 (first | simp only [add_plain] at hx363_2 | skip)
                 (first | simp only [add_plain] at hx363_3 | skip)
                 (first | simp only [add_plain] at hx364_0 | skip)
                 (first | simp only [add_plain] at hx364_1 | skip)
                 (first | simp only [add_plain] at hx364_2 | skip)
                 (first | simp only [add_plain] at hx364_3 | skip)
                 (first | simp only [add_plain] at hx365_0 | skip)
                 (first | simp only [add_plain] at hx365_1 | skip)
                 (first | simp only [add_plain] at hx365_2 | skip)
                 (first | simp only [add_plain] at hx365_3 | skip)
                 (first | simp only [add_plain] at hx366_0 | skip)
                 (first | simp only [add_plain] at hx366_1 | skip)
                 (first | simp only [add_plain] at hx366_2 | skip)
                 (first | simp only [add_plain] at hx366_3 | skip)
                 (first | simp only [add_plain] at hx367_0 | skip)
                 (first | simp only [add_plain] at hx367_1 | skip)
                 (first | simp only [add_plain] at hx367_2 | skip)
                 (first | simp only [add_plain] at hx367_3 | skip)
                 obtain ⟨ce47, hcl47, hM47, hcc47, hfr47⟩ := Kd.R_elem HO_6.out z33 (x9_3 : Int) p47 q47
                 obtain rfl := k33_openM hM47
                 have hx47_0 : w48.cell? ⟨go47, (x9_3 : Int).toNat * 4, none⟩ = some (.int .i64 ((rd_T33 x6_3 x9_3).f0)) := hcc47 0 _ rfl
                 have hx47_1 : w48.cell? ⟨go47, (x9_3 : Int).toNat * 4 + 1, none⟩ = some (.int .i64 ((rd_T33 x6_3 x9_3).f1)) := hcc47 1 _ rfl
                 have hx47_2 : w48.cell? ⟨go47, (x9_3 : Int).toNat * 4 + 2, none⟩ = some (.int .i64 ((rd_T33 x6_3 x9_3).f2)) := hcc47 2 _ rfl
                 have hx47_3 : w48.cell? ⟨go47, (x9_3 : Int).toNat * 4 + 3, none⟩ = some (.int .i64 ((rd_T33 x6_3 x9_3).f3)) := hcc47 3 _ rfl
                 have hf47_0 : w48.frozen? ⟨go47, (x9_3 : Int).toNat * 4, none⟩ = false := hfr47 0
                 have hf47_1 : w48.frozen? ⟨go47, (x9_3 : Int).toNat * 4 + 1, none⟩ = false := hfr47 1
                 have hf47_2 : w48.frozen? ⟨go47, (x9_3 : Int).toNat * 4 + 2, none⟩ = false := hfr47 2
                 have hf47_3 : w48.frozen? ⟨go47, (x9_3 : Int).toNat * 4 + 3, none⟩ = false := hfr47 3
                 (try clear hcl47)
                 (try clear hcc47)
                 (try clear hfr47)
                 (try clear hM47)
                 replace p47 := eq_true p47
                 replace q47 := eq_true q47
                 have HX49 := Aside0.mk (show Kd.R k33 33 w48 w.heap.size (fun _ => True) (.slice (some ⟨go47, 0, none⟩) x6_3.length co14) x6_3 from (rU HO_6.out))
                 obtain ⟨ce49, hcl49, hM49, hcc49, hfr49⟩ := Kd.R_elem HX49.out z33 (x9_3 : Int) (of_decide_eq_true hE) (by have h_ : (x9_3 : Int) < ((x6_3.length : Int) : Int) := of_decide_eq_true hE; first | exact h_ | (have e_ := (Kd.R_reads' HO_6.out).1; omega) | simpa using h_)
                 obtain rfl := k33_openM hM49
                 have HP49 := Kd.R_seg HX49.out (x9_3 : Int) (of_decide_eq_true hE) (by have h_ : (x9_3 : Int) < ((x6_3.length : Int) : Int) := of_decide_eq_true hE; first | exact h_ | (have e_ := (Kd.R_reads' HO_6.out).1; omega) | simpa using h_) (seg := [.int .i64 (wrap64 ((wrap64 (((rd_T33 x6_3 (ji40)).f0) - ((rd_T33 x6_3 (ji40)).f3))) - ((rd_T33 x6_3 x9_3).f3)))]) (j := 0) hcl49 hcc49 (show 1 ≤ 4 from by decide) (x' := (⟨wrap64 ((wrap64 (((rd_T33 x6_3 (ji40)).f0) - ((rd_T33 x6_3 (ji40)).f3))) - ((rd_T33 x6_3 x9_3).f3)), (rd_T33 x6_3 x9_3).f1, (rd_T33 x6_3 x9_3).f2, (rd_T33 x6_3 x9_3).f3⟩ : S33)) (k33_mkM _ _ _ (⟨wrap64 ((wrap64 (((rd_T33 x6_3 (ji40)).f0) - ((rd_T33 x6_3 (ji40)).f3))) - ((rd_T33 x6_3 x9_3).f3)), (rd_T33 x6_3 x9_3).f1, (rd_T33 x6_3 x9_3).f2, (rd_T33 x6_3 x9_3).f3⟩ : S33) ) (fun _ hk => hk)
                 have hx49_0 := hcc49 0 _ rfl
                 (try simp only [show (k33).sz = 4 from rfl, Nat.mul_one, Nat.add_zero] at hx49_0)
                 have hf49_0 := hfr49 0
                 (try simp only [show (k33).sz = 4 from rfl, Nat.mul_one, Nat.add_zero] at hf49_0)
                 (try clear hcl49)
                 (try clear hcc49)
                 (try clear hfr49)
                 (try clear hM49)
                 try go_wp2_with (first | ((with_reducible refine gate_store (t := 3) (p := 133) rfl ?_); refine store_event (t := 3) (p := 133) (v := ?vo_w50) (w1 := (w48.setCell ⟨go47, (x9_3 : Int).toNat * 4, none⟩ (.int .i64 (wrap64 ((wrap64 (((rd_T33 x6_3 (ji40)).f0) - ((rd_T33 x6_3 (ji40)).f3))) - ((rd_T33 x6_3 x9_3).f3)))))) ?hg ?ho ?hn ?hr ?_; (case ho => rfl); (case hg => rfl); (case hn => rfl); (case hr => exact sE); intro w50 hw; have hg : w48.grownBy w50 (some go47) := (by rw [hw]; exact HP49.2); have hp_ : Kd.R k33 33 w50 w.heap.size (fun _ => True) (.slice (some ⟨go47, 0, none⟩) x6_3.length co14) y368 := (by rw [hw, Ny368.out]; exact HP49.1); clear HP49; replace HO_6 := Aside0.mk hp_; replace HB := Aside0.mk ((by rw [hw]; exact below_set (HB.out) GB47.out : Below w.heap.size w w50)); clear hg hw hp_))
                 (try simp only [← hl6_3])
                 go_roundg k3
                 case measure => have := HJ2.out; have := HK2.out; have := HK3.out; omega
                 case rel => exact ⟨(y368), (wrap64 (x9_3 - 1)), tE, H', ⟨by have := HJ2.out; have := HK2.out; have := HK3.out; omega⟩, ⟨by (try simp only [hl6_2]); (try simp only [hl6_3]); (with_reducible repeat (first | apply Kd.R_alloc | apply Kd.R_drewN | apply Kd.R_drew)); exact HO_6.out⟩, ⟨by repeat (first | (with_reducible first | exact HB.out | apply below_alloc | apply pw_below_drewN | apply below_drew1) | exact HB.out)⟩⟩
                ·rw [if_neg c46] at H
                 have c46b0 : decide ((wrap64 ((wrap64 (((rd_T33 x6_3 (ji40)).f0) - ((rd_T33 x6_3 (ji40)).f3))) - ((rd_T33 x6_3 x9_3).f3))) < ((rd_T33 x6_3 x9_3).f0)) = false := decide_eq_false c46
                 clear c46
                 have H' := Aside0.mk H
                 clear H
                 try go_wp2
                 replace HO_6 := Aside0.mk (Kd.R_drew HO_6.out)
                 replace HB := Aside0.mk (below_drew1 HB.out)
                 have p363 : 0 ≤ ((ji40) : Int) := of_decide_eq_true hE
                 have q363 : (ji40) < (x6_3.length : Int) := of_decide_eq_true hE
                 obtain ⟨ad363, e363, hx363_0, hx363_1, hx363_2, hx363_3⟩ := at_T33 (Kd.R_reads' HO_6.out).2.2 (ji40) p363 q363
                 cases e363
                 replace p363 := eq_true p363
                 replace q363 := eq_true q363
                 have p364 : 0 ≤ ((ji40) : Int) := of_decide_eq_true hE
                 have q364 : (ji40) < (x6_3.length : Int) := of_decide_eq_true hE
                 obtain ⟨ad364, e364, hx364_0, hx364_1, hx364_2, hx364_3⟩ := at_T33 (Kd.R_reads' HO_6.out).2.2 (ji40) p364 q364
                 obtain rfl : ad363 = ad364 := (by injection e364)
                 replace p364 := eq_true p364
                 replace q364 := eq_true q364
                 have p365 : 0 ≤ (x9_3 : Int) := of_decide_eq_true hE
                 have q365 : x9_3 < (x6_3.length : Int) := of_decide_eq_true hE
                 obtain ⟨ad365, e365, hx365_0, hx365_1, hx365_2, hx365_3⟩ := at_T33 (Kd.R_reads' HO_6.out).2.2 x9_3 p365 q365
                 obtain rfl : ad363 = ad365 := (by injection e365)
                 replace p365 := eq_true p365
                 replace q365 := eq_true q365
                 refine start_ (n := 20) (S := fun w' => w'.cell? (ad363.add (((ji40)).toNat * 4)) = some (.int .i64 ((rd_T33 x6_3 (ji40)).f0)) ∧ w'.cell? ⟨(ad363.add (((ji40)).toNat * 4)).block, (ad363.add (((ji40)).toNat * 4)).off + 1, none⟩ = some (.int .i64 ((rd_T33 x6_3 (ji40)).f1)) ∧ w'.cell? ⟨(ad363.add (((ji40)).toNat * 4)).block, (ad363.add (((ji40)).toNat * 4)).off + 2, none⟩ = some (.int .i64 ((rd_T33 x6_3 (ji40)).f2)) ∧ w'.cell? ⟨(ad363.add (((ji40)).toNat * 4)).block, (ad363.add (((ji40)).toNat * 4)).off + 3, none⟩ = some (.int .i64 ((rd_T33 x6_3 (ji40)).f3)) ∧ w'.cell? (ad363.add (((ji40)).toNat * 4)) = some (.int .i64 ((rd_T33 x6_3 (ji40)).f0)) ∧ w'.cell? ⟨(ad363.add (((ji40)).toNat * 4)).block, (ad363.add (((ji40)).toNat * 4)).off + 1, none⟩ = some (.int .i64 ((rd_T33 x6_3 (ji40)).f1)) ∧ w'.cell? ⟨(ad363.add (((ji40)).toNat * 4)).block, (ad363.add (((ji40)).toNat * 4)).off + 2, none⟩ = some (.int .i64 ((rd_T33 x6_3 (ji40)).f2)) ∧ w'.cell? ⟨(ad363.add (((ji40)).toNat * 4)).block, (ad363.add (((ji40)).toNat * 4)).off + 3, none⟩ = some (.int .i64 ((rd_T33 x6_3 (ji40)).f3)) ∧ w'.cell? (ad363.add ((x9_3).toNat * 4)) = some (.int .i64 ((rd_T33 x6_3 x9_3).f0)) ∧ w'.cell? ⟨(ad363.add ((x9_3).toNat * 4)).block, (ad363.add ((x9_3).toNat * 4)).off + 1, none⟩ = some (.int .i64 ((rd_T33 x6_3 x9_3).f1)) ∧ w'.cell? ⟨(ad363.add ((x9_3).toNat * 4)).block, (ad363.add ((x9_3).toNat * 4)).off + 2, none⟩ = some (.int .i64 ((rd_T33 x6_3 x9_3).f2)) ∧ w'.cell? ⟨(ad363.add ((x9_3).toNat * 4)).block, (ad363.add ((x9_3).toNat * 4)).off + 3, none⟩ = some (.int .i64 ((rd_T33 x6_3 x9_3).f3))) (ds := []) #[false, false, false, false, false, false, false, false, false, false, false, false, false, false, false, false, false, false, false, false] (by kernel_rfl) rfl rfl ⟨hx363_0, hx363_1, hx363_2, hx363_3, hx364_0, hx364_1, hx364_2, hx364_3, hx365_0, hx365_1, hx365_2, hx365_3⟩ (fun hHeld => ?_); refine with_tabW spec_l10Move.tab17 spec_l10Move.bits17 (fun HT_ HW_ => ?_)
                 generalize wr.drew = w51 at HO_6 HB hx363_0 hx363_1 hx363_2 hx363_3 hx364_0 hx364_1 hx364_2 hx364_3 hx365_0 hx365_1 hx365_2 hx365_3 hHeld ⊢
                 refine pureA 0 95 (bz 20 1) rfl rfl (any_of HT_.out (by kernel_rfl)) ?_
                 refine pureA 1 96 (bz 20 3) rfl rfl (any_of HT_.out (by kernel_rfl)) ?_
                 refine pureA 2 97 (bz 20 7) rfl rfl (any_of HT_.out (by kernel_rfl)) ?_
                 refine pureA 3 98 (bz 20 15) rfl rfl (any_of HT_.out (by kernel_rfl)) ?_
                 refine pureA 4 99 (bz 20 31) rfl rfl (any_of HT_.out (by kernel_rfl)) ?_
                 refine pureA 6 101 (bz 20 95) rfl rfl (any_of HT_.out (by kernel_rfl)) ?_
                 refine pureA 7 102 (bz 20 223) rfl rfl (any_of HT_.out (by kernel_rfl)) ?_
                 refine pureA 8 103 (bz 20 479) rfl rfl (any_of HT_.out (by kernel_rfl)) ?_
                 refine pureA 9 104 (bz 20 991) rfl rfl (any_of HT_.out (by kernel_rfl)) ?_
                 refine pureA 10 105 (bz 20 2015) rfl rfl (any_of HT_.out (by kernel_rfl)) ?_
                 refine pureA 13 108 (bz 20 10207) rfl rfl (any_of HT_.out (by kernel_rfl)) ?_
                 refine pureA 14 109 (bz 20 26591) rfl rfl (any_of HT_.out (by kernel_rfl)) ?_
                 refine pureA 15 110 (bz 20 59359) rfl rfl (any_of HT_.out (by kernel_rfl)) ?_
                 refine pureA 16 111 (bz 20 124895) rfl rfl (any_of HT_.out (by kernel_rfl)) ?_
                 refine takeA 5 100 (bz 20 124927) rfl rfl (take_ofW HT_.out HW_.out (by kernel_rfl)) hHeld (by rintro w' ⟨s0, s1, s2, s3, s4, s5, s6, s7, s8, s9, s10, s11⟩; go_simp; with_reducible rfl) ?_
                 refine takeA 11 106 (bz 20 126975) rfl rfl (take_ofW HT_.out HW_.out (by kernel_rfl)) hHeld (by rintro w' ⟨s0, s1, s2, s3, s4, s5, s6, s7, s8, s9, s10, s11⟩; go_simp; with_reducible rfl) ?_
                 refine pureA 12 107 (bz 20 131071) rfl rfl (any_of HT_.out (by kernel_rfl)) ?_
                 refine takeA 17 112 (bz 20 262143) rfl rfl (take_ofW HT_.out HW_.out (by kernel_rfl)) hHeld (by rintro w' ⟨s0, s1, s2, s3, s4, s5, s6, s7, s8, s9, s10, s11⟩; go_simp; with_reducible rfl) ?_
                 refine pureA 18 113 (bz 20 524287) rfl rfl (any_of HT_.out (by kernel_rfl)) ?_
                 refine pureA 19 10 (bz 20 1048575) rfl rfl (any_of HT_.out (by kernel_rfl)) ?_
                 refine done_ (done_of HT_.out (by kernel_rfl)) ?_
                 have p366 : 0 ≤ (x9_3 : Int) := of_decide_eq_true hE
                 have q366 : x9_3 < (x6_3.length : Int) := of_decide_eq_true hE
                 obtain ⟨ad366, e366, hx366_0, hx366_1, hx366_2, hx366_3⟩ := at_T33 (Kd.R_reads' HO_6.out).2.2 x9_3 p366 q366
                 obtain rfl : ad363 = ad366 := (by injection e366)
                 replace p366 := eq_true p366
                 replace q366 := eq_true q366
                 have p367 : 0 ≤ (x9_3 : Int) := of_decide_eq_true hE
                 have q367 : x9_3 < (x6_3.length : Int) := of_decide_eq_true hE
                 obtain ⟨ad367, e367, hx367_0, hx367_1, hx367_2, hx367_3⟩ := at_T33 (Kd.R_reads' HO_6.out).2.2 x9_3 p367 q367
                 obtain rfl : ad363 = ad367 := (by injection e367)
                 replace p367 := eq_true p367
                 replace q367 := eq_true q367
                 try go_wp2
                 (try simp only [← hl6_3])
                 go_roundg k3
                 case measure => have := HJ2.out; have := HK2.out; have := HK3.out; omega
                 case rel => exact ⟨(x6_3), (wrap64 (x9_3 - 1)), tE, H', ⟨by have := HJ2.out; have := HK2.out; have := HK3.out; omega⟩, ⟨by (try simp only [hl6_2]); (try simp only [hl6_3]); (with_reducible repeat (first | apply Kd.R_alloc | apply Kd.R_drewN | apply Kd.R_drew)); exact HO_6.out⟩, ⟨by repeat (first | (with_reducible first | exact HB.out | apply below_alloc | apply pw_below_drewN | apply below_drew1) | exact HB.out)⟩⟩
               ·rw [if_neg c45] at H
                have c45b0 : decide (0 < ((rd_T33 x6_3 x9_3).f2)) = false := decide_eq_false c45
                clear c45
                have H' := Aside0.mk H
                clear H
                try go_wp2
                replace HO_6 := Aside0.mk (Kd.R_drew HO_6.out)
                replace HB := Aside0.mk (below_drew1 HB.out)
                have p363 : 0 ≤ ((ji40) : Int) := of_decide_eq_true hE
                have q363 : (ji40) < (x6_3.length : Int) := of_decide_eq_true hE
                obtain ⟨ad363, e363, hx363_0, hx363_1, hx363_2, hx363_3⟩ := at_T33 (Kd.R_reads' HO_6.out).2.2 (ji40) p363 q363
                cases e363
                replace p363 := eq_true p363
                replace q363 := eq_true q363
                have p364 : 0 ≤ ((ji40) : Int) := of_decide_eq_true hE
                have q364 : (ji40) < (x6_3.length : Int) := of_decide_eq_true hE
                obtain ⟨ad364, e364, hx364_0, hx364_1, hx364_2, hx364_3⟩ := at_T33 (Kd.R_reads' HO_6.out).2.2 (ji40) p364 q364
                obtain rfl : ad363 = ad364 := (by injection e364)
                replace p364 := eq_true p364
                replace q364 := eq_true q364
                have p365 : 0 ≤ (x9_3 : Int) := of_decide_eq_true hE
                have q365 : x9_3 < (x6_3.length : Int) := of_decide_eq_true hE
                obtain ⟨ad365, e365, hx365_0, hx365_1, hx365_2, hx365_3⟩ := at_T33 (Kd.R_reads' HO_6.out).2.2 x9_3 p365 q365
                obtain rfl : ad363 = ad365 := (by injection e365)
                replace p365 := eq_true p365
                replace q365 := eq_true q365
                refine start_ (n := 20) (S := fun w' => w'.cell? (ad363.add (((ji40)).toNat * 4)) = some (.int .i64 ((rd_T33 x6_3 (ji40)).f0)) ∧ w'.cell? ⟨(ad363.add (((ji40)).toNat * 4)).block, (ad363.add (((ji40)).toNat * 4)).off + 1, none⟩ = some (.int .i64 ((rd_T33 x6_3 (ji40)).f1)) ∧ w'.cell? ⟨(ad363.add (((ji40)).toNat * 4)).block, (ad363.add (((ji40)).toNat * 4)).off + 2, none⟩ = some (.int .i64 ((rd_T33 x6_3 (ji40)).f2)) ∧ w'.cell? ⟨(ad363.add (((ji40)).toNat * 4)).block, (ad363.add (((ji40)).toNat * 4)).off + 3, none⟩ = some (.int .i64 ((rd_T33 x6_3 (ji40)).f3)) ∧ w'.cell? (ad363.add (((ji40)).toNat * 4)) = some (.int .i64 ((rd_T33 x6_3 (ji40)).f0)) ∧ w'.cell? ⟨(ad363.add (((ji40)).toNat * 4)).block, (ad363.add (((ji40)).toNat * 4)).off + 1, none⟩ = some (.int .i64 ((rd_T33 x6_3 (ji40)).f1)) ∧ w'.cell? ⟨(ad363.add (((ji40)).toNat * 4)).block, (ad363.add (((ji40)).toNat * 4)).off + 2, none⟩ = some (.int .i64 ((rd_T33 x6_3 (ji40)).f2)) ∧ w'.cell? ⟨(ad363.add (((ji40)).toNat * 4)).block, (ad363.add (((ji40)).toNat * 4)).off + 3, none⟩ = some (.int .i64 ((rd_T33 x6_3 (ji40)).f3)) ∧ w'.cell? (ad363.add ((x9_3).toNat * 4)) = some (.int .i64 ((rd_T33 x6_3 x9_3).f0)) ∧ w'.cell? ⟨(ad363.add ((x9_3).toNat * 4)).block, (ad363.add ((x9_3).toNat * 4)).off + 1, none⟩ = some (.int .i64 ((rd_T33 x6_3 x9_3).f1)) ∧ w'.cell? ⟨(ad363.add ((x9_3).toNat * 4)).block, (ad363.add ((x9_3).toNat * 4)).off + 2, none⟩ = some (.int .i64 ((rd_T33 x6_3 x9_3).f2)) ∧ w'.cell? ⟨(ad363.add ((x9_3).toNat * 4)).block, (ad363.add ((x9_3).toNat * 4)).off + 3, none⟩ = some (.int .i64 ((rd_T33 x6_3 x9_3).f3))) (ds := []) #[false, false, false, false, false, false, false, false, false, false, false, false, false, false, false, false, false, false, false, false] (by kernel_rfl) rfl rfl ⟨hx363_0, hx363_1, hx363_2, hx363_3, hx364_0, hx364_1, hx364_2, hx364_3, hx365_0, hx365_1, hx365_2, hx365_3⟩ (fun hHeld => ?_); refine with_tabW spec_l10Move.tab17 spec_l10Move.bits17 (fun HT_ HW_ => ?_)
                generalize wr.drew = w52 at HO_6 HB hx363_0 hx363_1 hx363_2 hx363_3 hx364_0 hx364_1 hx364_2 hx364_3 hx365_0 hx365_1 hx365_2 hx365_3 hHeld ⊢
                refine pureA 0 95 (bz 20 1) rfl rfl (any_of HT_.out (by kernel_rfl)) ?_
                refine pureA 1 96 (bz 20 3) rfl rfl (any_of HT_.out (by kernel_rfl)) ?_
                refine pureA 2 97 (bz 20 7) rfl rfl (any_of HT_.out (by kernel_rfl)) ?_
                refine pureA 3 98 (bz 20 15) rfl rfl (any_of HT_.out (by kernel_rfl)) ?_
                refine pureA 4 99 (bz 20 31) rfl rfl (any_of HT_.out (by kernel_rfl)) ?_
                refine pureA 6 101 (bz 20 95) rfl rfl (any_of HT_.out (by kernel_rfl)) ?_
                refine pureA 7 102 (bz 20 223) rfl rfl (any_of HT_.out (by kernel_rfl)) ?_
                refine pureA 8 103 (bz 20 479) rfl rfl (any_of HT_.out (by kernel_rfl)) ?_
                refine pureA 9 104 (bz 20 991) rfl rfl (any_of HT_.out (by kernel_rfl)) ?_
                refine pureA 10 105 (bz 20 2015) rfl rfl (any_of HT_.out (by kernel_rfl)) ?_
                refine pureA 13 108 (bz 20 10207) rfl rfl (any_of HT_.out (by kernel_rfl)) ?_
                refine pureA 14 109 (bz 20 26591) rfl rfl (any_of HT_.out (by kernel_rfl)) ?_
                refine pureA 15 110 (bz 20 59359) rfl rfl (any_of HT_.out (by kernel_rfl)) ?_
                refine pureA 16 111 (bz 20 124895) rfl rfl (any_of HT_.out (by kernel_rfl)) ?_
                refine takeA 5 100 (bz 20 124927) rfl rfl (take_ofW HT_.out HW_.out (by kernel_rfl)) hHeld (by rintro w' ⟨s0, s1, s2, s3, s4, s5, s6, s7, s8, s9, s10, s11⟩; go_simp; with_reducible rfl) ?_
                refine takeA 11 106 (bz 20 126975) rfl rfl (take_ofW HT_.out HW_.out (by kernel_rfl)) hHeld (by rintro w' ⟨s0, s1, s2, s3, s4, s5, s6, s7, s8, s9, s10, s11⟩; go_simp; with_reducible rfl) ?_
                refine pureA 12 107 (bz 20 131071) rfl rfl (any_of HT_.out (by kernel_rfl)) ?_
                refine takeA 17 112 (bz 20 262143) rfl rfl (take_ofW HT_.out HW_.out (by kernel_rfl)) hHeld (by rintro w' ⟨s0, s1, s2, s3, s4, s5, s6, s7, s8, s9, s10, s11⟩; go_simp; with_reducible rfl) ?_
                refine pureA 18 113 (bz 20 524287) rfl rfl (any_of HT_.out (by kernel_rfl)) ?_
                refine pureA 19 10 (bz 20 1048575) rfl rfl (any_of HT_.out (by kernel_rfl)) ?_
                refine done_ (done_of HT_.out (by kernel_rfl)) ?_
                have p366 : 0 ≤ (x9_3 : Int) := of_decide_eq_true hE
                have q366 : x9_3 < (x6_3.length : Int) := of_decide_eq_true hE
                obtain ⟨ad366, e366, hx366_0, hx366_1, hx366_2, hx366_3⟩ := at_T33 (Kd.R_reads' HO_6.out).2.2 x9_3 p366 q366
                obtain rfl : ad363 = ad366 := (by injection e366)
                replace p366 := eq_true p366
                replace q366 := eq_true q366
                try go_wp2
                (try simp only [← hl6_3])
                go_roundg k3
                case measure => have := HJ2.out; have := HK2.out; have := HK3.out; omega
                case rel => exact ⟨(x6_3), (wrap64 (x9_3 - 1)), tE, H', ⟨by have := HJ2.out; have := HK2.out; have := HK3.out; omega⟩, ⟨by (try simp only [hl6_2]); (try simp only [hl6_3]); (with_reducible repeat (first | apply Kd.R_alloc | apply Kd.R_drewN | apply Kd.R_drew)); exact HO_6.out⟩, ⟨by repeat (first | (with_reducible first | exact HB.out | apply below_alloc | apply pw_below_drewN | apply below_drew1) | exact HB.out)⟩⟩
              ·rw [if_neg c44] at H
               exact absurd H (by simp)
             ·rw [if_neg c43] at H
              exact absurd H (by simp)
            ·rw [if_neg c42] at H
             exact absurd H (by simp)
           ·rw [if_neg c41] at H
            exact absurd H (by simp)
          ·rw [if_neg c39] at H
           have c39b0 : decide (0 ≤ x9_3) = false := decide_eq_false c39
           clear c39
           replace H := Option.bind_eq_some_iff.mp H
           obtain ⟨t369, A530, H⟩ := H
           replace H : (if t369 = true then (some (x6_3, true)) else (some (([] : List (S33)), false))) = some (r1, r2) := H
           have A53 := Aside0.mk A530
           clear A530
           by_cases c54 : t369 = true
           ·subst c54
            have H1 : (some (x6_3, true)) = some (r1, r2) := by rw [if_pos rfl] at H; exact H
            clear H
            have H := H1
            clear H1
            simp only [Option.some.injEq, Prod.mk.injEq] at H
            obtain ⟨rfl, rfl⟩ := H
            go_wp2_with (first | ((with_reducible refine gate_callee (f := 32) rfl ?_); refine goesL_ (some 135) rfl rfl Try.func32 (by kernel_rfl) rfl #[.slice Ao14 x6_3.length co14] rfl aE ?_; (with_reducible refine (spec_GoodLine.calls k3 _ _ x6_3 true _ ?side1 ?side2 A53.out).mono ?_); (case side1 => exact cU (Kd.R_reads' HO_6.out).2.2); (case side2 => exact (Kd.R_reads' HO_6.out).2.1); rintro e w55 ⟨rfl, hb⟩; refine ⟨_, rfl, ?_⟩; replace HO_6 := Aside0.mk (Kd.R_below (rU HO_6.out) hb); replace HB := bH (lU) hb; (try clear hb)))
            go_ret2
            exact ⟨_, eE, by (with_reducible repeat (first | apply Kd.R_alloc | apply Kd.R_drewN | apply Kd.R_drew)); exact HO_6.out, lU⟩
           ·replace c54 := Bool.eq_false_iff.mpr c54
            subst c54
            have H1 : (some (([] : List (S33)), false)) = some (r1, r2) := by rw [if_neg (show ¬ (false = true) by decide)] at H; exact H
            clear H
            have H := H1
            clear H1
            simp only [Option.some.injEq, Prod.mk.injEq] at H
            obtain ⟨rfl, rfl⟩ := H
            go_wp2_with (first | ((with_reducible refine gate_callee (f := 32) rfl ?_); refine goesL_ (some 135) rfl rfl Try.func32 (by kernel_rfl) rfl #[.slice Ao14 x6_3.length co14] rfl aE ?_; (with_reducible refine (spec_GoodLine.calls k3 _ _ x6_3 false _ ?side1 ?side2 A53.out).mono ?_); (case side1 => exact cU (Kd.R_reads' HO_6.out).2.2); (case side2 => exact (Kd.R_reads' HO_6.out).2.1); rintro e w56 ⟨rfl, hb⟩; refine ⟨_, rfl, ?_⟩; replace HO_6 := Aside0.mk (Kd.R_below (rU HO_6.out) hb); replace HB := bH (lU) hb; (try clear hb)))
            go_ret2
            exact ⟨_, eE, by first | exact Kd.R_nil _ _ _ _ _ | exact Kd.N_nil _ _ _ _ _ | exact Kd.V_nil _ _ _ _ _ | exact Kd.Q_nil _ _ _ _ _ | exact Kd.S_nil _ _ _ _ _, lU⟩
    ·rw [if_neg c10] at H
     exact absurd H (by simp)
end Go.Proofs.Ytnacjhgpanedoab.PFnPushed
namespace Go.Proofs.Ytnacjhgpanedoab.PFnPushed
open Go.RowKit Go.Proofs.YtnacjhgpanedoabW.PrintWords Go.Proofs.YtnacjhgpanedoabW.PrintLast Go.Proofs.YtnacjhgpanedoabW.PrintMore
attribute [local go_sem] max2_int min2_int max_two min_two max_three min_three max_four min_four   -- for this text's walks alone
set_option linter.unusedVariables false
set_option linter.unusedSimpArgs false
def spec_MoveLine.f (k : Nat) (l0 : List (S33)) (a1 : Int) : Option ((List (S33)) × Bool) := (spec_l10Move.f k l0 a1).bind fun bt370 => (some (bt370.1, bt370.2))
theorem spec_MoveLine.mono : ∀ a0 a1 k, LeO (spec_MoveLine.f k a0 a1) (spec_MoveLine.f (k + 1) a0 a1) := by
 intro a0 a1 k
 unfold spec_MoveLine.f
 repeat' first
   | (with_reducible exact spec_l10Move.mono _ _ _)
   | (with_reducible first | exact LeO.refl _ | exact LeO.none _ | refine LeO.ite ?_ ?_ | refine LeO.bind ?_ (fun _ => ?_))
   | exact spec_l10Move.mono _ _ _ | exact LeO.none _ | refine LeO.ite ?_ ?_ | refine LeO.bind ?_ (fun _ => ?_)
set_option maxHeartbeats 8000000 in
set_option maxRecDepth 100000 in
theorem spec_MoveLine.calls (k : Nat) (A0 : Option Addr) (c0 : Nat) (l0 : List (S33)) (a1 : Int) (r1 : List (S33)) (r2 : Bool) (w : World) (hr0 : Kd.C k33 w A0 l0.length l0) (hc0 : l0.length ≤ c0) (h : spec_MoveLine.f k l0 a1 = some (r1, r2)) :
  Calls Try.prog 9 #[.slice A0 l0.length c0, .int .i64 a1] w fun e w' => ∃ v0_ : Value, e = .returned (.tuple #[v0_, .bool r2]) ∧ Kd.R k33 33 w' w.heap.size (fun _ => True) v0_ r1 ∧ Below w.heap.size w w' := by
 have HR0 := Aside0.mk hr0
 have HC0 := Aside0.mk hc0
 clear hr0 hc0
 have HB := Aside0.mk (Below.refl w.heap.size w)
 have H : ((spec_l10Move.f k l0 a1).bind fun bt370 => (some (bt370.1, bt370.2))) = some (r1, r2) := h
 clear h
 replace H := Option.bind_eq_some_iff.mp H
 obtain ⟨⟨t370, t371⟩, A30, H⟩ := H
 replace H : (some (t370, t371)) = some (r1, r2) := H
 have A3 := Aside0.mk A30
 clear A30
 simp only [Option.some.injEq, Prod.mk.injEq] at H
 obtain ⟨rfl, rfl⟩ := H
 go_enter Try.func9, Try.ntmps9
 go_wp2_with (first | ((with_reducible refine gate_callee (f := 26) rfl ?_); refine goesL_ (some 8) rfl rfl Try.func26 (by kernel_rfl) rfl #[.slice A0 l0.length c0, .int .i64 a1] rfl aE ?_; (with_reducible refine (spec_l10Move.calls k _ _ l0 a1 t370 t371 _ ?side1 ?side2 A3.out).mono ?_); (case side1 => repeat (first | exact HR0.out | (with_reducible refine Kd.C_alloc ?_ _) | (with_reducible refine Kd.C_drewN ?_ _) | (with_reducible refine Kd.C_drew ?_))); (case side2 => exact HC0.out); rintro e w4 ⟨v372, rfl, ho0, hb⟩; refine ⟨_, rfl, ?_⟩; have HO373 := Aside0.mk (Kd.R_lower ho0 (below_size (lU))); replace HB := bH (lU) hb; (try clear hb); (try clear ho0)))
 go_ret2
 exact ⟨_, eE, by (with_reducible repeat (first | apply Kd.R_alloc | apply Kd.R_drewN | apply Kd.R_drew)); exact HO373.out, lU⟩
def spec_l1Cur_span10.f (s0_0 : List Int) (s0_1 : Int) (s0_2 : Int) : Option (Int × Int × Int) := (spec_l1Cur_one.f s0_0 s0_1 s0_2 30).bind fun bt374 => (if bt374.1 = true then ((spec_l1Cur_among.f s0_0 bt374.2.1 bt374.2.2 (([(-1), 1000, 1001] : List Int))).bind fun bt380 => (some (bt380.1, bt380.2.1, bt380.2.2))) else ((spec_l1Cur_pick.f s0_0 bt374.2.1 bt374.2.2 12).bind fun bt383 => (some (bt383.1, bt383.2.1, bt383.2.2))))
set_option maxHeartbeats 8000000 in
set_option maxRecDepth 100000 in
theorem spec_l1Cur_span10.calls (g : Nat) (s0_0 : List Int) (s0_1 : Int) (s0_2 : Int) (r1 : Int) (r2 : Int) (r3 : Int) (w0 w : World) (hI : IsS45 w0 w g s0_0 s0_1 s0_2) (hB : Below w0.heap.size w0 w) (h : spec_l1Cur_span10.f s0_0 s0_1 s0_2 = some (r1, r2, r3)) :
  Calls Try.prog 27 #[.pointer (some ⟨g, 0, none⟩)] w fun e w' => e = .returned (.int .i64 r1) ∧ IsS45 w0 w' g s0_0 r2 r3 ∧ Below w0.heap.size w0 w' ∧ KeepBut w w' g none := by
 have HI0 := Aside0.mk hI
 have HK := Aside0.mk (KeepBut.refl w g none)
 have HL := Aside0.mk hB.size
 clear hI
 have HW0 := Aside0.mk hB.size
 have HB := Aside0.mk hB
 clear hB
 have H : ((spec_l1Cur_one.f s0_0 s0_1 s0_2 30).bind fun bt374 => (if bt374.1 = true then ((spec_l1Cur_among.f s0_0 bt374.2.1 bt374.2.2 (([(-1), 1000, 1001] : List Int))).bind fun bt380 => (some (bt380.1, bt380.2.1, bt380.2.2))) else ((spec_l1Cur_pick.f s0_0 bt374.2.1 bt374.2.2 12).bind fun bt383 => (some (bt383.1, bt383.2.1, bt383.2.2))))) = some (r1, r2, r3) := h
 clear h
 replace H := Option.bind_eq_some_iff.mp H
 obtain ⟨⟨t374, t375, t376⟩, A20, H⟩ := H
 replace H : (if t374 = true then ((spec_l1Cur_among.f s0_0 t375 t376 (([(-1), 1000, 1001] : List Int))).bind fun bt380 => (some (bt380.1, bt380.2.1, bt380.2.2))) else ((spec_l1Cur_pick.f s0_0 t375 t376 12).bind fun bt383 => (some (bt383.1, bt383.2.1, bt383.2.2)))) = some (r1, r2, r3) := H
 have A2 := Aside0.mk A20
 clear A20
 by_cases c3 : t374 = true
 ·subst c3
  have H1 : ((spec_l1Cur_among.f s0_0 t375 t376 (([(-1), 1000, 1001] : List Int))).bind fun bt380 => (some (bt380.1, bt380.2.1, bt380.2.2))) = some (r1, r2, r3) := by rw [if_pos rfl] at H; exact H
  clear H
  have H := H1
  clear H1
  obtain ⟨y377, hy377⟩ : ∃ y_ : List Int, y_ = (([(-1), 1000, 1001] : List Int)) := ⟨_, rfl⟩
  replace H : ((spec_l1Cur_among.f s0_0 t375 t376 y377).bind fun bt380 => (some (bt380.1, bt380.2.1, bt380.2.2))) = some (r1, r2, r3) := by first | (rw [hy377]; with_reducible exact H) | (have H2_ := (Option.bind_some _ _).symm.trans H; rw [hy377]; with_reducible exact H2_) | (have H2_ := (Option.bind_some _ _).symm.trans H; with_reducible exact H2_) | with_reducible exact H | (rw [hy377]; exact H) | exact H
  have Ny377 := Aside0.mk hy377
  clear hy377
  replace H := Option.bind_eq_some_iff.mp H
  obtain ⟨⟨t380, t381, t382⟩, A40, H⟩ := H
  replace H : (some (t380, t381, t382)) = some (r1, r2, r3) := H
  have A4 := Aside0.mk A40
  clear A40
  simp only [Option.some.injEq, Prod.mk.injEq] at H
  obtain ⟨rfl, rfl, rfl⟩ := H
  go_enter Try.func27, Try.ntmps27
  go_wp2_with (first | ((with_reducible refine gate_callee (f := 15) rfl ?_); refine goesL_ (some 4) rfl rfl Try.func15 (by kernel_rfl) rfl #[.pointer (some ⟨g, 0, none⟩), .int .i64 30] rfl aE ?_; (with_reducible refine (spec_l1Cur_one.calls g s0_0 s0_1 s0_2 30 true t375 t376 w0 _ ?side1 ?side2 A2.out).mono ?_); (case side1 => exact iI45_0_12_0); (case side2 => exact lI45_0_0); rintro e w5 ⟨rfl, hi, hb, hk⟩; refine ⟨_, rfl, ?_⟩; replace HK := Aside0.mk (KeepBut.trans (kI0) hk (.inl rfl)); replace HB := Aside0.mk hb; replace HI0 := Aside0.mk hi; (try clear hb); (try clear hk); (try clear hi)) | ((with_reducible refine gate_dst (N := 6) rfl ?_); refine Kd.R_lit (Kd.int .i64) _ 3 ?hg (N := 6) ?hd (xs := ([(-1), 1000, 1001] : List Int)) (inner := [.int .i64 (-1), .int .i64 1000, .int .i64 1001]) (ok := fun _ => True) (okp := fun _ => True) ?hr ?hp (fun _ hk => hk) trivial (Below.refl _ _) (Nat.le_refl _) (by simp) ?_; (case hd => rfl); (case hg => rfl); (case hr => exact sE); (case hp => exact (Reps.one (show Kd.M (Kd.int .i64) _ _ _ (-1) [.int .i64 (-1)] from rfl) (Reps.one (show Kd.M (Kd.int .i64) _ _ _ 1000 [.int .i64 1000] from rfl) (Reps.one (show Kd.M (Kd.int .i64) _ _ _ 1001 [.int .i64 1001] from rfl) (Reps.none _ _))))); intro v378 w6 ho7 hb hg_ hnew_; clear hg_ hnew_; (first | rw [← Ny377.out] at ho7 | (simp only [Int.reduceToNat] at ho7; rw [← Ny377.out] at ho7)); have HO379 := Aside0.mk (Kd.R_lower ho7 (keep_size (w := w) (g := g) (row := none) (kI0))); replace HK := Aside0.mk (KeepBut.trans (kI0) (KeepBut.of_below hb g none) (.inl rfl)); replace HB := Aside0.mk (below_step (lI45_0_0) hb); replace HI0 := Aside0.mk (IsS45.below (iI45_0_12_0) hb); clear hb ho7; obtain ⟨Ao8, co8, eo8⟩ := Kd.R_slice HO379.out; subst eo8) | ((with_reducible refine gate_callee (f := 16) rfl ?_); refine goesL_ (some 7) rfl rfl Try.func16 (by kernel_rfl) rfl #[.pointer (some ⟨g, 0, none⟩), .slice Ao8 y377.length co8] rfl aE ?_; (with_reducible refine (spec_l1Cur_among.calls g s0_0 t375 t376 _ _ y377 t380 t381 t382 w0 _ ?side1 ?side2 ?side3 ?side4 ?side5 A4.out).mono ?_); (case side1 => exact iI45_0_12_0); (case side2 => exact lI45_0_0); (case side3 => exact cU (Kd.R_reads' HO379.out).2.2); (case side4 => exact (Kd.R_reads' HO379.out).2.1); (case side5 => exact far_slice (IsS45.own_ne HI0.out HO379.out (by decide))); rintro e w9 ⟨rfl, hi, hb, hk⟩; refine ⟨_, rfl, ?_⟩; replace HO379 := Aside0.mk (Kd.R_mono (Kd.R_keep (IsS45.apart (show IsS45 w0 _ g s0_0 t375 t376 from iI45_0_12_0) (rU HO379.out) (by decide)) hk (fun _ h => h.2)) (fun _ h => h.1)); replace HK := Aside0.mk (KeepBut.trans (kI0) hk (.inl rfl)); replace HB := Aside0.mk hb; replace HI0 := Aside0.mk hi; (try clear hb); (try clear hk); (try clear hi)))
  go_ret
  exact ⟨eE, iI45_0_12_0, lI45_0_0, kI0⟩
 ·replace c3 := Bool.eq_false_iff.mpr c3
  subst c3
  have H1 : ((spec_l1Cur_pick.f s0_0 t375 t376 12).bind fun bt383 => (some (bt383.1, bt383.2.1, bt383.2.2))) = some (r1, r2, r3) := by rw [if_neg (show ¬ (false = true) by decide)] at H; exact H
  clear H
  have H := H1
  clear H1
  replace H := Option.bind_eq_some_iff.mp H
  obtain ⟨⟨t383, t384, t385⟩, A100, H⟩ := H
  replace H : (some (t383, t384, t385)) = some (r1, r2, r3) := H
  have A10 := Aside0.mk A100
  clear A100
  simp only [Option.some.injEq, Prod.mk.injEq] at H
  obtain ⟨rfl, rfl, rfl⟩ := H
  go_enter Try.func27, Try.ntmps27
  go_wp2_with (first | ((with_reducible refine gate_callee (f := 15) rfl ?_); refine goesL_ (some 4) rfl rfl Try.func15 (by kernel_rfl) rfl #[.pointer (some ⟨g, 0, none⟩), .int .i64 30] rfl aE ?_; (with_reducible refine (spec_l1Cur_one.calls g s0_0 s0_1 s0_2 30 false t375 t376 w0 _ ?side1 ?side2 A2.out).mono ?_); (case side1 => exact iI45_0_12_0); (case side2 => exact lI45_0_0); rintro e w11 ⟨rfl, hi, hb, hk⟩; refine ⟨_, rfl, ?_⟩; replace HK := Aside0.mk (KeepBut.trans (kI0) hk (.inl rfl)); replace HB := Aside0.mk hb; replace HI0 := Aside0.mk hi; (try clear hb); (try clear hk); (try clear hi)) | ((with_reducible refine gate_callee (f := 14) rfl ?_); refine goesL_ (some 9) rfl rfl Try.func14 (by kernel_rfl) rfl #[.pointer (some ⟨g, 0, none⟩), .int .i64 12] rfl aE ?_; (with_reducible refine (spec_l1Cur_pick.calls g s0_0 t375 t376 12 t383 t384 t385 w0 _ ?side1 ?side2 A10.out).mono ?_); (case side1 => exact iI45_0_12_0); (case side2 => exact lI45_0_0); rintro e w12 ⟨rfl, hi, hb, hk⟩; refine ⟨_, rfl, ?_⟩; replace HK := Aside0.mk (KeepBut.trans (kI0) hk (.inl rfl)); replace HB := Aside0.mk hb; replace HI0 := Aside0.mk hi; (try clear hb); (try clear hk); (try clear hi)))
  go_ret
  exact ⟨eE, iI45_0_12_0, lI45_0_0, kI0⟩
def spec_DrawStepIslands.l0 : Nat → List (List (S33)) → Int → List Int → Int → Int → Option ((List (List (S33))) × Int × Int × Int)
 | 0, _, _, _, _, _ => none
 | k + 1, x7, x8, x387000, x387001, x387002 => if x8 > 0 then ((spec_l1Cur_line10.f k x387000 x387001 x387002).bind fun bt390 => (if x7.length < 5864062014805 then (spec_DrawStepIslands.l0 k (x7 ++ [bt390.1]) (wrap64 (x8 - 1)) x387000 bt390.2.1 bt390.2.2) else (none))) else ((spec_l1Cur_bounceOf.f x387000 x387001 x387002).bind fun bt398 => ((spec_l1Cur_pick.f x387000 bt398.2.1 bt398.2.2 5).bind fun bt401 => ((spec_l1Cur_span10.f x387000 bt401.2.1 bt401.2.2).bind fun bt404 => (some (x7, bt398.1, bt401.1, bt404.1)))))
def spec_DrawStepIslands.f (k : Nat) (l0 : List Int) : Option ((List (List (S33))) × Int × Int × Int) := (spec_l1Cur_pick.f l0 0 0 4).bind fun bt387 => (spec_DrawStepIslands.l0 k ([] : List (List (S33))) bt387.1 l0 bt387.2.1 bt387.2.2)
theorem spec_DrawStepIslands.mono_l : ∀ k, (∀ y0 y1 y2 y3 y4, LeO (spec_DrawStepIslands.l0 k y0 y1 y2 y3 y4) (spec_DrawStepIslands.l0 (k + 1) y0 y1 y2 y3 y4))
 | 0 => fun _ _ _ _ _ r h => by simp [spec_DrawStepIslands.l0] at h
 | k + 1 => by
  have ih0 := spec_DrawStepIslands.mono_l k
  ·intro y0 y1 y2 y3 y4
   unfold spec_DrawStepIslands.l0
   repeat' first
   | (with_reducible exact ih0 _ _ _ _ _)
   | (with_reducible exact spec_l1Cur_line10.mono _ _ _ _)
   | (with_reducible first | exact LeO.refl _ | exact LeO.none _ | refine LeO.ite ?_ ?_ | refine LeO.bind ?_ (fun _ => ?_))
   | exact ih0 _ _ _ _ _
   | exact spec_l1Cur_line10.mono _ _ _ _ | exact LeO.none _ | refine LeO.ite ?_ ?_ | refine LeO.bind ?_ (fun _ => ?_)
theorem spec_DrawStepIslands.mono : ∀ a0 k, LeO (spec_DrawStepIslands.f k a0) (spec_DrawStepIslands.f (k + 1) a0) := by
 intro a0 k
 have ih0 := spec_DrawStepIslands.mono_l k
 unfold spec_DrawStepIslands.f
 repeat' first
   | (with_reducible exact ih0 _ _ _ _ _)
   | (with_reducible exact spec_l1Cur_line10.mono _ _ _ _)
   | (with_reducible first | exact LeO.refl _ | exact LeO.none _ | refine LeO.ite ?_ ?_ | refine LeO.bind ?_ (fun _ => ?_))
   | exact ih0 _ _ _ _ _
   | exact spec_l1Cur_line10.mono _ _ _ _ | exact LeO.none _ | refine LeO.ite ?_ ?_ | refine LeO.bind ?_ (fun _ => ?_)
set_option maxHeartbeats 8000000 in
set_option maxRecDepth 100000 in
theorem spec_DrawStepIslands.calls (k : Nat) (A0 : Option Addr) (c0 : Nat) (l0 : List Int) (r1 : List (List (S33))) (r2 : Int) (r3 : Int) (r4 : Int) (w : World) (hr0 : Kd.C (Kd.int .u8) w A0 l0.length l0) (hc0 : l0.length ≤ c0) (h : spec_DrawStepIslands.f k l0 = some (r1, r2, r3, r4)) :
  Calls Try.prog 10 #[.slice A0 l0.length c0] w fun e w' => ∃ v0_ : Value, e = .returned (.tuple #[v0_, .int .i64 r2, .int .i64 r3, .int .i64 r4]) ∧ Kd.S (Kd.slice 33 k33) 23 w' w.heap.size (fun _ => True) v0_ r1 ∧ Below w.heap.size w w' := by
 have hu45 := Try.underlying45
 have HR0 := Aside0.mk hr0
 have HC0 := Aside0.mk hc0
 clear hr0 hc0
 have HB := Aside0.mk (Below.refl w.heap.size w)
 have H : ((spec_l1Cur_pick.f l0 0 0 4).bind fun bt387 => (spec_DrawStepIslands.l0 k ([] : List (List (S33))) bt387.1 l0 bt387.2.1 bt387.2.2)) = some (r1, r2, r3, r4) := h
 clear h
 replace H := Option.bind_eq_some_iff.mp H
 obtain ⟨⟨t387, t388, t389⟩, A20, H⟩ := H
 replace H : (spec_DrawStepIslands.l0 k ([] : List (List (S33))) t387 l0 t388 t389) = some (r1, r2, r3, r4) := H
 have A2 := Aside0.mk A20
 clear A20
 have H' := Aside0.mk H
 clear H
 go_enter Try.func10, Try.ntmps10
 go_wp2_with (first | ((with_reducible refine gate_dst (N := 11) rfl ?_); refine box_event rfl (N := 11) rfl (cs := #[.slice A0 l0.length c0, .int .i64 0, .int .u64 0]) (t := 45) sE ?_; intro gb386 hg w3 hbox hb; have HI386 := Aside0.mk ((show IsS45 w w3 gb386 l0 0 0 from ⟨_, _, hbox, (by rw [hg]; exact (below_size (lU)) : w.heap.size ≤ gb386), HR0.out⟩)); replace HB := bH (lU) hb; clear hb hbox hg) | ((with_reducible refine gate_callee (f := 14) rfl ?_); refine goesL_ (some 13) rfl rfl Try.func14 (by kernel_rfl) rfl #[.pointer (some ⟨gb386, 0, none⟩), .int .i64 4] rfl aE ?_; (with_reducible refine (spec_l1Cur_pick.calls gb386 l0 0 0 4 t387 t388 t389 w _ ?side1 ?side2 A2.out).mono ?_); (case side1 => exact iI45_386_12_0); (case side2 => exact lI45_386_0); rintro e w4 ⟨rfl, hi, hb, hk⟩; refine ⟨_, rfl, ?_⟩; replace HB := Aside0.mk hb; replace HI386 := Aside0.mk hi; (try clear hb); (try clear hk); (try clear hi)))
 (try simp only [Act.put, List.setIfInBounds_toArray, List.set_cons_zero, List.set_cons_succ])
 go_loopg [7, 8] k (fun kq v7 v8 w' => ∃ (x7_1 : List (List (S33))) (x8_1 : Int) (x387001_1 : Int) (x387002_1 : Int), v8 = .int .i64 x8_1 ∧ Aside0 (spec_DrawStepIslands.l0 kq x7_1 x8_1 l0 x387001_1 x387002_1 = some (r1, r2, r3, r4)) ∧ Aside0 (kq ≤ k) ∧ Aside0 (Kd.S (Kd.slice 33 k33) 23 w' w.heap.size (fun _ => True) v7 x7_1) ∧ Aside0 (IsS45 w w' gb386 l0 x387001_1 x387002_1) ∧ Aside0 (Below w.heap.size w w'))
 case atStart => exact ⟨(([] : List (List (S33)))), (t387), (t388), (t389), tE, H', ⟨Nat.le_refl _⟩, ⟨by first | exact Kd.S_nil _ _ _ _ _ | exact Kd.N_nil _ _ _ _ _ | exact Kd.V_nil _ _ _ _ _ | exact Kd.Q_nil _ _ _ _ _ | exact Kd.R_nil _ _ _ _ _⟩, ⟨iI45_386_12_0⟩, ⟨lI45_386_0⟩⟩
 case round =>
  clear H'
  obtain ⟨x7_1, x8_1, x387001_1, x387002_1, rfl, HA, HK1, HO_7, HI386, HB⟩ := hrel
  cases gk with
  | zero => exact absurd HA.out (by simp [spec_DrawStepIslands.l0])
  | succ k1 =>
   have H := HA.out
   clear HA
   simp only [spec_DrawStepIslands.l0] at H
   by_cases c5 : x8_1 > 0
   ·rw [if_pos c5] at H
    have c5b0 : decide (0 < x8_1) = true := decide_eq_true c5
    clear c5
    replace H := Option.bind_eq_some_iff.mp H
    obtain ⟨⟨t390, t393, t394⟩, A60, H⟩ := H
    replace H : (if x7_1.length < 5864062014805 then (spec_DrawStepIslands.l0 k1 (x7_1 ++ [t390]) (wrap64 (x8_1 - 1)) l0 t393 t394) else (none)) = some (r1, r2, r3, r4) := H
    have A6 := Aside0.mk A60
    clear A60
    by_cases c7 : x7_1.length < 5864062014805
    ·rw [if_pos c7] at H
     have LMc7 := Aside0.mk c7
     clear c7
     obtain ⟨y395, hy395⟩ : ∃ y_ : List (List (S33)), y_ = (x7_1 ++ [t390]) := ⟨_, rfl⟩
     replace H : (spec_DrawStepIslands.l0 k1 y395 (wrap64 (x8_1 - 1)) l0 t393 t394) = some (r1, r2, r3, r4) := by first | (rw [hy395]; with_reducible exact H) | (have H2_ := (Option.bind_some _ _).symm.trans H; rw [hy395]; with_reducible exact H2_) | (have H2_ := (Option.bind_some _ _).symm.trans H; with_reducible exact H2_) | with_reducible exact H | (rw [hy395]; exact H) | exact H
     have Ny395 := Aside0.mk hy395
     clear hy395
     have H' := Aside0.mk H
     clear H
     go_wp2_with (first | ((with_reducible refine gate_callee (f := 13) rfl ?_); refine goesL_ (some 20) rfl rfl Try.func13 (by kernel_rfl) rfl #[.pointer (some ⟨gb386, 0, none⟩)] rfl aE ?_; (with_reducible refine (spec_l1Cur_line10.calls k1 gb386 l0 x387001_1 x387002_1 t390 t393 t394 w _ ?side1 ?side2 A6.out).mono ?_); (case side1 => exact iI45_386_12_0); (case side2 => exact lI45_386_0); rintro e w8 ⟨v391, rfl, ho0, hi, hb, hk⟩; refine ⟨_, rfl, ?_⟩; replace HO_7 := Aside0.mk (Kd.S_mono (Kd.S_told (Kd.S_oldK (IsS45.apartS (show IsS45 w _ gb386 l0 x387001_1 x387002_1 from iI45_386_12_0) (by (with_reducible repeat (first | apply Kd.S_alloc | apply Kd.S_drewN | apply Kd.S_drew)); exact HO_7.out) (by decide)) hk) (Kd.R_base ho0)) (fun _ h_ => h_.1)); have HO392 := Aside0.mk (Kd.R_lower ho0 (below_size (lI45_386_0))); replace HB := Aside0.mk hb; replace HI386 := Aside0.mk hi; (try clear hb); (try clear hk); (try clear hi); (try clear ho0); obtain ⟨Ao10, co10, eo10⟩ := Kd.R_slice HO392.out; subst eo10) | ((with_reducible refine gate_builtin (b := .append) (xs := #[.tmp 18, .tmp 21]) rfl ?_); at_builtin; refine Kd.S_append (Kd.slice 33 k33) (w0 := w) w.heap.size rfl (.tmp 18) (.tmp 21) 35 23 (.slice none 0 0) 24 rfl Try.underlying35 info23 rfl (by decide) (by omega) u7 x7_1 t390 [.slice Ao10 t390.length co10] (fun _ => True) (fun k_ => some k_ = (.slice Ao10 t390.length co10 : Value).ownBlock) rfl rfl ?aP (fun k_ hk_ => ((Kd.R_mono (ok' := fun k_ => ((fun _ => True)) k_ ∧ some k_ ≠ (u7 : Value).ownBlock) (Kd.R_apart' (HO392.out) (Kd.S_typed HO_7.out) (by decide)) (fun k_ hk => ⟨trivial, hk.2⟩))).1 k_ hk_.symm) ?aF ?aO ?aB ?aS ?aL ?_; (case aP => exact Kd.M_row (Kd.R_mono (Kd.R_tight rfl (Kd.R_mono (ok' := fun k_ => ((fun _ => True)) k_ ∧ some k_ ≠ (u7 : Value).ownBlock) (Kd.R_apart' (HO392.out) (Kd.S_typed HO_7.out) (by decide)) (fun k_ hk => ⟨trivial, hk.2⟩))) (fun _ h_ => h_))); (case aB => exact (lI45_386_0)); (case aF => exact (fun _ _ => trivial)); (case aO => exact (by (with_reducible repeat (first | apply Kd.S_alloc | apply Kd.S_drewN | apply Kd.S_drew)); exact Kd.S_mono HO_7.out (fun k_ hk => ⟨trivial, fun e_ => hk.2 e_⟩))); (case aS => exact (below_size (lI45_386_0))); (case aL => have := LMc7.out; omega); intro v396 w9 ho hb hg hat; rw [← Ny395.out] at ho; replace HI386 := Aside0.mk (IsS45.grown (iI45_386_12_0) hg (IsS45.own_neS HI386.out HO_7.out (by decide))); replace HB := Aside0.mk hb; have HO397 := Aside0.mk ho; clear HO_7 HO392; clear ho hb hg hat))
     go_roundg k1
     case measure => have := HK1.out; omega
     case rel => exact ⟨(y395), (wrap64 (x8_1 - 1)), (t393), (t394), tE, H', ⟨by have := HK1.out; omega⟩, ⟨by (with_reducible repeat (first | apply Kd.S_alloc | apply Kd.S_drewN | apply Kd.S_drew)); exact HO397.out⟩, ⟨iI45_386_12_0⟩, ⟨lI45_386_0⟩⟩
    ·rw [if_neg c7] at H
     exact absurd H (by simp)
   ·rw [if_neg c5] at H
    have c5b0 : decide (0 < x8_1) = false := decide_eq_false c5
    clear c5
    replace H := Option.bind_eq_some_iff.mp H
    obtain ⟨⟨t398, t399, t400⟩, A110, H⟩ := H
    replace H : ((spec_l1Cur_pick.f l0 t399 t400 5).bind fun bt401 => ((spec_l1Cur_span10.f l0 bt401.2.1 bt401.2.2).bind fun bt404 => (some (x7_1, t398, bt401.1, bt404.1)))) = some (r1, r2, r3, r4) := H
    have A11 := Aside0.mk A110
    clear A110
    replace H := Option.bind_eq_some_iff.mp H
    obtain ⟨⟨t401, t402, t403⟩, A120, H⟩ := H
    replace H : ((spec_l1Cur_span10.f l0 t402 t403).bind fun bt404 => (some (x7_1, t398, t401, bt404.1))) = some (r1, r2, r3, r4) := H
    have A12 := Aside0.mk A120
    clear A120
    replace H := Option.bind_eq_some_iff.mp H
    obtain ⟨⟨t404, t405, t406⟩, A130, H⟩ := H
    replace H : (some (x7_1, t398, t401, t404)) = some (r1, r2, r3, r4) := H
    have A13 := Aside0.mk A130
    clear A130
    simp only [Option.some.injEq, Prod.mk.injEq] at H
    obtain ⟨rfl, rfl, rfl, rfl⟩ := H
    go_wp2_with (first | ((with_reducible refine gate_callee (f := 17) rfl ?_); refine goesL_ (some 25) rfl rfl Try.func17 (by kernel_rfl) rfl #[.pointer (some ⟨gb386, 0, none⟩)] rfl aE ?_; (with_reducible refine (spec_l1Cur_bounceOf.calls gb386 l0 x387001_1 x387002_1 t398 t399 t400 w _ ?side1 ?side2 A11.out).mono ?_); (case side1 => exact iI45_386_12_0); (case side2 => exact lI45_386_0); rintro e w14 ⟨rfl, hi, hb, hk⟩; refine ⟨_, rfl, ?_⟩; replace HO_7 := Aside0.mk (Kd.S_mono (Kd.S_keep (IsS45.apartS (show IsS45 w _ gb386 l0 x387001_1 x387002_1 from iI45_386_12_0) (by (with_reducible repeat (first | apply Kd.S_alloc | apply Kd.S_drewN | apply Kd.S_drew)); exact HO_7.out) (by decide)) hk (fun _ h => h.2)) (fun _ h => h.1)); replace HB := Aside0.mk hb; replace HI386 := Aside0.mk hi; (try clear hb); (try clear hk); (try clear hi)) | ((with_reducible refine gate_callee (f := 14) rfl ?_); refine goesL_ (some 27) rfl rfl Try.func14 (by kernel_rfl) rfl #[.pointer (some ⟨gb386, 0, none⟩), .int .i64 5] rfl aE ?_; (with_reducible refine (spec_l1Cur_pick.calls gb386 l0 t399 t400 5 t401 t402 t403 w _ ?side1 ?side2 A12.out).mono ?_); (case side1 => exact iI45_386_12_0); (case side2 => exact lI45_386_0); rintro e w15 ⟨rfl, hi, hb, hk⟩; refine ⟨_, rfl, ?_⟩; replace HO_7 := Aside0.mk (Kd.S_mono (Kd.S_keep (IsS45.apartS (show IsS45 w _ gb386 l0 t399 t400 from iI45_386_12_0) (by (with_reducible repeat (first | apply Kd.S_alloc | apply Kd.S_drewN | apply Kd.S_drew)); exact HO_7.out) (by decide)) hk (fun _ h => h.2)) (fun _ h => h.1)); replace HB := Aside0.mk hb; replace HI386 := Aside0.mk hi; (try clear hb); (try clear hk); (try clear hi)) | ((with_reducible refine gate_callee (f := 27) rfl ?_); refine goesL_ (some 29) rfl rfl Try.func27 (by kernel_rfl) rfl #[.pointer (some ⟨gb386, 0, none⟩)] rfl aE ?_; (with_reducible refine (spec_l1Cur_span10.calls gb386 l0 t402 t403 t404 t405 t406 w _ ?side1 ?side2 A13.out).mono ?_); (case side1 => exact iI45_386_12_0); (case side2 => exact lI45_386_0); rintro e w16 ⟨rfl, hi, hb, hk⟩; refine ⟨_, rfl, ?_⟩; replace HO_7 := Aside0.mk (Kd.S_mono (Kd.S_keep (IsS45.apartS (show IsS45 w _ gb386 l0 t402 t403 from iI45_386_12_0) (by (with_reducible repeat (first | apply Kd.S_alloc | apply Kd.S_drewN | apply Kd.S_drew)); exact HO_7.out) (by decide)) hk (fun _ h => h.2)) (fun _ h => h.1)); replace HB := Aside0.mk hb; replace HI386 := Aside0.mk hi; (try clear hb); (try clear hk); (try clear hi)))
    refine bodyPost_ret (results_list (rs := [.tmp 2, .tmp 3, .tmp 4, .tmp 5]) rfl (by simp) (.tmp (.tmp (.tmp (.tmp .nil))))) rfl ?_
    exact ⟨_, eE, by (with_reducible repeat (first | apply Kd.S_alloc | apply Kd.S_drewN | apply Kd.S_drew)); exact HO_7.out, lI45_386_0⟩
def impl_StepLine.f (k : Nat) (l0 : List (S33)) (a1 : Int) (a2 : Int) (a3 : Int) : Option ((List (S33)) × Bool) := (impl_PushLine.f k l0 a1 a2).bind fun bt407 => (if bt407.2 = true then ((impl_MoveLine.f k bt407.1 a3).bind fun bt411 => (some (bt411.1, bt411.2))) else (some (([] : List (S33)), false)))
theorem impl_StepLine.mono : ∀ a0 a1 a2 a3 k, LeO (impl_StepLine.f k a0 a1 a2 a3) (impl_StepLine.f (k + 1) a0 a1 a2 a3) := by
 intro a0 a1 a2 a3 k
 unfold impl_StepLine.f
 repeat' first
   | (with_reducible exact impl_MoveLine.mono _ _ _)
   | (with_reducible exact impl_PushLine.mono _ _ _ _)
   | (with_reducible first | exact LeO.refl _ | exact LeO.none _ | refine LeO.ite ?_ ?_ | refine LeO.bind ?_ (fun _ => ?_))
   | exact impl_MoveLine.mono _ _ _
   | exact impl_PushLine.mono _ _ _ _ | exact LeO.none _ | refine LeO.ite ?_ ?_ | refine LeO.bind ?_ (fun _ => ?_)
set_option maxHeartbeats 8000000 in
set_option maxRecDepth 100000 in
theorem impl_StepLine.calls (k : Nat) (A0 : Option Addr) (c0 : Nat) (l0 : List (S33)) (a1 : Int) (a2 : Int) (a3 : Int) (r1 : List (S33)) (r2 : Bool) (w : World) (hr0 : Kd.C k33 w A0 l0.length l0) (hc0 : l0.length ≤ c0) (h : impl_StepLine.f k l0 a1 a2 a3 = some (r1, r2)) :
  Calls Try.prog 12 #[.slice A0 l0.length c0, .int .i64 a1, .int .i64 a2, .int .i64 a3] w fun e w' => ∃ v0_ : Value, e = .returned (.tuple #[v0_, .bool r2]) ∧ Kd.R k33 33 w' w.heap.size (fun _ => True) v0_ r1 ∧ Below w.heap.size w w' := by
 have HR0 := Aside0.mk hr0
 have HC0 := Aside0.mk hc0
 clear hr0 hc0
 have HB := Aside0.mk (Below.refl w.heap.size w)
 have H : ((impl_PushLine.f k l0 a1 a2).bind fun bt407 => (if bt407.2 = true then ((impl_MoveLine.f k bt407.1 a3).bind fun bt411 => (some (bt411.1, bt411.2))) else (some (([] : List (S33)), false)))) = some (r1, r2) := h
 clear h
 replace H := Option.bind_eq_some_iff.mp H
 obtain ⟨⟨t407, t408⟩, A50, H⟩ := H
 replace H : (if t408 = true then ((impl_MoveLine.f k t407 a3).bind fun bt411 => (some (bt411.1, bt411.2))) else (some (([] : List (S33)), false))) = some (r1, r2) := H
 have A5 := Aside0.mk A50
 clear A50
 by_cases c6 : t408 = true
 ·subst c6
  have H1 : ((impl_MoveLine.f k t407 a3).bind fun bt411 => (some (bt411.1, bt411.2))) = some (r1, r2) := by rw [if_pos rfl] at H; exact H
  clear H
  have H := H1
  clear H1
  replace H := Option.bind_eq_some_iff.mp H
  obtain ⟨⟨t411, t412⟩, A70, H⟩ := H
  replace H : (some (t411, t412)) = some (r1, r2) := H
  have A7 := Aside0.mk A70
  clear A70
  simp only [Option.some.injEq, Prod.mk.injEq] at H
  obtain ⟨rfl, rfl⟩ := H
  go_enter Try.func12, Try.ntmps12
  go_wp2_with (first | ((with_reducible refine gate_callee (f := 5) rfl ?_); refine goesL_ (some 16) rfl rfl Try.func5 (by kernel_rfl) rfl #[.slice A0 l0.length c0, .int .i64 a1, .int .i64 a2] rfl aE ?_; (with_reducible refine (impl_PushLine.calls k _ _ l0 a1 a2 t407 true _ ?side1 ?side2 A5.out).mono ?_); (case side1 => repeat (first | exact HR0.out | (with_reducible refine Kd.C_alloc ?_ _) | (with_reducible refine Kd.C_drewN ?_ _) | (with_reducible refine Kd.C_drew ?_))); (case side2 => exact HC0.out); rintro e w8 ⟨v409, rfl, ho0, hb⟩; refine ⟨_, rfl, ?_⟩; have HO410 := Aside0.mk (Kd.R_lower ho0 (below_size (lU))); replace HB := bH (lU) hb; (try clear hb); (try clear ho0); obtain ⟨Ao9, co9, eo9⟩ := Kd.R_slice HO410.out; subst eo9) | ((with_reducible refine gate_callee (f := 8) rfl ?_); refine goesL_ (some 23) rfl rfl Try.func8 (by kernel_rfl) rfl #[.slice Ao9 t407.length co9, .int .i64 a3] rfl aE ?_; (with_reducible refine (impl_MoveLine.calls k _ _ t407 a3 t411 t412 _ ?side1 ?side2 A7.out).mono ?_); (case side1 => exact cU (Kd.R_reads' HO410.out).2.2); (case side2 => exact (Kd.R_reads' HO410.out).2.1); rintro e w10 ⟨v413, rfl, ho0, hb⟩; refine ⟨_, rfl, ?_⟩; have HO414 := Aside0.mk (Kd.R_lower (Kd.R_new' ho0 (Kd.R_lt (rU HO410.out))) (below_size (lU))); replace HO410 := Aside0.mk (Kd.R_elder' (rU HO410.out) (Kd.R_base ho0) hb); replace HB := bH (lU) hb; (try clear hb); (try clear ho0)))
  go_ret2
  exact ⟨_, eE, by (with_reducible repeat (first | apply Kd.R_alloc | apply Kd.R_drewN | apply Kd.R_drew)); exact Kd.R_mono HO414.out (fun _ hk => trivial), lU⟩
 ·replace c6 := Bool.eq_false_iff.mpr c6
  subst c6
  have H1 : (some (([] : List (S33)), false)) = some (r1, r2) := by rw [if_neg (show ¬ (false = true) by decide)] at H; exact H
  clear H
  have H := H1
  clear H1
  simp only [Option.some.injEq, Prod.mk.injEq] at H
  obtain ⟨rfl, rfl⟩ := H
  go_enter Try.func12, Try.ntmps12
  go_wp2_with (first | ((with_reducible refine gate_callee (f := 5) rfl ?_); refine goesL_ (some 16) rfl rfl Try.func5 (by kernel_rfl) rfl #[.slice A0 l0.length c0, .int .i64 a1, .int .i64 a2] rfl aE ?_; (with_reducible refine (impl_PushLine.calls k _ _ l0 a1 a2 t407 false _ ?side1 ?side2 A5.out).mono ?_); (case side1 => repeat (first | exact HR0.out | (with_reducible refine Kd.C_alloc ?_ _) | (with_reducible refine Kd.C_drewN ?_ _) | (with_reducible refine Kd.C_drew ?_))); (case side2 => exact HC0.out); rintro e w11 ⟨v409, rfl, ho0, hb⟩; refine ⟨_, rfl, ?_⟩; have HO410 := Aside0.mk (Kd.R_lower ho0 (below_size (lU))); replace HB := bH (lU) hb; (try clear hb); (try clear ho0)))
  go_ret2
  exact ⟨_, eE, by first | exact Kd.R_nil _ _ _ _ _ | exact Kd.N_nil _ _ _ _ _ | exact Kd.V_nil _ _ _ _ _ | exact Kd.Q_nil _ _ _ _ _ | exact Kd.S_nil _ _ _ _ _, lU⟩
def impl_StepIslands.l0 : Nat → Int → Int → Int → List (List (S33)) → List (List (S33)) → Int → Int → Option ((List (List (S33))) × Bool)
 | 0, _, _, _, _, _, _, _ => none
 | k + 1, x1, x2, x3, x10, x19, x20, x21 => if x21 < x20 then (if 0 ≤ x21 then (if x21 < (x19.length : Int) then ((impl_StepLine.f k (rd_L3 x19 x21) x1 x2 x3).bind fun bt419 => (if bt419.2 = true then (if x10.length < 5864062014805 then (impl_StepIslands.l0 k x1 x2 x3 (x10 ++ [bt419.1]) x19 x20 (wrap64 (x21 + 1))) else (none)) else (some (([] : List (List (S33))), false)))) else (none)) else (none)) else (some (x10, true))
def impl_StepIslands.f (k : Nat) (l0 : List (List (S33))) (a1 : Int) (a2 : Int) (a3 : Int) : Option ((List (List (S33))) × Bool) := if (l0.length : Int) > 20 then (some (([] : List (List (S33))), false)) else (impl_StepIslands.l0 k a1 a2 a3 (([] : List (List (S33)))) l0 (l0.length : Int) 0)
theorem impl_StepIslands.mono_l : ∀ k, (∀ y0 y1 y2 y3 y4 y5 y6, LeO (impl_StepIslands.l0 k y0 y1 y2 y3 y4 y5 y6) (impl_StepIslands.l0 (k + 1) y0 y1 y2 y3 y4 y5 y6))
 | 0 => fun _ _ _ _ _ _ _ r h => by simp [impl_StepIslands.l0] at h
 | k + 1 => by
  have ih0 := impl_StepIslands.mono_l k
  ·intro y0 y1 y2 y3 y4 y5 y6
   unfold impl_StepIslands.l0
   repeat' first
   | (with_reducible exact ih0 _ _ _ _ _ _ _)
   | (with_reducible exact impl_StepLine.mono _ _ _ _ _)
   | (with_reducible first | exact LeO.refl _ | exact LeO.none _ | refine LeO.ite ?_ ?_ | refine LeO.bind ?_ (fun _ => ?_))
   | exact ih0 _ _ _ _ _ _ _
   | exact impl_StepLine.mono _ _ _ _ _ | exact LeO.none _ | refine LeO.ite ?_ ?_ | refine LeO.bind ?_ (fun _ => ?_)
theorem impl_StepIslands.mono : ∀ a0 a1 a2 a3 k, LeO (impl_StepIslands.f k a0 a1 a2 a3) (impl_StepIslands.f (k + 1) a0 a1 a2 a3) := by
 intro a0 a1 a2 a3 k
 have ih0 := impl_StepIslands.mono_l k
 unfold impl_StepIslands.f
 repeat' first
   | (with_reducible exact ih0 _ _ _ _ _ _ _)
   | (with_reducible exact impl_StepLine.mono _ _ _ _ _)
   | (with_reducible first | exact LeO.refl _ | exact LeO.none _ | refine LeO.ite ?_ ?_ | refine LeO.bind ?_ (fun _ => ?_))
   | exact ih0 _ _ _ _ _ _ _
   | exact impl_StepLine.mono _ _ _ _ _ | exact LeO.none _ | refine LeO.ite ?_ ?_ | refine LeO.bind ?_ (fun _ => ?_)
set_option maxHeartbeats 8000000 in
set_option maxRecDepth 100000 in
theorem impl_StepIslands.calls (k : Nat) (A0 : Option Addr) (c0 : Nat) (l0 : List (List (S33))) (a1 : Int) (a2 : Int) (a3 : Int) (r1 : List (List (S33))) (r2 : Bool) (w : World) (hr0 : Kd.C (Kd.slice 33 k33) w A0 l0.length l0) (hc0 : l0.length ≤ c0) (h : impl_StepIslands.f k l0 a1 a2 a3 = some (r1, r2)) :
  Calls Try.prog 11 #[.slice A0 l0.length c0, .int .i64 a1, .int .i64 a2, .int .i64 a3] w fun e w' => ∃ v0_ : Value, e = .returned (.tuple #[v0_, .bool r2]) ∧ Kd.S (Kd.slice 33 k33) 23 w' w.heap.size (fun _ => True) v0_ r1 ∧ Below w.heap.size w w' := by
 have HR0 := Aside0.mk hr0
 have HC0 := Aside0.mk hc0
 clear hr0 hc0
 have HB := Aside0.mk (Below.refl w.heap.size w)
 have H : (if (l0.length : Int) > 20 then (some (([] : List (List (S33))), false)) else (impl_StepIslands.l0 k a1 a2 a3 (([] : List (List (S33)))) l0 (l0.length : Int) 0)) = some (r1, r2) := h
 clear h
 by_cases c5 : (l0.length : Int) > 20
 ·rw [if_pos c5] at H
  have c5b0 : decide (20 < (l0.length : Int)) = true := decide_eq_true c5
  have c5b1 : decide (20 < l0.length) = true := decide_eq_true (by omega)
  clear c5
  simp only [Option.some.injEq, Prod.mk.injEq] at H
  obtain ⟨rfl, rfl⟩ := H
  go_enter Try.func11, Try.ntmps11
  go_wp2
  go_ret2
  exact ⟨_, eE, by first | exact Kd.S_nil _ _ _ _ _ | exact Kd.N_nil _ _ _ _ _ | exact Kd.V_nil _ _ _ _ _ | exact Kd.Q_nil _ _ _ _ _ | exact Kd.R_nil _ _ _ _ _, lU⟩
 ·rw [if_neg c5] at H
  have c5b0 : decide (20 < (l0.length : Int)) = false := decide_eq_false c5
  have c5b1 : decide (20 < l0.length) = false := decide_eq_false (by omega)
  clear c5
  obtain ⟨y415, hy415⟩ : ∃ y_ : List (List (S33)), y_ = (([] : List (List (S33)))) := ⟨_, rfl⟩
  replace H : (impl_StepIslands.l0 k a1 a2 a3 y415 l0 (l0.length : Int) 0) = some (r1, r2) := by first | (rw [hy415]; with_reducible exact H) | (have H2_ := (Option.bind_some _ _).symm.trans H; rw [hy415]; with_reducible exact H2_) | (have H2_ := (Option.bind_some _ _).symm.trans H; with_reducible exact H2_) | with_reducible exact H | (rw [hy415]; exact H) | exact H
  have Ny415 := Aside0.mk hy415
  clear hy415
  have H' := Aside0.mk H
  clear H
  go_enter Try.func11, Try.ntmps11
  go_wp2_with (first | ((with_reducible refine gate_dst (N := 18) rfl ?_); refine Kd.S_lit (Kd.slice 33 k33) _ 23 ?hg (N := 18) ?hd (xs := ([] : List (List (S33)))) (inner := []) (ok := fun _ => True) (okp := fun _ => True) ?hr ?hp (fun _ hk => hk) trivial (Below.refl _ _) (Nat.le_refl _) (by simp) ?_; (case hd => rfl); (case hg => rfl); (case hr => exact sE); (case hp => exact (Reps.none _ _)); intro v416 w6 ho7 hb hg_ hnew_; clear hg_ hnew_; (first | rw [← Ny415.out] at ho7 | (simp only [Int.reduceToNat] at ho7; rw [← Ny415.out] at ho7)); have HO417 := Aside0.mk (Kd.S_lower ho7 (below_size (lU))); replace HB := bH (lU) hb; clear hb ho7))
  (try simp only [Act.put, List.setIfInBounds_toArray, List.set_cons_zero, List.set_cons_succ])
  go_loopg [10, 21] k (fun kq v10 v21 w' => ∃ (x10_1 : List (List (S33))) (x21_1 : Int), v21 = .int .i64 x21_1 ∧ Aside0 (impl_StepIslands.l0 kq a1 a2 a3 x10_1 l0 (l0.length : Int) x21_1 = some (r1, r2)) ∧ Aside0 (kq ≤ k) ∧ Aside0 (Kd.S (Kd.slice 33 k33) 23 w' w.heap.size (fun _ => True) v10 x10_1) ∧ Aside0 (Below w.heap.size w w'))
  case atStart => exact ⟨(y415), (0), tE, H', ⟨Nat.le_refl _⟩, ⟨by (with_reducible repeat (first | apply Kd.S_alloc | apply Kd.S_drewN | apply Kd.S_drew)); exact HO417.out⟩, ⟨by repeat (first | (with_reducible first | exact HB.out | apply below_alloc | apply pw_below_drewN | apply below_drew1) | exact HB.out)⟩⟩
  case round =>
   clear H'
   try clear c5; try clear c5b0; try clear c5b1
   obtain ⟨x10_1, x21_1, rfl, HA, HK1, HO_10, HB⟩ := hrel
   cases gk with
   | zero => exact absurd HA.out (by simp [impl_StepIslands.l0])
   | succ k1 =>
    have H := HA.out
    clear HA
    simp only [impl_StepIslands.l0] at H
    by_cases c8 : x21_1 < (l0.length : Int)
    ·rw [if_pos c8] at H
     have c8b0 : decide (x21_1 < (l0.length : Int)) = true := decide_eq_true c8
     clear c8
     by_cases c9 : 0 ≤ x21_1
     ·rw [if_pos c9] at H
      have c9b0 : decide (0 ≤ x21_1) = true := decide_eq_true c9
      clear c9
      by_cases c10 : x21_1 < (l0.length : Int)
      ·rw [if_pos c10] at H
       have c10b0 : decide (x21_1 < (l0.length : Int)) = true := decide_eq_true c10
       clear c10
       replace H := Option.bind_eq_some_iff.mp H
       obtain ⟨⟨t419, t420⟩, A110, H⟩ := H
       replace H : (if t420 = true then (if x10_1.length < 5864062014805 then (impl_StepIslands.l0 k1 a1 a2 a3 (x10_1 ++ [t419]) l0 (l0.length : Int) (wrap64 (x21_1 + 1))) else (none)) else (some (([] : List (List (S33))), false))) = some (r1, r2) := H
       have A11 := Aside0.mk A110
       clear A110
       by_cases c12 : t420 = true
       ·subst c12
        have H1 : (if x10_1.length < 5864062014805 then (impl_StepIslands.l0 k1 a1 a2 a3 (x10_1 ++ [t419]) l0 (l0.length : Int) (wrap64 (x21_1 + 1))) else (none)) = some (r1, r2) := by rw [if_pos rfl] at H; exact H
        clear H
        have H := H1
        clear H1
        by_cases c13 : x10_1.length < 5864062014805
        ·rw [if_pos c13] at H
         have LMc13 := Aside0.mk c13
         clear c13
         obtain ⟨y423, hy423⟩ : ∃ y_ : List (List (S33)), y_ = (x10_1 ++ [t419]) := ⟨_, rfl⟩
         replace H : (impl_StepIslands.l0 k1 a1 a2 a3 y423 l0 (l0.length : Int) (wrap64 (x21_1 + 1))) = some (r1, r2) := by first | (rw [hy423]; with_reducible exact H) | (have H2_ := (Option.bind_some _ _).symm.trans H; rw [hy423]; with_reducible exact H2_) | (have H2_ := (Option.bind_some _ _).symm.trans H; with_reducible exact H2_) | with_reducible exact H | (rw [hy423]; exact H) | exact H
         have Ny423 := Aside0.mk hy423
         clear hy423
         have H' := Aside0.mk H
         clear H
         have p418 : 0 ≤ (x21_1 : Int) := of_decide_eq_true hE
         have q418 : x21_1 < (l0.length : Int) := of_decide_eq_true hE
         obtain ⟨ad418, A418_0, c418_0, e418, hx418_0, hl418_0, hi418_0⟩ := at_L3 HR0.out x21_1 p418 q418
         cases e418
         replace hx418_0 := (HB.out.cell (World.block_lt_of_cell? w _ hx418_0)).trans hx418_0
         have HR418_0 := Aside0.mk hi418_0
         have HC418_0 := Aside0.mk hl418_0
         clear hi418_0 hl418_0
         replace p418 := eq_true p418
         replace q418 := eq_true q418
         go_wp2_with (first | ((with_reducible refine gate_callee (f := 12) rfl ?_); refine goesL_ (some 30) rfl rfl Try.func12 (by kernel_rfl) rfl #[.slice A418_0 (rd_L3 l0 x21_1).length c418_0, .int .i64 a1, .int .i64 a2, .int .i64 a3] rfl aE ?_; (with_reducible refine (impl_StepLine.calls k1 _ _ (rd_L3 l0 x21_1) a1 a2 a3 t419 true _ ?side1 ?side2 A11.out).mono ?_); (case side1 => exact cU (Kd.C_below HR418_0.out HB.out)); (case side2 => exact HC418_0.out); rintro e w14 ⟨v421, rfl, ho0, hb⟩; refine ⟨_, rfl, ?_⟩; replace HO_10 := Aside0.mk (Kd.S_elder' (by (with_reducible repeat (first | apply Kd.S_alloc | apply Kd.S_drewN | apply Kd.S_drew)); exact HO_10.out) (Kd.R_base ho0) hb); have HO422 := Aside0.mk (Kd.R_lower ho0 (below_size (lU))); replace HB := bH (lU) hb; (try clear hb); (try clear ho0); obtain ⟨Ao16, co16, eo16⟩ := Kd.R_slice HO422.out; subst eo16) | ((with_reducible refine gate_builtin (b := .append) (xs := #[.tmp 35, .tmp 37]) rfl ?_); at_builtin; refine Kd.S_append (Kd.slice 33 k33) (w0 := w) w.heap.size rfl (.tmp 35) (.tmp 37) 35 23 (.slice none 0 0) 24 rfl Try.underlying35 info23 rfl (by decide) (by omega) u10 x10_1 t419 [.slice Ao16 t419.length co16] (fun _ => True) (fun k_ => some k_ = (.slice Ao16 t419.length co16 : Value).ownBlock) rfl rfl ?aP (fun k_ hk_ => ((Kd.R_mono (ok' := fun k_ => ((fun _ => True)) k_ ∧ some k_ ≠ (u10 : Value).ownBlock) (Kd.R_apart' (HO422.out) (Kd.S_typed HO_10.out) (by decide)) (fun k_ hk => ⟨trivial, hk.2⟩))).1 k_ hk_.symm) ?aF ?aO ?aB ?aS ?aL ?_; (case aP => exact Kd.M_row (Kd.R_mono (Kd.R_tight rfl (Kd.R_mono (ok' := fun k_ => ((fun _ => True)) k_ ∧ some k_ ≠ (u10 : Value).ownBlock) (Kd.R_apart' (HO422.out) (Kd.S_typed HO_10.out) (by decide)) (fun k_ hk => ⟨trivial, hk.2⟩))) (fun _ h_ => h_))); (case aB => exact (lU)); (case aF => exact (fun _ _ => trivial)); (case aO => exact (by (with_reducible repeat (first | apply Kd.S_alloc | apply Kd.S_drewN | apply Kd.S_drew)); exact Kd.S_mono HO_10.out (fun k_ hk => ⟨trivial, fun e_ => hk.2 e_⟩))); (case aS => exact (below_size (lU))); (case aL => have := LMc13.out; omega); intro v424 w15 ho hb hg hat; rw [← Ny423.out] at ho; replace HB := Aside0.mk hb; have HO425 := Aside0.mk ho; clear HO_10 HO422; clear ho hb hg hat))
         go_roundg k1
         case measure => have := HK1.out; omega
         case rel => exact ⟨(y423), (wrap64 (x21_1 + 1)), tE, H', ⟨by have := HK1.out; omega⟩, ⟨by (with_reducible repeat (first | apply Kd.S_alloc | apply Kd.S_drewN | apply Kd.S_drew)); exact HO425.out⟩, ⟨by repeat (first | (with_reducible first | exact HB.out | apply below_alloc | apply pw_below_drewN | apply below_drew1) | exact HB.out)⟩⟩
        ·rw [if_neg c13] at H
         exact absurd H (by simp)
       ·replace c12 := Bool.eq_false_iff.mpr c12
        subst c12
        have H1 : (some (([] : List (List (S33))), false)) = some (r1, r2) := by rw [if_neg (show ¬ (false = true) by decide)] at H; exact H
        clear H
        have H := H1
        clear H1
        simp only [Option.some.injEq, Prod.mk.injEq] at H
        obtain ⟨rfl, rfl⟩ := H
        have p418 : 0 ≤ (x21_1 : Int) := of_decide_eq_true hE
        have q418 : x21_1 < (l0.length : Int) := of_decide_eq_true hE
        obtain ⟨ad418, A418_0, c418_0, e418, hx418_0, hl418_0, hi418_0⟩ := at_L3 HR0.out x21_1 p418 q418
        cases e418
        replace hx418_0 := (HB.out.cell (World.block_lt_of_cell? w _ hx418_0)).trans hx418_0
        have HR418_0 := Aside0.mk hi418_0
        have HC418_0 := Aside0.mk hl418_0
        clear hi418_0 hl418_0
        replace p418 := eq_true p418
        replace q418 := eq_true q418
        go_wp2_with (first | ((with_reducible refine gate_callee (f := 12) rfl ?_); refine goesL_ (some 30) rfl rfl Try.func12 (by kernel_rfl) rfl #[.slice A418_0 (rd_L3 l0 x21_1).length c418_0, .int .i64 a1, .int .i64 a2, .int .i64 a3] rfl aE ?_; (with_reducible refine (impl_StepLine.calls k1 _ _ (rd_L3 l0 x21_1) a1 a2 a3 t419 false _ ?side1 ?side2 A11.out).mono ?_); (case side1 => exact cU (Kd.C_below HR418_0.out HB.out)); (case side2 => exact HC418_0.out); rintro e w17 ⟨v421, rfl, ho0, hb⟩; refine ⟨_, rfl, ?_⟩; replace HO_10 := Aside0.mk (Kd.S_elder' (by (with_reducible repeat (first | apply Kd.S_alloc | apply Kd.S_drewN | apply Kd.S_drew)); exact HO_10.out) (Kd.R_base ho0) hb); have HO422 := Aside0.mk (Kd.R_lower ho0 (below_size (lU))); replace HB := bH (lU) hb; (try clear hb); (try clear ho0)))
        go_ret2
        exact ⟨_, eE, by first | exact Kd.S_nil _ _ _ _ _ | exact Kd.N_nil _ _ _ _ _ | exact Kd.V_nil _ _ _ _ _ | exact Kd.Q_nil _ _ _ _ _ | exact Kd.R_nil _ _ _ _ _, lU⟩
      ·rw [if_neg c10] at H
       exact absurd H (by simp)
     ·rw [if_neg c9] at H
      exact absurd H (by simp)
    ·rw [if_neg c8] at H
     have c8b0 : decide (x21_1 < (l0.length : Int)) = false := decide_eq_false c8
     clear c8
     simp only [Option.some.injEq, Prod.mk.injEq] at H
     obtain ⟨rfl, rfl⟩ := H
     go_wp2
     go_ret2
     exact ⟨_, eE, by (with_reducible repeat (first | apply Kd.S_alloc | apply Kd.S_drewN | apply Kd.S_drew)); exact HO_10.out, lU⟩
end Go.Proofs.Ytnacjhgpanedoab.PFnPushed
