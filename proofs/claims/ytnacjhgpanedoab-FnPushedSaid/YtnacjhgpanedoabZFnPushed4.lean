/- Texts of a row. -/
import Derived.Test.YtnacjhgpanedoabZFnPushed3
namespace Go.Proofs.Ytnacjhgpanedoab.PFnPushed
open Go.RowKit Go.Proofs.YtnacjhgpanedoabW.PrintWords Go.Proofs.YtnacjhgpanedoabW.PrintLast Go.Proofs.YtnacjhgpanedoabW.PrintMore
attribute [local go_sem] max2_int min2_int max_two min_two max_three min_three max_four min_four   -- for this text's walks alone
set_option linter.unusedVariables false
set_option linter.unusedSimpArgs false
mutual
def impl_PushLine.j0 : Nat → List (S33) → Int → Int → Bool → Option ((List (S33)) × Bool)
 | 0, _, _, _, _ => none
 | k + 1, x0, x1, x2, x22 => if x22 = true then (some (([] : List (S33)), false)) else ((impl_Body_21.f x0).bind fun t252 => (impl_PushLine.l0 k x1 t252 x2 0))
def impl_PushLine.l0 : Nat → Int → List (S33) → Int → Int → Option ((List (S33)) × Bool)
 | 0, _, _, _, _ => none
 | k + 1, x1, x8, x25, x26 => if x26 < x25 then (impl_PushLine.l1 k x1 x8 1 x25 x26) else (some (x8, true))
def impl_PushLine.l1 : Nat → Int → List (S33) → Int → Int → Int → Option ((List (S33)) × Bool)
 | 0, _, _, _, _, _ => none
 | k + 1, x1, x8, x9, x25, x26 => if x9 < (x8.length : Int) then (if 0 ≤ (wrap64 (x9 - 1)) then (if (wrap64 (x9 - 1)) < (x8.length : Int) then (if 0 ≤ x9 then ((impl_pushed.f k ((rd_T33 x8 (wrap64 (x9 - 1))).f0) ((rd_T33 x8 (wrap64 (x9 - 1))).f1) ((rd_T33 x8 (wrap64 (x9 - 1))).f2) ((rd_T33 x8 (wrap64 (x9 - 1))).f3) ((rd_T33 x8 x9).f0) ((rd_T33 x8 x9).f1) ((rd_T33 x8 x9).f2) ((rd_T33 x8 x9).f3) x1).bind fun bt257 => ((some ((x8.set ((wrap64 (x9 - 1)) : Int).toNat (⟨bt257.1, bt257.2.1, bt257.2.2.1, bt257.2.2.2.1⟩ : S33)).set (x9 : Int).toNat (⟨bt257.2.2.2.2.1, bt257.2.2.2.2.2.1, bt257.2.2.2.2.2.2.1, bt257.2.2.2.2.2.2.2⟩ : S33) : List (S33))).bind fun y266 => ((impl_isBody.f ((rd_T33 y266 (wrap64 (x9 - 1))).f0) ((rd_T33 y266 (wrap64 (x9 - 1))).f1) ((rd_T33 y266 (wrap64 (x9 - 1))).f2) ((rd_T33 y266 (wrap64 (x9 - 1))).f3)).bind fun t268 => (if t268 = true then ((impl_isBody.f ((rd_T33 y266 x9).f0) ((rd_T33 y266 x9).f1) ((rd_T33 y266 x9).f2) ((rd_T33 y266 x9).f3)).bind fun t270 => (if t270 = true then (impl_PushLine.l1 k x1 y266 (wrap64 (x9 + 1)) x25 x26) else (some (([] : List (S33)), false)))) else (some (([] : List (S33)), false)))))) else (none)) else (none)) else (none)) else (impl_PushLine.l0 k x1 x8 x25 (wrap64 (x26 + 1)))
end
def impl_PushLine.f (k : Nat) (l0 : List (S33)) (a1 : Int) (a2 : Int) : Option ((List (S33)) × Bool) := (impl_GoodLine.f k l0).bind fun t249 => (if t249 = true then ((impl_isBounce.f a1).bind fun t250 => (if t250 = true then ((impl_inRange.f a2 0 50).bind fun t251 => (impl_PushLine.j0 k l0 a1 a2 (!t251))) else (impl_PushLine.j0 k l0 a1 a2 true))) else (impl_PushLine.j0 k l0 a1 a2 true))
theorem impl_PushLine.mono_l : ∀ k, (∀ y0 y1 y2 y3, LeO (impl_PushLine.j0 k y0 y1 y2 y3) (impl_PushLine.j0 (k + 1) y0 y1 y2 y3)) ∧ (∀ y0 y1 y2 y3, LeO (impl_PushLine.l0 k y0 y1 y2 y3) (impl_PushLine.l0 (k + 1) y0 y1 y2 y3)) ∧ (∀ y0 y1 y2 y3 y4, LeO (impl_PushLine.l1 k y0 y1 y2 y3 y4) (impl_PushLine.l1 (k + 1) y0 y1 y2 y3 y4))
 | 0 => ⟨fun _ _ _ _ r h => by simp [impl_PushLine.j0] at h, fun _ _ _ _ r h => by simp [impl_PushLine.l0] at h, fun _ _ _ _ _ r h => by simp [impl_PushLine.l1] at h⟩
 | k + 1 => by
  obtain ⟨ih0, ih1, ih2⟩ := impl_PushLine.mono_l k
  refine ⟨?_, ?_, ?_⟩
  ·intro y0 y1 y2 y3
   unfold impl_PushLine.j0
   repeat' first
   | (with_reducible exact ih0 _ _ _ _)
   | (with_reducible exact ih1 _ _ _ _)
   | (with_reducible exact ih2 _ _ _ _ _)
   | (with_reducible exact impl_GoodLine.mono _ _)
   | (with_reducible exact impl_pushed.mono _ _ _ _ _ _ _ _ _ _)
   | (with_reducible first | exact LeO.refl _ | exact LeO.none _ | refine LeO.ite ?_ ?_ | refine LeO.bind ?_ (fun _ => ?_))
   | exact ih0 _ _ _ _
   | exact ih1 _ _ _ _
   | exact ih2 _ _ _ _ _
   | exact impl_GoodLine.mono _ _
   | exact impl_pushed.mono _ _ _ _ _ _ _ _ _ _ | exact LeO.none _ | refine LeO.ite ?_ ?_ | refine LeO.bind ?_ (fun _ => ?_)
  ·intro y0 y1 y2 y3
   unfold impl_PushLine.l0
   repeat' first
   | (with_reducible exact ih0 _ _ _ _)
   | (with_reducible exact ih1 _ _ _ _)
   | (with_reducible exact ih2 _ _ _ _ _)
   | (with_reducible exact impl_GoodLine.mono _ _)
   | (with_reducible exact impl_pushed.mono _ _ _ _ _ _ _ _ _ _)
   | (with_reducible first | exact LeO.refl _ | exact LeO.none _ | refine LeO.ite ?_ ?_ | refine LeO.bind ?_ (fun _ => ?_))
   | exact ih0 _ _ _ _
   | exact ih1 _ _ _ _
   | exact ih2 _ _ _ _ _
   | exact impl_GoodLine.mono _ _
   | exact impl_pushed.mono _ _ _ _ _ _ _ _ _ _ | exact LeO.none _ | refine LeO.ite ?_ ?_ | refine LeO.bind ?_ (fun _ => ?_)
  ·intro y0 y1 y2 y3 y4
   unfold impl_PushLine.l1
   repeat' first
   | (with_reducible exact ih0 _ _ _ _)
   | (with_reducible exact ih1 _ _ _ _)
   | (with_reducible exact ih2 _ _ _ _ _)
   | (with_reducible exact impl_GoodLine.mono _ _)
   | (with_reducible exact impl_pushed.mono _ _ _ _ _ _ _ _ _ _)
   | (with_reducible first | exact LeO.refl _ | exact LeO.none _ | refine LeO.ite ?_ ?_ | refine LeO.bind ?_ (fun _ => ?_))
   | exact ih0 _ _ _ _
   | exact ih1 _ _ _ _
   | exact ih2 _ _ _ _ _
   | exact impl_GoodLine.mono _ _
   | exact impl_pushed.mono _ _ _ _ _ _ _ _ _ _ | exact LeO.none _ | refine LeO.ite ?_ ?_ | refine LeO.bind ?_ (fun _ => ?_)
theorem impl_PushLine.mono : ∀ a0 a1 a2 k, LeO (impl_PushLine.f k a0 a1 a2) (impl_PushLine.f (k + 1) a0 a1 a2) := by
 intro a0 a1 a2 k
 obtain ⟨ih0, ih1, ih2⟩ := impl_PushLine.mono_l k
 unfold impl_PushLine.f
 repeat' first
   | (with_reducible exact ih0 _ _ _ _)
   | (with_reducible exact ih1 _ _ _ _)
   | (with_reducible exact ih2 _ _ _ _ _)
   | (with_reducible exact impl_GoodLine.mono _ _)
   | (with_reducible exact impl_pushed.mono _ _ _ _ _ _ _ _ _ _)
   | (with_reducible first | exact LeO.refl _ | exact LeO.none _ | refine LeO.ite ?_ ?_ | refine LeO.bind ?_ (fun _ => ?_))
   | exact ih0 _ _ _ _
   | exact ih1 _ _ _ _
   | exact ih2 _ _ _ _ _
   | exact impl_GoodLine.mono _ _
   | exact impl_pushed.mono _ _ _ _ _ _ _ _ _ _ | exact LeO.none _ | refine LeO.ite ?_ ?_ | refine LeO.bind ?_ (fun _ => ?_)
def impl_PushLine.T9 : Bool × List (List Nat × List Nat) := (true, [([], []), ([], []), ([1], [1]), ([], []), ([], []), ([], []), ([], []), ([6], [6]), ([5, 7], [5, 7]), ([8], [8]), ([], []), ([], []), ([10, 11], [10, 11]), ([12], [12]), ([], []), ([9, 13, 14], [9, 13, 14]), ([15], [15]), ([16], [16]), ([16], [16]), ([0, 2, 0, 1, 2, 5, 6, 7, 8, 9, 10, 11, 12, 13, 14, 15, 16, 17], [0, 2]), ([19, 17, 15, 0, 1, 2, 5, 6, 7, 8, 9, 10, 11, 12, 13, 14, 15, 16, 17], [17, 19]), ([3, 4, 0, 1, 2, 3, 4, 5, 6, 7, 8, 9, 10, 11, 12, 13, 14, 15, 16, 17, 18, 19, 20], [3, 4]), ([21, 18, 20, 0, 1, 2, 3, 4, 5, 6, 7, 8, 9, 10, 11, 12, 13, 14, 15, 16, 17, 18, 19, 20], [18, 21])])
def impl_PushLine.B9 : List Nat := [0, 0, 2, 0, 0, 0, 0, 64, 224, 480, 0, 0, 3072, 7168, 0, 32736, 65504, 131040, 131040, 262119, 786407, 2097151, 4194303]
theorem impl_PushLine.tab9 : rtab .any (opsOf Try.f5 9) = impl_PushLine.T9 := by kernel_rfl
theorem impl_PushLine.bits9 : waitsOk impl_PushLine.T9.2 impl_PushLine.B9 = true := by kernel_rfl
set_option maxHeartbeats 8000000 in
set_option maxRecDepth 100000 in
theorem impl_PushLine.calls (k : Nat) (A0 : Option Addr) (c0 : Nat) (l0 : List (S33)) (a1 : Int) (a2 : Int) (r1 : List (S33)) (r2 : Bool) (w : World) (hr0 : Kd.C k33 w A0 l0.length l0) (hc0 : l0.length ≤ c0) (h : impl_PushLine.f k l0 a1 a2 = some (r1, r2)) :
  Calls Try.prog 5 #[.slice A0 l0.length c0, .int .i64 a1, .int .i64 a2] w fun e w' => ∃ v0_ : Value, e = .returned (.tuple #[v0_, .bool r2]) ∧ Kd.R k33 33 w' w.heap.size (fun _ => True) v0_ r1 ∧ Below w.heap.size w w' := by
 have hu33 := Try.underlying33
 have HR0 := Aside0.mk hr0
 have HC0 := Aside0.mk hc0
 clear hr0 hc0
 have HB := Aside0.mk (Below.refl w.heap.size w)
 have H : ((impl_GoodLine.f k l0).bind fun t249 => (if t249 = true then ((impl_isBounce.f a1).bind fun t250 => (if t250 = true then ((impl_inRange.f a2 0 50).bind fun t251 => (impl_PushLine.j0 k l0 a1 a2 (!t251))) else (impl_PushLine.j0 k l0 a1 a2 true))) else (impl_PushLine.j0 k l0 a1 a2 true))) = some (r1, r2) := h
 clear h
 have HC4 := Aside0.mk H
 clear H
 go_enter Try.func5, Try.ntmps5
 go_upto_region 1 with (fail)
 go_cut [22] (fun v22 wc => ∃ (kq : Nat) (x22_3 : Bool), v22 = .bool x22_3 ∧ Aside0 (impl_PushLine.j0 kq l0 a1 a2 x22_3 = some (r1, r2)) ∧ Aside0 (kq ≤ k) ∧ Aside0 (Below w.heap.size w wc))
 case first =>
  have H := HC4.out
  clear HC4
  replace H := Option.bind_eq_some_iff.mp H
  obtain ⟨t249, A50, H⟩ := H
  replace H : (if t249 = true then ((impl_isBounce.f a1).bind fun t250 => (if t250 = true then ((impl_inRange.f a2 0 50).bind fun t251 => (impl_PushLine.j0 k l0 a1 a2 (!t251))) else (impl_PushLine.j0 k l0 a1 a2 true))) else (impl_PushLine.j0 k l0 a1 a2 true)) = some (r1, r2) := H
  have A5 := Aside0.mk A50
  clear A50
  by_cases c6 : t249 = true
  ·subst c6
   have H1 : ((impl_isBounce.f a1).bind fun t250 => (if t250 = true then ((impl_inRange.f a2 0 50).bind fun t251 => (impl_PushLine.j0 k l0 a1 a2 (!t251))) else (impl_PushLine.j0 k l0 a1 a2 true))) = some (r1, r2) := by rw [if_pos rfl] at H; exact H
   clear H
   have H := H1
   clear H1
   replace H := Option.bind_eq_some_iff.mp H
   obtain ⟨t250, A70, H⟩ := H
   replace H : (if t250 = true then ((impl_inRange.f a2 0 50).bind fun t251 => (impl_PushLine.j0 k l0 a1 a2 (!t251))) else (impl_PushLine.j0 k l0 a1 a2 true)) = some (r1, r2) := H
   have A7 := Aside0.mk A70
   clear A70
   by_cases c8 : t250 = true
   ·subst c8
    have H1 : ((impl_inRange.f a2 0 50).bind fun t251 => (impl_PushLine.j0 k l0 a1 a2 (!t251))) = some (r1, r2) := by rw [if_pos rfl] at H; exact H
    clear H
    have H := H1
    clear H1
    replace H := Option.bind_eq_some_iff.mp H
    obtain ⟨t251, A90, H⟩ := H
    replace H : (impl_PushLine.j0 k l0 a1 a2 (!t251)) = some (r1, r2) := H
    have A9 := Aside0.mk A90
    clear A90
    have H' := Aside0.mk H
    clear H
    go_wp2_with (first | ((with_reducible refine gate_callee (f := 18) rfl ?_); refine goesL_ (some 11) rfl rfl Try.func18 (by kernel_rfl) rfl #[.slice A0 l0.length c0] rfl aE ?_; (with_reducible refine (impl_GoodLine.calls k _ _ l0 true _ ?side1 ?side2 A5.out).mono ?_); (case side1 => exact cU (Kd.C_below HR0.out HB.out)); (case side2 => exact HC0.out); rintro e w10 ⟨rfl, hb⟩; refine ⟨_, rfl, ?_⟩; replace HB := bH (lU) hb; (try clear hb)) | (go_at_call 19; (with_reducible refine (impl_isBounce.calls a1 true _ A7.out).mono ?_); rintro e w' ⟨rfl, ⟨nd, rfl⟩⟩) | (go_at_call 20; (with_reducible refine (impl_inRange.calls a2 0 50 t251 _ A9.out).mono ?_); rintro e w' ⟨rfl, ⟨nd, rfl⟩⟩))
    go_meet
    case rel => exact ⟨_, (!t251), tE, H', ⟨by first | omega | exact Nat.le_refl _⟩, ⟨by repeat (first | (with_reducible first | exact HB.out | apply below_alloc | apply pw_below_drewN | apply below_drew1) | exact HB.out)⟩⟩
   ·replace c8 := Bool.eq_false_iff.mpr c8
    subst c8
    have H1 : (impl_PushLine.j0 k l0 a1 a2 true) = some (r1, r2) := by rw [if_neg (show ¬ (false = true) by decide)] at H; exact H
    clear H
    have H := H1
    clear H1
    have H' := Aside0.mk H
    clear H
    go_wp2_with (first | ((with_reducible refine gate_callee (f := 18) rfl ?_); refine goesL_ (some 11) rfl rfl Try.func18 (by kernel_rfl) rfl #[.slice A0 l0.length c0] rfl aE ?_; (with_reducible refine (impl_GoodLine.calls k _ _ l0 true _ ?side1 ?side2 A5.out).mono ?_); (case side1 => exact cU (Kd.C_below HR0.out HB.out)); (case side2 => exact HC0.out); rintro e w11 ⟨rfl, hb⟩; refine ⟨_, rfl, ?_⟩; replace HB := bH (lU) hb; (try clear hb)) | (go_at_call 19; (with_reducible refine (impl_isBounce.calls a1 false _ A7.out).mono ?_); rintro e w' ⟨rfl, ⟨nd, rfl⟩⟩))
    go_meet
    case rel => exact ⟨_, (true), tE, H', ⟨by first | omega | exact Nat.le_refl _⟩, ⟨by repeat (first | (with_reducible first | exact HB.out | apply below_alloc | apply pw_below_drewN | apply below_drew1) | exact HB.out)⟩⟩
  ·replace c6 := Bool.eq_false_iff.mpr c6
   subst c6
   have H1 : (impl_PushLine.j0 k l0 a1 a2 true) = some (r1, r2) := by rw [if_neg (show ¬ (false = true) by decide)] at H; exact H
   clear H
   have H := H1
   clear H1
   have H' := Aside0.mk H
   clear H
   go_wp2_with (first | ((with_reducible refine gate_callee (f := 18) rfl ?_); refine goesL_ (some 11) rfl rfl Try.func18 (by kernel_rfl) rfl #[.slice A0 l0.length c0] rfl aE ?_; (with_reducible refine (impl_GoodLine.calls k _ _ l0 false _ ?side1 ?side2 A5.out).mono ?_); (case side1 => exact cU (Kd.C_below HR0.out HB.out)); (case side2 => exact HC0.out); rintro e w12 ⟨rfl, hb⟩; refine ⟨_, rfl, ?_⟩; replace HB := bH (lU) hb; (try clear hb)))
   go_meet
   case rel => exact ⟨_, (true), tE, H', ⟨by first | omega | exact Nat.le_refl _⟩, ⟨by repeat (first | (with_reducible first | exact HB.out | apply below_alloc | apply pw_below_drewN | apply below_drew1) | exact HB.out)⟩⟩
 case rest =>
  clear HC4
  obtain ⟨kq, x22_3, rfl, HA, HJ3, HB⟩ := hcut
  cases kq with
  | zero => exact absurd HA.out (by simp [impl_PushLine.j0])
  | succ kj3 =>
   have H := HA.out
   clear HA
   simp only [impl_PushLine.j0] at H
   by_cases c13 : x22_3 = true
   ·subst c13
    have H1 : (some (([] : List (S33)), false)) = some (r1, r2) := by rw [if_pos rfl] at H; exact H
    clear H
    have H := H1
    clear H1
    simp only [Option.some.injEq, Prod.mk.injEq] at H
    obtain ⟨rfl, rfl⟩ := H
    go_wp2
    go_ret2
    exact ⟨_, eE, by first | exact Kd.R_nil _ _ _ _ _ | exact Kd.N_nil _ _ _ _ _ | exact Kd.V_nil _ _ _ _ _ | exact Kd.Q_nil _ _ _ _ _ | exact Kd.S_nil _ _ _ _ _, lU⟩
   ·replace c13 := Bool.eq_false_iff.mpr c13
    subst c13
    have H1 : ((impl_Body_21.f l0).bind fun t252 => (impl_PushLine.l0 kj3 a1 t252 a2 0)) = some (r1, r2) := by rw [if_neg (show ¬ (false = true) by decide)] at H; exact H
    clear H
    have H := H1
    clear H1
    replace H := Option.bind_eq_some_iff.mp H
    obtain ⟨t252, A140, H⟩ := H
    replace H : (impl_PushLine.l0 kj3 a1 t252 a2 0) = some (r1, r2) := H
    have A14 := Aside0.mk A140
    clear A140
    have H' := Aside0.mk H
    clear H
    go_wp2_with (first | ((with_reducible refine gate_callee (f := 21) rfl ?_); refine goesL_ (some 24) rfl rfl Try.func21 (by kernel_rfl) rfl #[.slice A0 l0.length c0] rfl aE ?_; (with_reducible refine (impl_Body_21.calls _ _ l0 t252 _ ?side1 ?side2 A14.out).mono ?_); (case side1 => exact cU (Kd.C_below HR0.out HB.out)); (case side2 => exact HC0.out); rintro e w15 ⟨v253, rfl, ho0, hb⟩; refine ⟨_, rfl, ?_⟩; have HO254 := Aside0.mk (Kd.R_lower ho0 (below_size (lU))); replace HB := bH (lU) hb; (try clear hb); (try clear ho0)))
    (try simp only [Act.put, List.setIfInBounds_toArray, List.set_cons_zero, List.set_cons_succ])
    go_loopg [26] kj3 (fun kq v26 w' => ∃ (x8_2 : List (S33)) (x26_2 : Int), v26 = .int .i64 x26_2 ∧ Aside0 (impl_PushLine.l0 kq a1 x8_2 a2 x26_2 = some (r1, r2)) ∧ Aside0 (kq ≤ kj3) ∧ Aside0 (Kd.R k33 33 w' w.heap.size (fun _ => True) v253 x8_2) ∧ Aside0 (Below w.heap.size w w'))
    case atStart => exact ⟨(t252), (0), tE, H', ⟨Nat.le_refl _⟩, ⟨by (with_reducible repeat (first | apply Kd.R_alloc | apply Kd.R_drewN | apply Kd.R_drew)); exact HO254.out⟩, ⟨by repeat (first | (with_reducible first | exact HB.out | apply below_alloc | apply pw_below_drewN | apply below_drew1) | exact HB.out)⟩⟩
    case round =>
     clear H'
     try clear c13
     obtain ⟨x8_2, x26_2, rfl, HA, HK2, HO_8, HB⟩ := hrel
     cases gk with
     | zero => exact absurd HA.out (by simp [impl_PushLine.l0])
     | succ k2 =>
      have H := HA.out
      clear HA
      simp only [impl_PushLine.l0] at H
      by_cases c16 : x26_2 < a2
      ·rw [if_pos c16] at H
       have c16b0 : decide (x26_2 < a2) = true := decide_eq_true c16
       clear c16
       have H' := Aside0.mk H
       clear H
       go_wp2
       go_loopg [9] k2 (fun kq v9 w' => ∃ (x8_3 : List (S33)) (x9_3 : Int), v9 = .int .i64 x9_3 ∧ Aside0 (impl_PushLine.l1 kq a1 x8_3 x9_3 a2 x26_2 = some (r1, r2)) ∧ Aside0 (kq ≤ k2) ∧ Aside0 (Kd.R k33 33 w' w.heap.size (fun _ => True) v253 x8_3) ∧ Aside0 (Below w.heap.size w w'))
       case atStart => exact ⟨(x8_2), (1), tE, H', ⟨Nat.le_refl _⟩, ⟨by (with_reducible repeat (first | apply Kd.R_alloc | apply Kd.R_drewN | apply Kd.R_drew)); exact HO_8.out⟩, ⟨by repeat (first | (with_reducible first | exact HB.out | apply below_alloc | apply pw_below_drewN | apply below_drew1) | exact HB.out)⟩⟩
       case round =>
        clear H'
        try clear c13; try clear c16; try clear c16b0
        obtain ⟨x8_3, x9_3, rfl, HA, HK3, HO_8, HB⟩ := hrel
        cases gk with
        | zero => exact absurd HA.out (by simp [impl_PushLine.l1])
        | succ k3 =>
         have H := HA.out
         clear HA
         simp only [impl_PushLine.l1] at H
         by_cases c17 : x9_3 < (x8_3.length : Int)
         ·rw [if_pos c17] at H
          have c17b0 : decide (x9_3 < (x8_3.length : Int)) = true := decide_eq_true c17
          clear c17
          obtain ⟨ji18, hji18⟩ : ∃ j_ : Int, (wrap64 (x9_3 - 1)) = j_ := ⟨_, rfl⟩
          replace H : (if 0 ≤ (ji18) then (if (ji18) < (x8_3.length : Int) then (if 0 ≤ x9_3 then ((impl_pushed.f k3 ((rd_T33 x8_3 (ji18)).f0) ((rd_T33 x8_3 (ji18)).f1) ((rd_T33 x8_3 (ji18)).f2) ((rd_T33 x8_3 (ji18)).f3) ((rd_T33 x8_3 x9_3).f0) ((rd_T33 x8_3 x9_3).f1) ((rd_T33 x8_3 x9_3).f2) ((rd_T33 x8_3 x9_3).f3) a1).bind fun bt257 => ((some ((x8_3.set ((ji18) : Int).toNat (⟨bt257.1, bt257.2.1, bt257.2.2.1, bt257.2.2.2.1⟩ : S33)).set (x9_3 : Int).toNat (⟨bt257.2.2.2.2.1, bt257.2.2.2.2.2.1, bt257.2.2.2.2.2.2.1, bt257.2.2.2.2.2.2.2⟩ : S33) : List (S33))).bind fun y266 => ((impl_isBody.f ((rd_T33 y266 (ji18)).f0) ((rd_T33 y266 (ji18)).f1) ((rd_T33 y266 (ji18)).f2) ((rd_T33 y266 (ji18)).f3)).bind fun t268 => (if t268 = true then ((impl_isBody.f ((rd_T33 y266 x9_3).f0) ((rd_T33 y266 x9_3).f1) ((rd_T33 y266 x9_3).f2) ((rd_T33 y266 x9_3).f3)).bind fun t270 => (if t270 = true then (impl_PushLine.l1 k3 a1 y266 (wrap64 (x9_3 + 1)) a2 x26_2) else (some (([] : List (S33)), false)))) else (some (([] : List (S33)), false)))))) else (none)) else (none)) else (none)) = some (r1, r2) := by first | (rw [hji18] at H; exact H) | (simp only [hji18] at H ⊢; exact H)
          have hji18w : (IntKind.i64.wrap (x9_3 - 1)) = ji18 := (i64_w _).trans hji18
          by_cases c19 : 0 ≤ (ji18)
          ·rw [if_pos c19] at H
           have c19b0 : decide (0 ≤ (ji18)) = true := decide_eq_true c19
           clear c19
           by_cases c20 : (ji18) < (x8_3.length : Int)
           ·rw [if_pos c20] at H
            have c20b0 : decide ((ji18) < (x8_3.length : Int)) = true := decide_eq_true c20
            clear c20
            by_cases c21 : 0 ≤ x9_3
            ·rw [if_pos c21] at H
             have c21b0 : decide (0 ≤ x9_3) = true := decide_eq_true c21
             clear c21
             replace H := Option.bind_eq_some_iff.mp H
             obtain ⟨⟨t257, t258, t259, t260, t261, t262, t263, t264⟩, A220, H⟩ := H
             replace H : ((some ((x8_3.set ((ji18) : Int).toNat (⟨t257, t258, t259, t260⟩ : S33)).set (x9_3 : Int).toNat (⟨t261, t262, t263, t264⟩ : S33) : List (S33))).bind fun y266 => ((impl_isBody.f ((rd_T33 y266 (ji18)).f0) ((rd_T33 y266 (ji18)).f1) ((rd_T33 y266 (ji18)).f2) ((rd_T33 y266 (ji18)).f3)).bind fun t268 => (if t268 = true then ((impl_isBody.f ((rd_T33 y266 x9_3).f0) ((rd_T33 y266 x9_3).f1) ((rd_T33 y266 x9_3).f2) ((rd_T33 y266 x9_3).f3)).bind fun t270 => (if t270 = true then (impl_PushLine.l1 k3 a1 y266 (wrap64 (x9_3 + 1)) a2 x26_2) else (some (([] : List (S33)), false)))) else (some (([] : List (S33)), false))))) = some (r1, r2) := H
             have A22 := Aside0.mk A220
             clear A220
             obtain ⟨y265, hy265⟩ : ∃ y_ : List (S33), y_ = (x8_3.set ((ji18) : Int).toNat (⟨t257, t258, t259, t260⟩ : S33)) := ⟨_, rfl⟩
             replace H : ((some (y265.set (x9_3 : Int).toNat (⟨t261, t262, t263, t264⟩ : S33) : List (S33))).bind fun y266 => ((impl_isBody.f ((rd_T33 y266 (ji18)).f0) ((rd_T33 y266 (ji18)).f1) ((rd_T33 y266 (ji18)).f2) ((rd_T33 y266 (ji18)).f3)).bind fun t268 => (if t268 = true then ((impl_isBody.f ((rd_T33 y266 x9_3).f0) ((rd_T33 y266 x9_3).f1) ((rd_T33 y266 x9_3).f2) ((rd_T33 y266 x9_3).f3)).bind fun t270 => (if t270 = true then (impl_PushLine.l1 k3 a1 y266 (wrap64 (x9_3 + 1)) a2 x26_2) else (some (([] : List (S33)), false)))) else (some (([] : List (S33)), false))))) = some (r1, r2) := by first | (rw [hy265]; with_reducible exact H) | (have H2_ := (Option.bind_some _ _).symm.trans H; rw [hy265]; with_reducible exact H2_) | (have H2_ := (Option.bind_some _ _).symm.trans H; with_reducible exact H2_) | with_reducible exact H | (rw [hy265]; exact H) | exact H
             have Ny265 := Aside0.mk hy265
             clear hy265
             obtain ⟨y266, hy266⟩ : ∃ y_ : List (S33), y_ = (y265.set (x9_3 : Int).toNat (⟨t261, t262, t263, t264⟩ : S33)) := ⟨_, rfl⟩
             replace H : ((impl_isBody.f ((rd_T33 y266 (ji18)).f0) ((rd_T33 y266 (ji18)).f1) ((rd_T33 y266 (ji18)).f2) ((rd_T33 y266 (ji18)).f3)).bind fun t268 => (if t268 = true then ((impl_isBody.f ((rd_T33 y266 x9_3).f0) ((rd_T33 y266 x9_3).f1) ((rd_T33 y266 x9_3).f2) ((rd_T33 y266 x9_3).f3)).bind fun t270 => (if t270 = true then (impl_PushLine.l1 k3 a1 y266 (wrap64 (x9_3 + 1)) a2 x26_2) else (some (([] : List (S33)), false)))) else (some (([] : List (S33)), false)))) = some (r1, r2) := by first | (rw [hy266]; with_reducible exact H) | (have H2_ := (Option.bind_some _ _).symm.trans H; rw [hy266]; with_reducible exact H2_) | (have H2_ := (Option.bind_some _ _).symm.trans H; with_reducible exact H2_) | with_reducible exact H | (rw [hy266]; exact H) | exact H
             have Ny266 := Aside0.mk hy266
             clear hy266
             replace H := Option.bind_eq_some_iff.mp H
             obtain ⟨t268, A250, H⟩ := H
             replace H : (if t268 = true then ((impl_isBody.f ((rd_T33 y266 x9_3).f0) ((rd_T33 y266 x9_3).f1) ((rd_T33 y266 x9_3).f2) ((rd_T33 y266 x9_3).f3)).bind fun t270 => (if t270 = true then (impl_PushLine.l1 k3 a1 y266 (wrap64 (x9_3 + 1)) a2 x26_2) else (some (([] : List (S33)), false)))) else (some (([] : List (S33)), false))) = some (r1, r2) := H
             have A25 := Aside0.mk A250
             clear A250
             by_cases c26 : t268 = true
             ·subst c26
              have H1 : ((impl_isBody.f ((rd_T33 y266 x9_3).f0) ((rd_T33 y266 x9_3).f1) ((rd_T33 y266 x9_3).f2) ((rd_T33 y266 x9_3).f3)).bind fun t270 => (if t270 = true then (impl_PushLine.l1 k3 a1 y266 (wrap64 (x9_3 + 1)) a2 x26_2) else (some (([] : List (S33)), false)))) = some (r1, r2) := by rw [if_pos rfl] at H; exact H
              clear H
              have H := H1
              clear H1
              replace H := Option.bind_eq_some_iff.mp H
              obtain ⟨t270, A270, H⟩ := H
              replace H : (if t270 = true then (impl_PushLine.l1 k3 a1 y266 (wrap64 (x9_3 + 1)) a2 x26_2) else (some (([] : List (S33)), false))) = some (r1, r2) := H
              have A27 := Aside0.mk A270
              clear A270
              by_cases c28 : t270 = true
              ·subst c28
               have H1 : (impl_PushLine.l1 k3 a1 y266 (wrap64 (x9_3 + 1)) a2 x26_2) = some (r1, r2) := by rw [if_pos rfl] at H; exact H
               clear H
               have H := H1
               clear H1
               have H' := Aside0.mk H
               clear H
               obtain ⟨Ao29, co29, eo29⟩ := Kd.R_slice HO_8.out
               subst eo29
               try go_wp2
               replace HO_8 := Aside0.mk (Kd.R_drew HO_8.out)
               replace HB := Aside0.mk (below_drew1 HB.out)
               have p255 : 0 ≤ ((ji18) : Int) := of_decide_eq_true hE
               have q255 : (ji18) < (x8_3.length : Int) := of_decide_eq_true hE
               obtain ⟨ad255, e255, hx255_0, hx255_1, hx255_2, hx255_3⟩ := at_T33 (Kd.R_reads' HO_8.out).2.2 (ji18) p255 q255
               cases e255
               replace p255 := eq_true p255
               replace q255 := eq_true q255
               have p256 : 0 ≤ (x9_3 : Int) := of_decide_eq_true hE
               have q256 : x9_3 < (x8_3.length : Int) := of_decide_eq_true hE
               obtain ⟨ad256, e256, hx256_0, hx256_1, hx256_2, hx256_3⟩ := at_T33 (Kd.R_reads' HO_8.out).2.2 x9_3 p256 q256
               obtain rfl : ad255 = ad256 := (by injection e256)
               replace p256 := eq_true p256
               replace q256 := eq_true q256
               refine start_ (n := 23) (S := fun w' => w'.cell? (ad255.add (((ji18)).toNat * 4)) = some (.int .i64 ((rd_T33 x8_3 (ji18)).f0)) ∧ w'.cell? ⟨(ad255.add (((ji18)).toNat * 4)).block, (ad255.add (((ji18)).toNat * 4)).off + 1, none⟩ = some (.int .i64 ((rd_T33 x8_3 (ji18)).f1)) ∧ w'.cell? ⟨(ad255.add (((ji18)).toNat * 4)).block, (ad255.add (((ji18)).toNat * 4)).off + 2, none⟩ = some (.int .i64 ((rd_T33 x8_3 (ji18)).f2)) ∧ w'.cell? ⟨(ad255.add (((ji18)).toNat * 4)).block, (ad255.add (((ji18)).toNat * 4)).off + 3, none⟩ = some (.int .i64 ((rd_T33 x8_3 (ji18)).f3)) ∧ w'.cell? (ad255.add ((x9_3).toNat * 4)) = some (.int .i64 ((rd_T33 x8_3 x9_3).f0)) ∧ w'.cell? ⟨(ad255.add ((x9_3).toNat * 4)).block, (ad255.add ((x9_3).toNat * 4)).off + 1, none⟩ = some (.int .i64 ((rd_T33 x8_3 x9_3).f1)) ∧ w'.cell? ⟨(ad255.add ((x9_3).toNat * 4)).block, (ad255.add ((x9_3).toNat * 4)).off + 2, none⟩ = some (.int .i64 ((rd_T33 x8_3 x9_3).f2)) ∧ w'.cell? ⟨(ad255.add ((x9_3).toNat * 4)).block, (ad255.add ((x9_3).toNat * 4)).off + 3, none⟩ = some (.int .i64 ((rd_T33 x8_3 x9_3).f3))) (ds := [20, 22]) #[false, false, false, false, false, false, false, false, false, false, false, false, false, false, false, false, false, false, false, false, false, false, false] (by kernel_rfl) rfl rfl ⟨hx255_0, hx255_1, hx255_2, hx255_3, hx256_0, hx256_1, hx256_2, hx256_3⟩ (fun hHeld => ?_); refine with_tabW impl_PushLine.tab9 impl_PushLine.bits9 (fun HT_ HW_ => ?_)
               generalize wr.drew = w30 at HO_8 HB hx255_0 hx255_1 hx255_2 hx255_3 hx256_0 hx256_1 hx256_2 hx256_3 hHeld ⊢
               refine pureA 0 35 (bz 23 1) rfl rfl (any_of HT_.out (by kernel_rfl)) ?_
               refine pureA 1 36 (bz 23 3) rfl rfl (any_of HT_.out (by kernel_rfl)) ?_
               refine pureA 2 37 (bz 23 7) rfl rfl (any_of HT_.out (by kernel_rfl)) ?_
               refine pureA 3 38 (bz 23 15) rfl rfl (any_of HT_.out (by kernel_rfl)) ?_
               refine pureA 4 39 (bz 23 31) rfl rfl (any_of HT_.out (by kernel_rfl)) ?_
               refine pureA 5 40 (bz 23 63) rfl rfl (any_of HT_.out (by kernel_rfl)) ?_
               refine pureA 6 41 (bz 23 127) rfl rfl (any_of HT_.out (by kernel_rfl)) ?_
               refine pureA 7 42 (bz 23 255) rfl rfl (any_of HT_.out (by kernel_rfl)) ?_
               refine pureA 8 43 (bz 23 511) rfl rfl (any_of HT_.out (by kernel_rfl)) ?_
               refine pureA 10 45 (bz 23 1535) rfl rfl (any_of HT_.out (by kernel_rfl)) ?_
               refine pureA 11 46 (bz 23 3583) rfl rfl (any_of HT_.out (by kernel_rfl)) ?_
               refine pureA 12 47 (bz 23 7679) rfl rfl (any_of HT_.out (by kernel_rfl)) ?_
               refine pureA 14 49 (bz 23 24063) rfl rfl (any_of HT_.out (by kernel_rfl)) ?_
               refine takeA 9 44 (bz 23 24575) rfl rfl (take_ofW HT_.out HW_.out (by kernel_rfl)) hHeld (by rintro w' ⟨s0, s1, s2, s3, s4, s5, s6, s7⟩; go_simp; with_reducible rfl) ?_
               refine takeA 13 48 (bz 23 32767) rfl rfl (take_ofW HT_.out HW_.out (by kernel_rfl)) hHeld (by rintro w' ⟨s0, s1, s2, s3, s4, s5, s6, s7⟩; go_simp; with_reducible rfl) ?_
               refine one_ (i := 15) (N := some 50) (bz 23 65535) rfl rfl (one_of HT_.out (by kernel_rfl)) (by decide) (fun K hK => ?_)
               refine goes_ Try.func22 (by kernel_rfl) rfl #[.agg #[.int .i64 ((rd_T33 x8_3 (ji18)).f0), .int .i64 ((rd_T33 x8_3 (ji18)).f1), .int .i64 ((rd_T33 x8_3 (ji18)).f2), .int .i64 ((rd_T33 x8_3 (ji18)).f3)], .agg #[.int .i64 ((rd_T33 x8_3 x9_3).f0), .int .i64 ((rd_T33 x8_3 x9_3).f1), .int .i64 ((rd_T33 x8_3 x9_3).f2), .int .i64 ((rd_T33 x8_3 x9_3).f3)], .int .i64 a1] (by rfl) rfl rfl (by (try simp only [List.map_toArray, List.map_cons, List.map_nil]); first | done | (simp only [hji18]; rfl) | rfl | (simp only [List.length_drop, List.length_take]; rfl)) ?_
               with_reducible refine (impl_pushed.calls k3 ((rd_T33 x8_3 (ji18)).f0) ((rd_T33 x8_3 (ji18)).f1) ((rd_T33 x8_3 (ji18)).f2) ((rd_T33 x8_3 (ji18)).f3) ((rd_T33 x8_3 x9_3).f0) ((rd_T33 x8_3 x9_3).f1) ((rd_T33 x8_3 x9_3).f2) ((rd_T33 x8_3 x9_3).f3) a1 t257 t258 t259 t260 t261 t262 t263 t264 _ A22.out).mono ?_
               rintro e w31 ⟨rfl, hb⟩
               have HS0_ := hT hb hHeld.1
               have HS1_ := hT hb hHeld.2.1
               have HS2_ := hT hb hHeld.2.2.1
               have HS3_ := hT hb hHeld.2.2.2.1
               have HS4_ := hT hb hHeld.2.2.2.2.1
               have HS5_ := hT hb hHeld.2.2.2.2.2.1
               have HS6_ := hT hb hHeld.2.2.2.2.2.2.1
               have HS7_ := hT hb hHeld.2.2.2.2.2.2.2
               refine ⟨_, rfl, ?_⟩
               replace HO_8 := Aside0.mk (Kd.R_below (rU HO_8.out) hb)
               replace HB := bH (lU) hb
               (try clear hb)
               (try clear hb2)
               (try clear hk)
               (try clear hi)
               have p23 : 0 ≤ ((ji18) : Int) := of_decide_eq_true hE
               have q23 : ((ji18) : Int) < ((x8_3.length : Int) : Int) := of_decide_eq_true hE
               obtain ⟨go23, co23, eo23, gb23, gl23, cl23, HG23⟩ := Kd.R_form HO_8.out (by omega)
               (first | cases eo23 | (injection eo23 with ea_ en_ ec_; (first | subst ea_ | (injection ea_ with ea_; subst ea_)); subst ec_; clear en_))
               have GB23 := Aside0.mk gb23
               have GG23 := Aside0.mk HG23
               clear gb23 gl23 HG23
               (first | simp only [add_plain] at hx255_0 | skip)
               (first | simp only [add_plain] at hx255_1 | skip)
               (first | simp only [add_plain] at hx255_2 | skip)
               (first | simp only [add_plain] at hx255_3 | skip)
               (first | simp only [add_plain] at hx256_0 | skip)
               (first | simp only [add_plain] at hx256_1 | skip)
               (first | simp only [add_plain] at hx256_2 | skip)
               (first | simp only [add_plain] at hx256_3 | skip)
               obtain ⟨ce23, hcl23, hM23, hcc23, hfr23⟩ := Kd.R_elem HO_8.out z33 ((ji18) : Int) p23 q23
               obtain rfl := k33_openM hM23
               have hx23_0 : World.cell? _ ⟨go23, ((ji18) : Int).toNat * 4, none⟩ = some (.int .i64 ((rd_T33 x8_3 (ji18)).f0)) := hcc23 0 _ rfl
               have hx23_1 : World.cell? _ ⟨go23, ((ji18) : Int).toNat * 4 + 1, none⟩ = some (.int .i64 ((rd_T33 x8_3 (ji18)).f1)) := hcc23 1 _ rfl
               have hx23_2 : World.cell? _ ⟨go23, ((ji18) : Int).toNat * 4 + 2, none⟩ = some (.int .i64 ((rd_T33 x8_3 (ji18)).f2)) := hcc23 2 _ rfl
               have hx23_3 : World.cell? _ ⟨go23, ((ji18) : Int).toNat * 4 + 3, none⟩ = some (.int .i64 ((rd_T33 x8_3 (ji18)).f3)) := hcc23 3 _ rfl
               have hf23_0 : World.frozen? _ ⟨go23, ((ji18) : Int).toNat * 4, none⟩ = false := hfr23 0
               have hf23_1 : World.frozen? _ ⟨go23, ((ji18) : Int).toNat * 4 + 1, none⟩ = false := hfr23 1
               have hf23_2 : World.frozen? _ ⟨go23, ((ji18) : Int).toNat * 4 + 2, none⟩ = false := hfr23 2
               have hf23_3 : World.frozen? _ ⟨go23, ((ji18) : Int).toNat * 4 + 3, none⟩ = false := hfr23 3
               (try clear hcl23)
               (try clear hcc23)
               (try clear hfr23)
               (try clear hM23)
               replace p23 := eq_true p23
               replace q23 := eq_true q23
               obtain ⟨ce32, hcl32, hM32, hcc32, hfr32⟩ := Kd.R_elem HO_8.out z33 ((ji18) : Int) (of_decide_eq_true hE) (by have h_ : ((ji18) : Int) < ((x8_3.length : Int) : Int) := of_decide_eq_true hE; first | exact h_ | (have e_ := (Kd.R_reads' HO_8.out).1; omega) | simpa using h_)
               obtain rfl := k33_openM hM32
               have HP32 := (Kd.R_seg HO_8.out ((ji18) : Int) (of_decide_eq_true hE) (by have h_ : ((ji18) : Int) < ((x8_3.length : Int) : Int) := of_decide_eq_true hE; first | exact h_ | (have e_ := (Kd.R_reads' HO_8.out).1; omega) | simpa using h_) (seg := [.int .i64 t257, .int .i64 t258, .int .i64 t259, .int .i64 t260]) (j := 0) hcl32 hcc32 (show 4 ≤ 4 from by decide) (x' := (⟨t257, t258, t259, t260⟩ : S33)) (k33_mkM _ _ _ (⟨t257, t258, t259, t260⟩ : S33) ) (fun _ hk => hk)).1
               rw [← Ny265.out] at HP32
               have HQ32 := Aside0.mk HP32
               clear hcl32 hcc32 hfr32 hM32 HP32
               have p24 : 0 ≤ (x9_3 : Int) := of_decide_eq_true hE
               have q24 : (x9_3 : Int) < ((x8_3.length : Int) : Int) := of_decide_eq_true hE
               obtain ⟨ce24, hcl24, hM24, hcc24, hfr24⟩ := Kd.R_elem HQ32.out z33 (x9_3 : Int) p24 q24
               obtain rfl := k33_openM hM24
               have hx24_0 : World.cell? _ ⟨go23, (x9_3 : Int).toNat * 4, none⟩ = some (.int .i64 ((rd_T33 y265 x9_3).f0)) := hcc24 0 _ rfl
               have hx24_1 : World.cell? _ ⟨go23, (x9_3 : Int).toNat * 4 + 1, none⟩ = some (.int .i64 ((rd_T33 y265 x9_3).f1)) := hcc24 1 _ rfl
               have hx24_2 : World.cell? _ ⟨go23, (x9_3 : Int).toNat * 4 + 2, none⟩ = some (.int .i64 ((rd_T33 y265 x9_3).f2)) := hcc24 2 _ rfl
               have hx24_3 : World.cell? _ ⟨go23, (x9_3 : Int).toNat * 4 + 3, none⟩ = some (.int .i64 ((rd_T33 y265 x9_3).f3)) := hcc24 3 _ rfl
               have hf24_0 : World.frozen? _ ⟨go23, (x9_3 : Int).toNat * 4, none⟩ = false := hfr24 0
               have hf24_1 : World.frozen? _ ⟨go23, (x9_3 : Int).toNat * 4 + 1, none⟩ = false := hfr24 1
               have hf24_2 : World.frozen? _ ⟨go23, (x9_3 : Int).toNat * 4 + 2, none⟩ = false := hfr24 2
               have hf24_3 : World.frozen? _ ⟨go23, (x9_3 : Int).toNat * 4 + 3, none⟩ = false := hfr24 3
               (try clear hcl24)
               (try clear hcc24)
               (try clear hfr24)
               (try clear hM24)
               replace p24 := eq_true p24
               replace q24 := eq_true q24
               have ek_ : k33.sz = 4 := rfl
               simp only [World.setCells, ek_, Nat.add_zero, Nat.add_assoc, Nat.reduceAdd] at hf24_0 hf24_1 hf24_2 hf24_3 hx24_0 hx24_1 hx24_2 hx24_3
               obtain ⟨ce33, hcl33, hM33, hcc33, hfr33⟩ := Kd.R_elem HQ32.out z33 (x9_3 : Int) (of_decide_eq_true hE) (by have h_ : (x9_3 : Int) < ((x8_3.length : Int) : Int) := of_decide_eq_true hE; first | exact h_ | (have e_ := (Kd.R_reads' HO_8.out).1; omega) | simpa using h_)
               obtain rfl := k33_openM hM33
               have HP33 := (Kd.R_seg HQ32.out (x9_3 : Int) (of_decide_eq_true hE) (by have h_ : (x9_3 : Int) < ((x8_3.length : Int) : Int) := of_decide_eq_true hE; first | exact h_ | (have e_ := (Kd.R_reads' HO_8.out).1; omega) | simpa using h_) (seg := [.int .i64 t261, .int .i64 t262, .int .i64 t263, .int .i64 t264]) (j := 0) hcl33 hcc33 (show 4 ≤ 4 from by decide) (x' := (⟨t261, t262, t263, t264⟩ : S33)) (k33_mkM _ _ _ (⟨t261, t262, t263, t264⟩ : S33) ) (fun _ hk => hk)).1
               rw [← Ny266.out] at HP33
               have HQ33 := Aside0.mk HP33
               clear hcl33 hcc33 hfr33 hM33 HP33
               refine hK.out _ _ ⟨HS0_, HS1_, HS2_, HS3_, HS4_, HS5_, HS6_, HS7_⟩ (fun hHeld => ?_)
               clear hK K
               refine norm_ (a' := ?_) ?_ ?_
               rotate_left
               ·show Act.put _ (some 50) _ = _
                simp only [Act.put, List.setIfInBounds_toArray, List.set_cons_zero, List.set_cons_succ, i64_w, i32_w]
                rfl
               refine pureA 16 34 (bz 23 131071) rfl rfl (any_of HT_.out (by kernel_rfl)) ?_
               refine pureA 17 51 (bz 23 262143) rfl rfl (any_of HT_.out (by kernel_rfl)) ?_
               refine pureA 18 52 (bz 23 524287) rfl rfl (any_of HT_.out (by kernel_rfl)) ?_
               refine pureA 19 53 (bz 23 1048575) rfl rfl (any_of HT_.out (by kernel_rfl)) ?_
               refine last_ (i := 20) (N := none) (bz 23 2097151) rfl rfl (one_of HT_.out (by kernel_rfl)) (by decide) (fun K hK => ?_)
               refine skip_ (w1 := ?_) (by rfl) rfl ?_ ?_
               rotate_left
               ·go_simp
                rfl
               refine hK.out _ _ ?_
               clear hK K
               refine pureA 21 54 (bz 23 4194303) rfl rfl (any_of HT_.out (by kernel_rfl)) ?_
               refine last_ (i := 22) (N := none) (bz 23 8388607) rfl rfl (one_of HT_.out (by kernel_rfl)) (by decide) (fun K hK => ?_)
               refine skip_ (w1 := ?_) (by rfl) rfl ?_ ?_
               rotate_left
               ·go_simp
                rfl
               refine hK.out _ _ ?_
               clear hK K
               refine done_ (done_of HT_.out (by kernel_rfl)) ?_
               obtain ⟨wq_, hwq_⟩ : ∃ W_, W_ = ((((((((w31.setCell ⟨go23, ji18.toNat * 4, none⟩ (.int .i64 t257)).setCell ⟨go23, ji18.toNat * 4 + 1, none⟩ (.int .i64 t258)).setCell ⟨go23, ji18.toNat * 4 + 2, none⟩ (.int .i64 t259)).setCell ⟨go23, ji18.toNat * 4 + 3, none⟩ (.int .i64 t260)).setCell ⟨go23, x9_3.toNat * 4, none⟩ (.int .i64 t261)).setCell ⟨go23, x9_3.toNat * 4 + 1, none⟩ (.int .i64 t262)).setCell ⟨go23, x9_3.toNat * 4 + 2, none⟩ (.int .i64 t263)).setCell ⟨go23, x9_3.toNat * 4 + 3, none⟩ (.int .i64 t264)) := ⟨_, rfl⟩
               have hO_ := HQ33.out
               simp only [World.setCells, ek_, Nat.add_zero, Nat.add_assoc, Nat.reduceAdd] at hO_
               have hB_ : Below w.heap.size w ((((((((w31.setCell ⟨go23, ji18.toNat * 4, none⟩ (.int .i64 t257)).setCell ⟨go23, ji18.toNat * 4 + 1, none⟩ (.int .i64 t258)).setCell ⟨go23, ji18.toNat * 4 + 2, none⟩ (.int .i64 t259)).setCell ⟨go23, ji18.toNat * 4 + 3, none⟩ (.int .i64 t260)).setCell ⟨go23, x9_3.toNat * 4, none⟩ (.int .i64 t261)).setCell ⟨go23, x9_3.toNat * 4 + 1, none⟩ (.int .i64 t262)).setCell ⟨go23, x9_3.toNat * 4 + 2, none⟩ (.int .i64 t263)).setCell ⟨go23, x9_3.toNat * 4 + 3, none⟩ (.int .i64 t264)) := lV8 GB23 GB23 GB23 GB23 GB23 GB23 GB23 GB23
               rw [← hwq_] at hO_ hB_ ⊢
               replace HO_8 := Aside0.mk hO_
               replace HB := Aside0.mk hB_
               clear hO_ hB_ HQ33 HQ32 hwq_
               have p267 : 0 ≤ ((ji18) : Int) := of_decide_eq_true hE
               have q267 : (ji18) < (y266.length : Int) := (by have h_ : ((ji18) : Int) < ((x8_3.length : Int) : Int) := of_decide_eq_true hE; first | (have e_ := (Kd.R_reads' HO_8.out).1; omega) | simpa only [Ny265.out, Ny266.out, List.length_set] using h_)
               have ql267 : (((ji18) : Int) < ((x8_3.length : Int) : Int)) = True := eq_true (of_decide_eq_true hE)
               obtain ⟨ad267, e267, hx267_0, hx267_1, hx267_2, hx267_3⟩ := at_T33 (Kd.R_reads' HO_8.out).2.2 (ji18) p267 q267
               obtain rfl : (⟨go23, 0, none⟩ : Addr) = ad267 := (by injection e267)
               (first | simp only [add_plain] at hx267_0 | simp only [add_at] at hx267_0 | simp only [Addr.add, Nat.zero_add] at hx267_0 | skip)
               (first | simp only [add_plain] at hx267_1 | simp only [add_at] at hx267_1 | simp only [Addr.add, Nat.zero_add] at hx267_1 | skip)
               (first | simp only [add_plain] at hx267_2 | simp only [add_at] at hx267_2 | simp only [Addr.add, Nat.zero_add] at hx267_2 | skip)
               (first | simp only [add_plain] at hx267_3 | simp only [add_at] at hx267_3 | simp only [Addr.add, Nat.zero_add] at hx267_3 | skip)
               replace p267 := eq_true p267
               replace q267 := eq_true q267
               try go_wp2_with (first | ((with_reducible refine gate_callee (f := 23) rfl ?_); refine goesL_ (some 60) rfl rfl Try.func23 (by kernel_rfl) rfl #[.agg #[.int .i64 ((rd_T33 y266 (ji18)).f0), .int .i64 ((rd_T33 y266 (ji18)).f1), .int .i64 ((rd_T33 y266 (ji18)).f2), .int .i64 ((rd_T33 y266 (ji18)).f3)]] rfl (by (try simp only [List.map_toArray, List.map_cons, List.map_nil]); first | done | (simp only [hji18]; rfl) | rfl | (simp only [List.length_drop, List.length_take]; rfl)) ?_; (with_reducible refine (impl_isBody.calls ((rd_T33 y266 (ji18)).f0) ((rd_T33 y266 (ji18)).f1) ((rd_T33 y266 (ji18)).f2) ((rd_T33 y266 (ji18)).f3) true _ A25.out).mono ?_); rintro e w34 ⟨rfl, hb⟩; refine ⟨_, rfl, ?_⟩; replace HO_8 := Aside0.mk (Kd.R_below (rU HO_8.out) hb); replace HB := bH (lU) hb; (try clear hb); have p269 : 0 ≤ (x9_3 : Int) := of_decide_eq_true hE; have q269 : x9_3 < (y266.length : Int) := (by have h_ : (x9_3 : Int) < ((x8_3.length : Int) : Int) := of_decide_eq_true hE; first | (have e_ := (Kd.R_reads' HO_8.out).1; omega) | simpa only [Ny265.out, Ny266.out, List.length_set] using h_); have ql269 : ((x9_3 : Int) < ((x8_3.length : Int) : Int)) = True := eq_true (of_decide_eq_true hE); obtain ⟨ad269, e269, hx269_0, hx269_1, hx269_2, hx269_3⟩ := at_T33 (Kd.R_reads' HO_8.out).2.2 x9_3 p269 q269; obtain rfl : (⟨go23, 0, none⟩ : Addr) = ad269 := (by injection e269); (first | simp only [add_plain] at hx269_0 | simp only [add_at] at hx269_0 | simp only [Addr.add, Nat.zero_add] at hx269_0 | skip); (first | simp only [add_plain] at hx269_1 | simp only [add_at] at hx269_1 | simp only [Addr.add, Nat.zero_add] at hx269_1 | skip); (first | simp only [add_plain] at hx269_2 | simp only [add_at] at hx269_2 | simp only [Addr.add, Nat.zero_add] at hx269_2 | skip); (first | simp only [add_plain] at hx269_3 | simp only [add_at] at hx269_3 | simp only [Addr.add, Nat.zero_add] at hx269_3 | skip); replace p269 := eq_true p269; replace q269 := eq_true q269) | (go_at_call 23; (with_reducible refine (impl_isBody.calls ((rd_T33 y266 x9_3).f0) ((rd_T33 y266 x9_3).f1) ((rd_T33 y266 x9_3).f2) ((rd_T33 y266 x9_3).f3) true _ A27.out).mono ?_); rintro e w35 ⟨rfl, hb⟩; replace HO_8 := Aside0.mk (Kd.R_below (rU HO_8.out) hb); replace HB := bH (lU) hb; (try clear hb)))
               go_roundg k3
               case measure => have := HJ3.out; have := HK2.out; have := HK3.out; omega
               case rel => exact ⟨(y266), (wrap64 (x9_3 + 1)), tE, H', ⟨by have := HJ3.out; have := HK2.out; have := HK3.out; omega⟩, ⟨by (with_reducible repeat (first | apply Kd.R_alloc | apply Kd.R_drewN | apply Kd.R_drew)); exact HO_8.out⟩, ⟨by repeat (first | (with_reducible first | exact HB.out | apply below_alloc | apply pw_below_drewN | apply below_drew1) | exact HB.out)⟩⟩
              ·replace c28 := Bool.eq_false_iff.mpr c28
               subst c28
               have H1 : (some (([] : List (S33)), false)) = some (r1, r2) := by rw [if_neg (show ¬ (false = true) by decide)] at H; exact H
               clear H
               have H := H1
               clear H1
               simp only [Option.some.injEq, Prod.mk.injEq] at H
               obtain ⟨rfl, rfl⟩ := H
               obtain ⟨Ao36, co36, eo36⟩ := Kd.R_slice HO_8.out
               subst eo36
               try go_wp2
               replace HO_8 := Aside0.mk (Kd.R_drew HO_8.out)
               replace HB := Aside0.mk (below_drew1 HB.out)
               have p255 : 0 ≤ ((ji18) : Int) := of_decide_eq_true hE
               have q255 : (ji18) < (x8_3.length : Int) := of_decide_eq_true hE
               obtain ⟨ad255, e255, hx255_0, hx255_1, hx255_2, hx255_3⟩ := at_T33 (Kd.R_reads' HO_8.out).2.2 (ji18) p255 q255
               cases e255
               replace p255 := eq_true p255
               replace q255 := eq_true q255
               have p256 : 0 ≤ (x9_3 : Int) := of_decide_eq_true hE
               have q256 : x9_3 < (x8_3.length : Int) := of_decide_eq_true hE
               obtain ⟨ad256, e256, hx256_0, hx256_1, hx256_2, hx256_3⟩ := at_T33 (Kd.R_reads' HO_8.out).2.2 x9_3 p256 q256
               obtain rfl : ad255 = ad256 := (by injection e256)
               replace p256 := eq_true p256
               replace q256 := eq_true q256
               refine start_ (n := 23) (S := fun w' => w'.cell? (ad255.add (((ji18)).toNat * 4)) = some (.int .i64 ((rd_T33 x8_3 (ji18)).f0)) ∧ w'.cell? ⟨(ad255.add (((ji18)).toNat * 4)).block, (ad255.add (((ji18)).toNat * 4)).off + 1, none⟩ = some (.int .i64 ((rd_T33 x8_3 (ji18)).f1)) ∧ w'.cell? ⟨(ad255.add (((ji18)).toNat * 4)).block, (ad255.add (((ji18)).toNat * 4)).off + 2, none⟩ = some (.int .i64 ((rd_T33 x8_3 (ji18)).f2)) ∧ w'.cell? ⟨(ad255.add (((ji18)).toNat * 4)).block, (ad255.add (((ji18)).toNat * 4)).off + 3, none⟩ = some (.int .i64 ((rd_T33 x8_3 (ji18)).f3)) ∧ w'.cell? (ad255.add ((x9_3).toNat * 4)) = some (.int .i64 ((rd_T33 x8_3 x9_3).f0)) ∧ w'.cell? ⟨(ad255.add ((x9_3).toNat * 4)).block, (ad255.add ((x9_3).toNat * 4)).off + 1, none⟩ = some (.int .i64 ((rd_T33 x8_3 x9_3).f1)) ∧ w'.cell? ⟨(ad255.add ((x9_3).toNat * 4)).block, (ad255.add ((x9_3).toNat * 4)).off + 2, none⟩ = some (.int .i64 ((rd_T33 x8_3 x9_3).f2)) ∧ w'.cell? ⟨(ad255.add ((x9_3).toNat * 4)).block, (ad255.add ((x9_3).toNat * 4)).off + 3, none⟩ = some (.int .i64 ((rd_T33 x8_3 x9_3).f3))) (ds := [20, 22]) #[false, false, false, false, false, false, false, false, false, false, false, false, false, false, false, false, false, false, false, false, false, false, false] (by kernel_rfl) rfl rfl ⟨hx255_0, hx255_1, hx255_2, hx255_3, hx256_0, hx256_1, hx256_2, hx256_3⟩ (fun hHeld => ?_); refine with_tabW impl_PushLine.tab9 impl_PushLine.bits9 (fun HT_ HW_ => ?_)
               generalize wr.drew = w37 at HO_8 HB hx255_0 hx255_1 hx255_2 hx255_3 hx256_0 hx256_1 hx256_2 hx256_3 hHeld ⊢
               refine pureA 0 35 (bz 23 1) rfl rfl (any_of HT_.out (by kernel_rfl)) ?_
               refine pureA 1 36 (bz 23 3) rfl rfl (any_of HT_.out (by kernel_rfl)) ?_
               refine pureA 2 37 (bz 23 7) rfl rfl (any_of HT_.out (by kernel_rfl)) ?_
               refine pureA 3 38 (bz 23 15) rfl rfl (any_of HT_.out (by kernel_rfl)) ?_
               refine pureA 4 39 (bz 23 31) rfl rfl (any_of HT_.out (by kernel_rfl)) ?_
               refine pureA 5 40 (bz 23 63) rfl rfl (any_of HT_.out (by kernel_rfl)) ?_
               refine pureA 6 41 (bz 23 127) rfl rfl (any_of HT_.out (by kernel_rfl)) ?_
               refine pureA 7 42 (bz 23 255) rfl rfl (any_of HT_.out (by kernel_rfl)) ?_
               refine pureA 8 43 (bz 23 511) rfl rfl (any_of HT_.out (by kernel_rfl)) ?_
               refine pureA 10 45 (bz 23 1535) rfl rfl (any_of HT_.out (by kernel_rfl)) ?_
               refine pureA 11 46 (bz 23 3583) rfl rfl (any_of HT_.out (by kernel_rfl)) ?_
               refine pureA 12 47 (bz 23 7679) rfl rfl (any_of HT_.out (by kernel_rfl)) ?_
               refine pureA 14 49 (bz 23 24063) rfl rfl (any_of HT_.out (by kernel_rfl)) ?_
               refine takeA 9 44 (bz 23 24575) rfl rfl (take_ofW HT_.out HW_.out (by kernel_rfl)) hHeld (by rintro w' ⟨s0, s1, s2, s3, s4, s5, s6, s7⟩; go_simp; with_reducible rfl) ?_
               refine takeA 13 48 (bz 23 32767) rfl rfl (take_ofW HT_.out HW_.out (by kernel_rfl)) hHeld (by rintro w' ⟨s0, s1, s2, s3, s4, s5, s6, s7⟩; go_simp; with_reducible rfl) ?_
               refine one_ (i := 15) (N := some 50) (bz 23 65535) rfl rfl (one_of HT_.out (by kernel_rfl)) (by decide) (fun K hK => ?_)
               refine goes_ Try.func22 (by kernel_rfl) rfl #[.agg #[.int .i64 ((rd_T33 x8_3 (ji18)).f0), .int .i64 ((rd_T33 x8_3 (ji18)).f1), .int .i64 ((rd_T33 x8_3 (ji18)).f2), .int .i64 ((rd_T33 x8_3 (ji18)).f3)], .agg #[.int .i64 ((rd_T33 x8_3 x9_3).f0), .int .i64 ((rd_T33 x8_3 x9_3).f1), .int .i64 ((rd_T33 x8_3 x9_3).f2), .int .i64 ((rd_T33 x8_3 x9_3).f3)], .int .i64 a1] (by rfl) rfl rfl (by (try simp only [List.map_toArray, List.map_cons, List.map_nil]); first | done | (simp only [hji18]; rfl) | rfl | (simp only [List.length_drop, List.length_take]; rfl)) ?_
               with_reducible refine (impl_pushed.calls k3 ((rd_T33 x8_3 (ji18)).f0) ((rd_T33 x8_3 (ji18)).f1) ((rd_T33 x8_3 (ji18)).f2) ((rd_T33 x8_3 (ji18)).f3) ((rd_T33 x8_3 x9_3).f0) ((rd_T33 x8_3 x9_3).f1) ((rd_T33 x8_3 x9_3).f2) ((rd_T33 x8_3 x9_3).f3) a1 t257 t258 t259 t260 t261 t262 t263 t264 _ A22.out).mono ?_
               rintro e w38 ⟨rfl, hb⟩
               have HS0_ := hT hb hHeld.1
               have HS1_ := hT hb hHeld.2.1
               have HS2_ := hT hb hHeld.2.2.1
               have HS3_ := hT hb hHeld.2.2.2.1
               have HS4_ := hT hb hHeld.2.2.2.2.1
               have HS5_ := hT hb hHeld.2.2.2.2.2.1
               have HS6_ := hT hb hHeld.2.2.2.2.2.2.1
               have HS7_ := hT hb hHeld.2.2.2.2.2.2.2
               refine ⟨_, rfl, ?_⟩
               replace HO_8 := Aside0.mk (Kd.R_below (rU HO_8.out) hb)
               replace HB := bH (lU) hb
               (try clear hb)
               (try clear hb2)
               (try clear hk)
               (try clear hi)
               have p23 : 0 ≤ ((ji18) : Int) := of_decide_eq_true hE
               have q23 : ((ji18) : Int) < ((x8_3.length : Int) : Int) := of_decide_eq_true hE
               obtain ⟨go23, co23, eo23, gb23, gl23, cl23, HG23⟩ := Kd.R_form HO_8.out (by omega)
               (first | cases eo23 | (injection eo23 with ea_ en_ ec_; (first | subst ea_ | (injection ea_ with ea_; subst ea_)); subst ec_; clear en_))
               have GB23 := Aside0.mk gb23
               have GG23 := Aside0.mk HG23
               clear gb23 gl23 HG23
               (first | simp only [add_plain] at hx255_0 | skip)
               (first | simp only [add_plain] at hx255_1 | skip)
               (first | simp only [add_plain] at hx255_2 | skip)
               (first | simp only [add_plain] at hx255_3 | skip)
               (first | simp only [add_plain] at hx256_0 | skip)
               (first | simp only [add_plain] at hx256_1 | skip)
               (first | simp only [add_plain] at hx256_2 | skip)
               (first | simp only [add_plain] at hx256_3 | skip)
               obtain ⟨ce23, hcl23, hM23, hcc23, hfr23⟩ := Kd.R_elem HO_8.out z33 ((ji18) : Int) p23 q23
               obtain rfl := k33_openM hM23
               have hx23_0 : World.cell? _ ⟨go23, ((ji18) : Int).toNat * 4, none⟩ = some (.int .i64 ((rd_T33 x8_3 (ji18)).f0)) := hcc23 0 _ rfl
               have hx23_1 : World.cell? _ ⟨go23, ((ji18) : Int).toNat * 4 + 1, none⟩ = some (.int .i64 ((rd_T33 x8_3 (ji18)).f1)) := hcc23 1 _ rfl
               have hx23_2 : World.cell? _ ⟨go23, ((ji18) : Int).toNat * 4 + 2, none⟩ = some (.int .i64 ((rd_T33 x8_3 (ji18)).f2)) := hcc23 2 _ rfl
               have hx23_3 : World.cell? _ ⟨go23, ((ji18) : Int).toNat * 4 + 3, none⟩ = some (.int .i64 ((rd_T33 x8_3 (ji18)).f3)) := hcc23 3 _ rfl
               have hf23_0 : World.frozen? _ ⟨go23, ((ji18) : Int).toNat * 4, none⟩ = false := hfr23 0
               have hf23_1 : World.frozen? _ ⟨go23, ((ji18) : Int).toNat * 4 + 1, none⟩ = false := hfr23 1
               have hf23_2 : World.frozen? _ ⟨go23, ((ji18) : Int).toNat * 4 + 2, none⟩ = false := hfr23 2
               have hf23_3 : World.frozen? _ ⟨go23, ((ji18) : Int).toNat * 4 + 3, none⟩ = false := hfr23 3
               (try clear hcl23)
               (try clear hcc23)
               (try clear hfr23)
               (try clear hM23)
               replace p23 := eq_true p23
               replace q23 := eq_true q23
               obtain ⟨ce39, hcl39, hM39, hcc39, hfr39⟩ := Kd.R_elem HO_8.out z33 ((ji18) : Int) (of_decide_eq_true hE) (by have h_ : ((ji18) : Int) < ((x8_3.length : Int) : Int) := of_decide_eq_true hE; first | exact h_ | (have e_ := (Kd.R_reads' HO_8.out).1; omega) | simpa using h_)
               obtain rfl := k33_openM hM39
               have HP39 := (Kd.R_seg HO_8.out ((ji18) : Int) (of_decide_eq_true hE) (by have h_ : ((ji18) : Int) < ((x8_3.length : Int) : Int) := of_decide_eq_true hE; first | exact h_ | (have e_ := (Kd.R_reads' HO_8.out).1; omega) | simpa using h_) (seg := [.int .i64 t257, .int .i64 t258, .int .i64 t259, .int .i64 t260]) (j := 0) hcl39 hcc39 (show 4 ≤ 4 from by decide) (x' := (⟨t257, t258, t259, t260⟩ : S33)) (k33_mkM _ _ _ (⟨t257, t258, t259, t260⟩ : S33) ) (fun _ hk => hk)).1
               rw [← Ny265.out] at HP39
               have HQ39 := Aside0.mk HP39
               clear hcl39 hcc39 hfr39 hM39 HP39
               have p24 : 0 ≤ (x9_3 : Int) := of_decide_eq_true hE
               have q24 : (x9_3 : Int) < ((x8_3.length : Int) : Int) := of_decide_eq_true hE
               obtain ⟨ce24, hcl24, hM24, hcc24, hfr24⟩ := Kd.R_elem HQ39.out z33 (x9_3 : Int) p24 q24
               obtain rfl := k33_openM hM24
               have hx24_0 : World.cell? _ ⟨go23, (x9_3 : Int).toNat * 4, none⟩ = some (.int .i64 ((rd_T33 y265 x9_3).f0)) := hcc24 0 _ rfl
               have hx24_1 : World.cell? _ ⟨go23, (x9_3 : Int).toNat * 4 + 1, none⟩ = some (.int .i64 ((rd_T33 y265 x9_3).f1)) := hcc24 1 _ rfl
               have hx24_2 : World.cell? _ ⟨go23, (x9_3 : Int).toNat * 4 + 2, none⟩ = some (.int .i64 ((rd_T33 y265 x9_3).f2)) := hcc24 2 _ rfl
               have hx24_3 : World.cell? _ ⟨go23, (x9_3 : Int).toNat * 4 + 3, none⟩ = some (.int .i64 ((rd_T33 y265 x9_3).f3)) := hcc24 3 _ rfl
               have hf24_0 : World.frozen? _ ⟨go23, (x9_3 : Int).toNat * 4, none⟩ = false := hfr24 0
               have hf24_1 : World.frozen? _ ⟨go23, (x9_3 : Int).toNat * 4 + 1, none⟩ = false := hfr24 1
               have hf24_2 : World.frozen? _ ⟨go23, (x9_3 : Int).toNat * 4 + 2, none⟩ = false := hfr24 2
               have hf24_3 : World.frozen? _ ⟨go23, (x9_3 : Int).toNat * 4 + 3, none⟩ = false := hfr24 3
               (try clear hcl24)
               (try clear hcc24)
               (try clear hfr24)
               (try clear hM24)
               replace p24 := eq_true p24
               replace q24 := eq_true q24
               have ek_ : k33.sz = 4 := rfl
               simp only [World.setCells, ek_, Nat.add_zero, Nat.add_assoc, Nat.reduceAdd] at hf24_0 hf24_1 hf24_2 hf24_3 hx24_0 hx24_1 hx24_2 hx24_3
               obtain ⟨ce40, hcl40, hM40, hcc40, hfr40⟩ := Kd.R_elem HQ39.out z33 (x9_3 : Int) (of_decide_eq_true hE) (by have h_ : (x9_3 : Int) < ((x8_3.length : Int) : Int) := of_decide_eq_true hE; first | exact h_ | (have e_ := (Kd.R_reads' HO_8.out).1; omega) | simpa using h_)
               obtain rfl := k33_openM hM40
               have HP40 := (Kd.R_seg HQ39.out (x9_3 : Int) (of_decide_eq_true hE) (by have h_ : (x9_3 : Int) < ((x8_3.length : Int) : Int) := of_decide_eq_true hE; first | exact h_ | (have e_ := (Kd.R_reads' HO_8.out).1; omega) | simpa using h_) (seg := [.int .i64 t261, .int .i64 t262, .int .i64 t263, .int .i64 t264]) (j := 0) hcl40 hcc40 (show 4 ≤ 4 from by decide) (x' := (⟨t261, t262, t263, t264⟩ : S33)) (k33_mkM _ _ _ (⟨t261, t262, t263, t264⟩ : S33) ) (fun _ hk => hk)).1
               rw [← Ny266.out] at HP40
               have HQ40 := Aside0.mk HP40
               clear hcl40 hcc40 hfr40 hM40 HP40
               refine hK.out _ _ ⟨HS0_, HS1_, HS2_, HS3_, HS4_, HS5_, HS6_, HS7_⟩ (fun hHeld => ?_)
               clear hK K
               refine norm_ (a' := ?_) ?_ ?_
               rotate_left
               ·show Act.put _ (some 50) _ = _
                simp only [Act.put, List.setIfInBounds_toArray, List.set_cons_zero, List.set_cons_succ, i64_w, i32_w]
                rfl
               refine pureA 16 34 (bz 23 131071) rfl rfl (any_of HT_.out (by kernel_rfl)) ?_
               refine pureA 17 51 (bz 23 262143) rfl rfl (any_of HT_.out (by kernel_rfl)) ?_
               refine pureA 18 52 (bz 23 524287) rfl rfl (any_of HT_.out (by kernel_rfl)) ?_
               refine pureA 19 53 (bz 23 1048575) rfl rfl (any_of HT_.out (by kernel_rfl)) ?_
               refine last_ (i := 20) (N := none) (bz 23 2097151) rfl rfl (one_of HT_.out (by kernel_rfl)) (by decide) (fun K hK => ?_)
               refine skip_ (w1 := ?_) (by rfl) rfl ?_ ?_
               rotate_left
               ·go_simp
                rfl
               refine hK.out _ _ ?_
               clear hK K
               refine pureA 21 54 (bz 23 4194303) rfl rfl (any_of HT_.out (by kernel_rfl)) ?_
               refine last_ (i := 22) (N := none) (bz 23 8388607) rfl rfl (one_of HT_.out (by kernel_rfl)) (by decide) (fun K hK => ?_)
               refine skip_ (w1 := ?_) (by rfl) rfl ?_ ?_
               rotate_left
               ·go_simp
                rfl
               refine hK.out _ _ ?_
               clear hK K
               refine done_ (done_of HT_.out (by kernel_rfl)) ?_
               obtain ⟨wq_, hwq_⟩ : ∃ W_, W_ = ((((((((w38.setCell ⟨go23, ji18.toNat * 4, none⟩ (.int .i64 t257)).setCell ⟨go23, ji18.toNat * 4 + 1, none⟩ (.int .i64 t258)).setCell ⟨go23, ji18.toNat * 4 + 2, none⟩ (.int .i64 t259)).setCell ⟨go23, ji18.toNat * 4 + 3, none⟩ (.int .i64 t260)).setCell ⟨go23, x9_3.toNat * 4, none⟩ (.int .i64 t261)).setCell ⟨go23, x9_3.toNat * 4 + 1, none⟩ (.int .i64 t262)).setCell ⟨go23, x9_3.toNat * 4 + 2, none⟩ (.int .i64 t263)).setCell ⟨go23, x9_3.toNat * 4 + 3, none⟩ (.int .i64 t264)) := ⟨_, rfl⟩
               have hO_ := HQ40.out
               simp only [World.setCells, ek_, Nat.add_zero, Nat.add_assoc, Nat.reduceAdd] at hO_
               have hB_ : Below w.heap.size w ((((((((w38.setCell ⟨go23, ji18.toNat * 4, none⟩ (.int .i64 t257)).setCell ⟨go23, ji18.toNat * 4 + 1, none⟩ (.int .i64 t258)).setCell ⟨go23, ji18.toNat * 4 + 2, none⟩ (.int .i64 t259)).setCell ⟨go23, ji18.toNat * 4 + 3, none⟩ (.int .i64 t260)).setCell ⟨go23, x9_3.toNat * 4, none⟩ (.int .i64 t261)).setCell ⟨go23, x9_3.toNat * 4 + 1, none⟩ (.int .i64 t262)).setCell ⟨go23, x9_3.toNat * 4 + 2, none⟩ (.int .i64 t263)).setCell ⟨go23, x9_3.toNat * 4 + 3, none⟩ (.int .i64 t264)) := lV8 GB23 GB23 GB23 GB23 GB23 GB23 GB23 GB23
               rw [← hwq_] at hO_ hB_ ⊢
               replace HO_8 := Aside0.mk hO_
               replace HB := Aside0.mk hB_
               clear hO_ hB_ HQ40 HQ39 hwq_
               have p267 : 0 ≤ ((ji18) : Int) := of_decide_eq_true hE
               have q267 : (ji18) < (y266.length : Int) := (by have h_ : ((ji18) : Int) < ((x8_3.length : Int) : Int) := of_decide_eq_true hE; first | (have e_ := (Kd.R_reads' HO_8.out).1; omega) | simpa only [Ny265.out, Ny266.out, List.length_set] using h_)
               have ql267 : (((ji18) : Int) < ((x8_3.length : Int) : Int)) = True := eq_true (of_decide_eq_true hE)
               obtain ⟨ad267, e267, hx267_0, hx267_1, hx267_2, hx267_3⟩ := at_T33 (Kd.R_reads' HO_8.out).2.2 (ji18) p267 q267
               obtain rfl : (⟨go23, 0, none⟩ : Addr) = ad267 := (by injection e267)
               (first | simp only [add_plain] at hx267_0 | simp only [add_at] at hx267_0 | simp only [Addr.add, Nat.zero_add] at hx267_0 | skip)
               (first | simp only [add_plain] at hx267_1 | simp only [add_at] at hx267_1 | simp only [Addr.add, Nat.zero_add] at hx267_1 | skip)
               (first | simp only [add_plain] at hx267_2 | simp only [add_at] at hx267_2 | simp only [Addr.add, Nat.zero_add] at hx267_2 | skip)
               (first | simp only [add_plain] at hx267_3 | simp only [add_at] at hx267_3 | simp only [Addr.add, Nat.zero_add] at hx267_3 | skip)
               replace p267 := eq_true p267
               replace q267 := eq_true q267
               try go_wp2_with (first | ((with_reducible refine gate_callee (f := 23) rfl ?_); refine goesL_ (some 60) rfl rfl Try.func23 (by kernel_rfl) rfl #[.agg #[.int .i64 ((rd_T33 y266 (ji18)).f0), .int .i64 ((rd_T33 y266 (ji18)).f1), .int .i64 ((rd_T33 y266 (ji18)).f2), .int .i64 ((rd_T33 y266 (ji18)).f3)]] rfl (by (try simp only [List.map_toArray, List.map_cons, List.map_nil]); first | done | (simp only [hji18]; rfl) | rfl | (simp only [List.length_drop, List.length_take]; rfl)) ?_; (with_reducible refine (impl_isBody.calls ((rd_T33 y266 (ji18)).f0) ((rd_T33 y266 (ji18)).f1) ((rd_T33 y266 (ji18)).f2) ((rd_T33 y266 (ji18)).f3) true _ A25.out).mono ?_); rintro e w41 ⟨rfl, hb⟩; refine ⟨_, rfl, ?_⟩; replace HO_8 := Aside0.mk (Kd.R_below (rU HO_8.out) hb); replace HB := bH (lU) hb; (try clear hb); have p269 : 0 ≤ (x9_3 : Int) := of_decide_eq_true hE; have q269 : x9_3 < (y266.length : Int) := (by have h_ : (x9_3 : Int) < ((x8_3.length : Int) : Int) := of_decide_eq_true hE; first | (have e_ := (Kd.R_reads' HO_8.out).1; omega) | simpa only [Ny265.out, Ny266.out, List.length_set] using h_); have ql269 : ((x9_3 : Int) < ((x8_3.length : Int) : Int)) = True := eq_true (of_decide_eq_true hE); obtain ⟨ad269, e269, hx269_0, hx269_1, hx269_2, hx269_3⟩ := at_T33 (Kd.R_reads' HO_8.out).2.2 x9_3 p269 q269; obtain rfl : (⟨go23, 0, none⟩ : Addr) = ad269 := (by injection e269); (first | simp only [add_plain] at hx269_0 | simp only [add_at] at hx269_0 | simp only [Addr.add, Nat.zero_add] at hx269_0 | skip); (first | simp only [add_plain] at hx269_1 | simp only [add_at] at hx269_1 | simp only [Addr.add, Nat.zero_add] at hx269_1 | skip); (first | simp only [add_plain] at hx269_2 | simp only [add_at] at hx269_2 | simp only [Addr.add, Nat.zero_add] at hx269_2 | skip); (first | simp only [add_plain] at hx269_3 | simp only [add_at] at hx269_3 | simp only [Addr.add, Nat.zero_add] at hx269_3 | skip); replace p269 := eq_true p269; replace q269 := eq_true q269) | (go_at_call 23; (with_reducible refine (impl_isBody.calls ((rd_T33 y266 x9_3).f0) ((rd_T33 y266 x9_3).f1) ((rd_T33 y266 x9_3).f2) ((rd_T33 y266 x9_3).f3) false _ A27.out).mono ?_); rintro e w42 ⟨rfl, hb⟩; replace HO_8 := Aside0.mk (Kd.R_below (rU HO_8.out) hb); replace HB := bH (lU) hb; (try clear hb)))
               go_ret2
               exact ⟨_, by first | rfl | (simp [errW_none, errW_some] <;> rfl) | (simp only [← hji18]; first | rfl | (simp [errW_none, errW_some] <;> rfl)) | (simp [*, errW_none, errW_some] <;> rfl), by first | exact Kd.R_nil _ _ _ _ _ | exact Kd.N_nil _ _ _ _ _ | exact Kd.V_nil _ _ _ _ _ | exact Kd.Q_nil _ _ _ _ _ | exact Kd.S_nil _ _ _ _ _, lU⟩
             ·replace c26 := Bool.eq_false_iff.mpr c26
              subst c26
              have H1 : (some (([] : List (S33)), false)) = some (r1, r2) := by rw [if_neg (show ¬ (false = true) by decide)] at H; exact H
              clear H
              have H := H1
              clear H1
              simp only [Option.some.injEq, Prod.mk.injEq] at H
              obtain ⟨rfl, rfl⟩ := H
              obtain ⟨Ao43, co43, eo43⟩ := Kd.R_slice HO_8.out
              subst eo43
              try go_wp2
              replace HO_8 := Aside0.mk (Kd.R_drew HO_8.out)
              replace HB := Aside0.mk (below_drew1 HB.out)
              have p255 : 0 ≤ ((ji18) : Int) := of_decide_eq_true hE
              have q255 : (ji18) < (x8_3.length : Int) := of_decide_eq_true hE
              obtain ⟨ad255, e255, hx255_0, hx255_1, hx255_2, hx255_3⟩ := at_T33 (Kd.R_reads' HO_8.out).2.2 (ji18) p255 q255
              cases e255
              replace p255 := eq_true p255
              replace q255 := eq_true q255
              have p256 : 0 ≤ (x9_3 : Int) := of_decide_eq_true hE
              have q256 : x9_3 < (x8_3.length : Int) := of_decide_eq_true hE
              obtain ⟨ad256, e256, hx256_0, hx256_1, hx256_2, hx256_3⟩ := at_T33 (Kd.R_reads' HO_8.out).2.2 x9_3 p256 q256
              obtain rfl : ad255 = ad256 := (by injection e256)
              replace p256 := eq_true p256
              replace q256 := eq_true q256
              refine start_ (n := 23) (S := fun w' => w'.cell? (ad255.add (((ji18)).toNat * 4)) = some (.int .i64 ((rd_T33 x8_3 (ji18)).f0)) ∧ w'.cell? ⟨(ad255.add (((ji18)).toNat * 4)).block, (ad255.add (((ji18)).toNat * 4)).off + 1, none⟩ = some (.int .i64 ((rd_T33 x8_3 (ji18)).f1)) ∧ w'.cell? ⟨(ad255.add (((ji18)).toNat * 4)).block, (ad255.add (((ji18)).toNat * 4)).off + 2, none⟩ = some (.int .i64 ((rd_T33 x8_3 (ji18)).f2)) ∧ w'.cell? ⟨(ad255.add (((ji18)).toNat * 4)).block, (ad255.add (((ji18)).toNat * 4)).off + 3, none⟩ = some (.int .i64 ((rd_T33 x8_3 (ji18)).f3)) ∧ w'.cell? (ad255.add ((x9_3).toNat * 4)) = some (.int .i64 ((rd_T33 x8_3 x9_3).f0)) ∧ w'.cell? ⟨(ad255.add ((x9_3).toNat * 4)).block, (ad255.add ((x9_3).toNat * 4)).off + 1, none⟩ = some (.int .i64 ((rd_T33 x8_3 x9_3).f1)) ∧ w'.cell? ⟨(ad255.add ((x9_3).toNat * 4)).block, (ad255.add ((x9_3).toNat * 4)).off + 2, none⟩ = some (.int .i64 ((rd_T33 x8_3 x9_3).f2)) ∧ w'.cell? ⟨(ad255.add ((x9_3).toNat * 4)).block, (ad255.add ((x9_3).toNat * 4)).off + 3, none⟩ = some (.int .i64 ((rd_T33 x8_3 x9_3).f3))) (ds := [20, 22]) #[false, false, false, false, false, false, false, false, false, false, false, false, false, false, false, false, false, false, false, false, false, false, false] (by kernel_rfl) rfl rfl ⟨hx255_0, hx255_1, hx255_2, hx255_3, hx256_0, hx256_1, hx256_2, hx256_3⟩ (fun hHeld => ?_); refine with_tabW impl_PushLine.tab9 impl_PushLine.bits9 (fun HT_ HW_ => ?_)
              generalize wr.drew = w44 at HO_8 HB hx255_0 hx255_1 hx255_2 hx255_3 hx256_0 hx256_1 hx256_2 hx256_3 hHeld ⊢
              refine pureA 0 35 (bz 23 1) rfl rfl (any_of HT_.out (by kernel_rfl)) ?_
              refine pureA 1 36 (bz 23 3) rfl rfl (any_of HT_.out (by kernel_rfl)) ?_
              refine pureA 2 37 (bz 23 7) rfl rfl (any_of HT_.out (by kernel_rfl)) ?_
              refine pureA 3 38 (bz 23 15) rfl rfl (any_of HT_.out (by kernel_rfl)) ?_
              refine pureA 4 39 (bz 23 31) rfl rfl (any_of HT_.out (by kernel_rfl)) ?_
              refine pureA 5 40 (bz 23 63) rfl rfl (any_of HT_.out (by kernel_rfl)) ?_
              refine pureA 6 41 (bz 23 127) rfl rfl (any_of HT_.out (by kernel_rfl)) ?_
              refine pureA 7 42 (bz 23 255) rfl rfl (any_of HT_.out (by kernel_rfl)) ?_
              refine pureA 8 43 (bz 23 511) rfl rfl (any_of HT_.out (by kernel_rfl)) ?_
              refine pureA 10 45 (bz 23 1535) rfl rfl (any_of HT_.out (by kernel_rfl)) ?_
              refine pureA 11 46 (bz 23 3583) rfl rfl (any_of HT_.out (by kernel_rfl)) ?_
              refine pureA 12 47 (bz 23 7679) rfl rfl (any_of HT_.out (by kernel_rfl)) ?_
              refine pureA 14 49 (bz 23 24063) rfl rfl (any_of HT_.out (by kernel_rfl)) ?_
              refine takeA 9 44 (bz 23 24575) rfl rfl (take_ofW HT_.out HW_.out (by kernel_rfl)) hHeld (by rintro w' ⟨s0, s1, s2, s3, s4, s5, s6, s7⟩; go_simp; with_reducible rfl) ?_
              refine takeA 13 48 (bz 23 32767) rfl rfl (take_ofW HT_.out HW_.out (by kernel_rfl)) hHeld (by rintro w' ⟨s0, s1, s2, s3, s4, s5, s6, s7⟩; go_simp; with_reducible rfl) ?_
              refine one_ (i := 15) (N := some 50) (bz 23 65535) rfl rfl (one_of HT_.out (by kernel_rfl)) (by decide) (fun K hK => ?_)
              refine goes_ Try.func22 (by kernel_rfl) rfl #[.agg #[.int .i64 ((rd_T33 x8_3 (ji18)).f0), .int .i64 ((rd_T33 x8_3 (ji18)).f1), .int .i64 ((rd_T33 x8_3 (ji18)).f2), .int .i64 ((rd_T33 x8_3 (ji18)).f3)], .agg #[.int .i64 ((rd_T33 x8_3 x9_3).f0), .int .i64 ((rd_T33 x8_3 x9_3).f1), .int .i64 ((rd_T33 x8_3 x9_3).f2), .int .i64 ((rd_T33 x8_3 x9_3).f3)], .int .i64 a1] (by rfl) rfl rfl (by (try simp only [List.map_toArray, List.map_cons, List.map_nil]); first | done | (simp only [hji18]; rfl) | rfl | (simp only [List.length_drop, List.length_take]; rfl)) ?_
              with_reducible refine (impl_pushed.calls k3 ((rd_T33 x8_3 (ji18)).f0) ((rd_T33 x8_3 (ji18)).f1) ((rd_T33 x8_3 (ji18)).f2) ((rd_T33 x8_3 (ji18)).f3) ((rd_T33 x8_3 x9_3).f0) ((rd_T33 x8_3 x9_3).f1) ((rd_T33 x8_3 x9_3).f2) ((rd_T33 x8_3 x9_3).f3) a1 t257 t258 t259 t260 t261 t262 t263 t264 _ A22.out).mono ?_
              rintro e w45 ⟨rfl, hb⟩
              have HS0_ := hT hb hHeld.1
              have HS1_ := hT hb hHeld.2.1
              have HS2_ := hT hb hHeld.2.2.1
              have HS3_ := hT hb hHeld.2.2.2.1
              have HS4_ := hT hb hHeld.2.2.2.2.1
              have HS5_ := hT hb hHeld.2.2.2.2.2.1
              have HS6_ := hT hb hHeld.2.2.2.2.2.2.1
              have HS7_ := hT hb hHeld.2.2.2.2.2.2.2
              refine ⟨_, rfl, ?_⟩
              replace HO_8 := Aside0.mk (Kd.R_below (rU HO_8.out) hb)
              replace HB := bH (lU) hb
              (try clear hb)
              (try clear hb2)
              (try clear hk)
              (try clear hi)
              have p23 : 0 ≤ ((ji18) : Int) := of_decide_eq_true hE
              have q23 : ((ji18) : Int) < ((x8_3.length : Int) : Int) := of_decide_eq_true hE
              obtain ⟨go23, co23, eo23, gb23, gl23, cl23, HG23⟩ := Kd.R_form HO_8.out (by omega)
              (first | cases eo23 | (injection eo23 with ea_ en_ ec_; (first | subst ea_ | (injection ea_ with ea_; subst ea_)); subst ec_; clear en_))
              have GB23 := Aside0.mk gb23
              have GG23 := Aside0.mk HG23
              clear gb23 gl23 HG23
              (first | simp only [add_plain] at hx255_0 | skip)
              (first | simp only [add_plain] at hx255_1 | skip)
              (first | simp only [add_plain] at hx255_2 | skip)
              (first | simp only [add_plain] at hx255_3 | skip)
              (first | simp only [add_plain] at hx256_0 | skip)
              (first | simp only [add_plain] at hx256_1 | skip)
              (first | simp only [add_plain] at hx256_2 | skip)
              (first | simp only [add_plain] at hx256_3 | skip)
              obtain ⟨ce23, hcl23, hM23, hcc23, hfr23⟩ := Kd.R_elem HO_8.out z33 ((ji18) : Int) p23 q23
              obtain rfl := k33_openM hM23
              have hx23_0 : World.cell? _ ⟨go23, ((ji18) : Int).toNat * 4, none⟩ = some (.int .i64 ((rd_T33 x8_3 (ji18)).f0)) := hcc23 0 _ rfl
              have hx23_1 : World.cell? _ ⟨go23, ((ji18) : Int).toNat * 4 + 1, none⟩ = some (.int .i64 ((rd_T33 x8_3 (ji18)).f1)) := hcc23 1 _ rfl
              have hx23_2 : World.cell? _ ⟨go23, ((ji18) : Int).toNat * 4 + 2, none⟩ = some (.int .i64 ((rd_T33 x8_3 (ji18)).f2)) := hcc23 2 _ rfl
              have hx23_3 : World.cell? _ ⟨go23, ((ji18) : Int).toNat * 4 + 3, none⟩ = some (.int .i64 ((rd_T33 x8_3 (ji18)).f3)) := hcc23 3 _ rfl
              have hf23_0 : World.frozen? _ ⟨go23, ((ji18) : Int).toNat * 4, none⟩ = false := hfr23 0
              have hf23_1 : World.frozen? _ ⟨go23, ((ji18) : Int).toNat * 4 + 1, none⟩ = false := hfr23 1
              have hf23_2 : World.frozen? _ ⟨go23, ((ji18) : Int).toNat * 4 + 2, none⟩ = false := hfr23 2
              have hf23_3 : World.frozen? _ ⟨go23, ((ji18) : Int).toNat * 4 + 3, none⟩ = false := hfr23 3
              (try clear hcl23)
              (try clear hcc23)
              (try clear hfr23)
              (try clear hM23)
              replace p23 := eq_true p23
              replace q23 := eq_true q23
              obtain ⟨ce46, hcl46, hM46, hcc46, hfr46⟩ := Kd.R_elem HO_8.out z33 ((ji18) : Int) (of_decide_eq_true hE) (by have h_ : ((ji18) : Int) < ((x8_3.length : Int) : Int) := of_decide_eq_true hE; first | exact h_ | (have e_ := (Kd.R_reads' HO_8.out).1; omega) | simpa using h_)
              obtain rfl := k33_openM hM46
              have HP46 := (Kd.R_seg HO_8.out ((ji18) : Int) (of_decide_eq_true hE) (by have h_ : ((ji18) : Int) < ((x8_3.length : Int) : Int) := of_decide_eq_true hE; first | exact h_ | (have e_ := (Kd.R_reads' HO_8.out).1; omega) | simpa using h_) (seg := [.int .i64 t257, .int .i64 t258, .int .i64 t259, .int .i64 t260]) (j := 0) hcl46 hcc46 (show 4 ≤ 4 from by decide) (x' := (⟨t257, t258, t259, t260⟩ : S33)) (k33_mkM _ _ _ (⟨t257, t258, t259, t260⟩ : S33) ) (fun _ hk => hk)).1
              rw [← Ny265.out] at HP46
              have HQ46 := Aside0.mk HP46
              clear hcl46 hcc46 hfr46 hM46 HP46
              have p24 : 0 ≤ (x9_3 : Int) := of_decide_eq_true hE
              have q24 : (x9_3 : Int) < ((x8_3.length : Int) : Int) := of_decide_eq_true hE
              obtain ⟨ce24, hcl24, hM24, hcc24, hfr24⟩ := Kd.R_elem HQ46.out z33 (x9_3 : Int) p24 q24
              obtain rfl := k33_openM hM24
              have hx24_0 : World.cell? _ ⟨go23, (x9_3 : Int).toNat * 4, none⟩ = some (.int .i64 ((rd_T33 y265 x9_3).f0)) := hcc24 0 _ rfl
              have hx24_1 : World.cell? _ ⟨go23, (x9_3 : Int).toNat * 4 + 1, none⟩ = some (.int .i64 ((rd_T33 y265 x9_3).f1)) := hcc24 1 _ rfl
              have hx24_2 : World.cell? _ ⟨go23, (x9_3 : Int).toNat * 4 + 2, none⟩ = some (.int .i64 ((rd_T33 y265 x9_3).f2)) := hcc24 2 _ rfl
              have hx24_3 : World.cell? _ ⟨go23, (x9_3 : Int).toNat * 4 + 3, none⟩ = some (.int .i64 ((rd_T33 y265 x9_3).f3)) := hcc24 3 _ rfl
              have hf24_0 : World.frozen? _ ⟨go23, (x9_3 : Int).toNat * 4, none⟩ = false := hfr24 0
              have hf24_1 : World.frozen? _ ⟨go23, (x9_3 : Int).toNat * 4 + 1, none⟩ = false := hfr24 1
              have hf24_2 : World.frozen? _ ⟨go23, (x9_3 : Int).toNat * 4 + 2, none⟩ = false := hfr24 2
              have hf24_3 : World.frozen? _ ⟨go23, (x9_3 : Int).toNat * 4 + 3, none⟩ = false := hfr24 3
              (try clear hcl24)
              (try clear hcc24)
              (try clear hfr24)
              (try clear hM24)
              replace p24 := eq_true p24
              replace q24 := eq_true q24
              have ek_ : k33.sz = 4 := rfl
              simp only [World.setCells, ek_, Nat.add_zero, Nat.add_assoc, Nat.reduceAdd] at hf24_0 hf24_1 hf24_2 hf24_3 hx24_0 hx24_1 hx24_2 hx24_3
              obtain ⟨ce47, hcl47, hM47, hcc47, hfr47⟩ := Kd.R_elem HQ46.out z33 (x9_3 : Int) (of_decide_eq_true hE) (by have h_ : (x9_3 : Int) < ((x8_3.length : Int) : Int) := of_decide_eq_true hE; first | exact h_ | (have e_ := (Kd.R_reads' HO_8.out).1; omega) | simpa using h_)
              obtain rfl := k33_openM hM47
              have HP47 := (Kd.R_seg HQ46.out (x9_3 : Int) (of_decide_eq_true hE) (by have h_ : (x9_3 : Int) < ((x8_3.length : Int) : Int) := of_decide_eq_true hE; first | exact h_ | (have e_ := (Kd.R_reads' HO_8.out).1; omega) | simpa using h_) (seg := [.int .i64 t261, .int .i64 t262, .int .i64 t263, .int .i64 t264]) (j := 0) hcl47 hcc47 (show 4 ≤ 4 from by decide) (x' := (⟨t261, t262, t263, t264⟩ : S33)) (k33_mkM _ _ _ (⟨t261, t262, t263, t264⟩ : S33) ) (fun _ hk => hk)).1
              rw [← Ny266.out] at HP47
              have HQ47 := Aside0.mk HP47
              clear hcl47 hcc47 hfr47 hM47 HP47
              refine hK.out _ _ ⟨HS0_, HS1_, HS2_, HS3_, HS4_, HS5_, HS6_, HS7_⟩ (fun hHeld => ?_)
              clear hK K
              refine norm_ (a' := ?_) ?_ ?_
              rotate_left
              ·show Act.put _ (some 50) _ = _
               simp only [Act.put, List.setIfInBounds_toArray, List.set_cons_zero, List.set_cons_succ, i64_w, i32_w]
               rfl
              refine pureA 16 34 (bz 23 131071) rfl rfl (any_of HT_.out (by kernel_rfl)) ?_
              refine pureA 17 51 (bz 23 262143) rfl rfl (any_of HT_.out (by kernel_rfl)) ?_
              refine pureA 18 52 (bz 23 524287) rfl rfl (any_of HT_.out (by kernel_rfl)) ?_
              refine pureA 19 53 (bz 23 1048575) rfl rfl (any_of HT_.out (by kernel_rfl)) ?_
              refine last_ (i := 20) (N := none) (bz 23 2097151) rfl rfl (one_of HT_.out (by kernel_rfl)) (by decide) (fun K hK => ?_)
              refine skip_ (w1 := ?_) (by rfl) rfl ?_ ?_
              rotate_left
              ·go_simp
               rfl
              refine hK.out _ _ ?_
              clear hK K
              refine pureA 21 54 (bz 23 4194303) rfl rfl (any_of HT_.out (by kernel_rfl)) ?_
              refine last_ (i := 22) (N := none) (bz 23 8388607) rfl rfl (one_of HT_.out (by kernel_rfl)) (by decide) (fun K hK => ?_)
              refine skip_ (w1 := ?_) (by rfl) rfl ?_ ?_
              rotate_left
              ·go_simp
               rfl
              refine hK.out _ _ ?_
              clear hK K
              refine done_ (done_of HT_.out (by kernel_rfl)) ?_
              obtain ⟨wq_, hwq_⟩ : ∃ W_, W_ = ((((((((w45.setCell ⟨go23, ji18.toNat * 4, none⟩ (.int .i64 t257)).setCell ⟨go23, ji18.toNat * 4 + 1, none⟩ (.int .i64 t258)).setCell ⟨go23, ji18.toNat * 4 + 2, none⟩ (.int .i64 t259)).setCell ⟨go23, ji18.toNat * 4 + 3, none⟩ (.int .i64 t260)).setCell ⟨go23, x9_3.toNat * 4, none⟩ (.int .i64 t261)).setCell ⟨go23, x9_3.toNat * 4 + 1, none⟩ (.int .i64 t262)).setCell ⟨go23, x9_3.toNat * 4 + 2, none⟩ (.int .i64 t263)).setCell ⟨go23, x9_3.toNat * 4 + 3, none⟩ (.int .i64 t264)) := ⟨_, rfl⟩
              have hO_ := HQ47.out
              simp only [World.setCells, ek_, Nat.add_zero, Nat.add_assoc, Nat.reduceAdd] at hO_
              have hB_ : Below w.heap.size w ((((((((w45.setCell ⟨go23, ji18.toNat * 4, none⟩ (.int .i64 t257)).setCell ⟨go23, ji18.toNat * 4 + 1, none⟩ (.int .i64 t258)).setCell ⟨go23, ji18.toNat * 4 + 2, none⟩ (.int .i64 t259)).setCell ⟨go23, ji18.toNat * 4 + 3, none⟩ (.int .i64 t260)).setCell ⟨go23, x9_3.toNat * 4, none⟩ (.int .i64 t261)).setCell ⟨go23, x9_3.toNat * 4 + 1, none⟩ (.int .i64 t262)).setCell ⟨go23, x9_3.toNat * 4 + 2, none⟩ (.int .i64 t263)).setCell ⟨go23, x9_3.toNat * 4 + 3, none⟩ (.int .i64 t264)) := lV8 GB23 GB23 GB23 GB23 GB23 GB23 GB23 GB23
              rw [← hwq_] at hO_ hB_ ⊢
              replace HO_8 := Aside0.mk hO_
              replace HB := Aside0.mk hB_
              clear hO_ hB_ HQ47 HQ46 hwq_
              have p267 : 0 ≤ ((ji18) : Int) := of_decide_eq_true hE
              have q267 : (ji18) < (y266.length : Int) := (by have h_ : ((ji18) : Int) < ((x8_3.length : Int) : Int) := of_decide_eq_true hE; first | (have e_ := (Kd.R_reads' HO_8.out).1; omega) | simpa only [Ny265.out, Ny266.out, List.length_set] using h_)
              have ql267 : (((ji18) : Int) < ((x8_3.length : Int) : Int)) = True := eq_true (of_decide_eq_true hE)
              obtain ⟨ad267, e267, hx267_0, hx267_1, hx267_2, hx267_3⟩ := at_T33 (Kd.R_reads' HO_8.out).2.2 (ji18) p267 q267
              obtain rfl : (⟨go23, 0, none⟩ : Addr) = ad267 := (by injection e267)
              (first | simp only [add_plain] at hx267_0 | simp only [add_at] at hx267_0 | simp only [Addr.add, Nat.zero_add] at hx267_0 | skip)
              (first | simp only [add_plain] at hx267_1 | simp only [add_at] at hx267_1 | simp only [Addr.add, Nat.zero_add] at hx267_1 | skip)
              (first | simp only [add_plain] at hx267_2 | simp only [add_at] at hx267_2 | simp only [Addr.add, Nat.zero_add] at hx267_2 | skip)
              (first | simp only [add_plain] at hx267_3 | simp only [add_at] at hx267_3 | simp only [Addr.add, Nat.zero_add] at hx267_3 | skip)
              replace p267 := eq_true p267
              replace q267 := eq_true q267
              try go_wp2_with (first | ((with_reducible refine gate_callee (f := 23) rfl ?_); refine goesL_ (some 60) rfl rfl Try.func23 (by kernel_rfl) rfl #[.agg #[.int .i64 ((rd_T33 y266 (ji18)).f0), .int .i64 ((rd_T33 y266 (ji18)).f1), .int .i64 ((rd_T33 y266 (ji18)).f2), .int .i64 ((rd_T33 y266 (ji18)).f3)]] rfl (by (try simp only [List.map_toArray, List.map_cons, List.map_nil]); first | done | (simp only [hji18]; rfl) | rfl | (simp only [List.length_drop, List.length_take]; rfl)) ?_; (with_reducible refine (impl_isBody.calls ((rd_T33 y266 (ji18)).f0) ((rd_T33 y266 (ji18)).f1) ((rd_T33 y266 (ji18)).f2) ((rd_T33 y266 (ji18)).f3) false _ A25.out).mono ?_); rintro e w48 ⟨rfl, hb⟩; refine ⟨_, rfl, ?_⟩; replace HO_8 := Aside0.mk (Kd.R_below (rU HO_8.out) hb); replace HB := bH (lU) hb; (try clear hb)))
              go_ret2
              exact ⟨_, by first | rfl | (simp [errW_none, errW_some] <;> rfl) | (simp only [← hji18]; first | rfl | (simp [errW_none, errW_some] <;> rfl)) | (simp [*, errW_none, errW_some] <;> rfl), by first | exact Kd.R_nil _ _ _ _ _ | exact Kd.N_nil _ _ _ _ _ | exact Kd.V_nil _ _ _ _ _ | exact Kd.Q_nil _ _ _ _ _ | exact Kd.S_nil _ _ _ _ _, lU⟩
            ·rw [if_neg c21] at H
             exact absurd H (by simp)
           ·rw [if_neg c20] at H
            exact absurd H (by simp)
          ·rw [if_neg c19] at H
           exact absurd H (by simp)
         ·rw [if_neg c17] at H
          have c17b0 : decide (x9_3 < (x8_3.length : Int)) = false := decide_eq_false c17
          clear c17
          have H' := Aside0.mk H
          clear H
          obtain ⟨Ao49, co49, eo49⟩ := Kd.R_slice HO_8.out
          subst eo49
          go_wp2
          go_roundg k3
          case measure => have := HJ3.out; have := HK2.out; have := HK3.out; omega
          case rel => exact ⟨(x8_3), (wrap64 (x26_2 + 1)), tE, H', ⟨by have := HJ3.out; have := HK2.out; have := HK3.out; omega⟩, ⟨by (with_reducible repeat (first | apply Kd.R_alloc | apply Kd.R_drewN | apply Kd.R_drew)); exact HO_8.out⟩, ⟨by repeat (first | (with_reducible first | exact HB.out | apply below_alloc | apply pw_below_drewN | apply below_drew1) | exact HB.out)⟩⟩
      ·rw [if_neg c16] at H
       have c16b0 : decide (x26_2 < a2) = false := decide_eq_false c16
       clear c16
       simp only [Option.some.injEq, Prod.mk.injEq] at H
       obtain ⟨rfl, rfl⟩ := H
       go_wp2
       go_ret2
       exact ⟨_, eE, by (with_reducible repeat (first | apply Kd.R_alloc | apply Kd.R_drewN | apply Kd.R_drew)); exact HO_8.out, lU⟩
end Go.Proofs.Ytnacjhgpanedoab.PFnPushed
namespace Go.Proofs.Ytnacjhgpanedoab.PFnPushed
open Go.RowKit Go.Proofs.YtnacjhgpanedoabW.PrintWords Go.Proofs.YtnacjhgpanedoabW.PrintLast Go.Proofs.YtnacjhgpanedoabW.PrintMore
attribute [local go_sem] max2_int min2_int max_two min_two max_three min_three max_four min_four   -- for this text's walks alone
set_option linter.unusedVariables false
set_option linter.unusedSimpArgs false
def spec_l1In.f (a0 : Int) (a1 : Int) (a2 : Int) : Option (Bool) := if a0 ≥ a1 then (some (decide (a0 ≤ a2))) else (some false)
set_option maxHeartbeats 8000000 in
set_option maxRecDepth 100000 in
theorem spec_l1In.calls (a0 : Int) (a1 : Int) (a2 : Int) (r : Bool) (w : World) (h : spec_l1In.f a0 a1 a2 = some r) :
  Calls Try.prog 34 #[.int .i64 a0, .int .i64 a1, .int .i64 a2] w fun e w' => e = .returned (.bool r) ∧ Drawn0 w w' := by
 have H : (if a0 ≥ a1 then (some (decide (a0 ≤ a2))) else (some false)) = some r := h
 clear h
 by_cases c4 : a0 ≥ a1
 ·rw [if_pos c4] at H
  have c4b0 : decide (a1 ≤ a0) = true := decide_eq_true c4
  clear c4
  obtain rfl := Option.some.inj H
  go_enter Try.func34, Try.ntmps34
  go_wp2
  go_ret
  exact ⟨by first | rfl | (simp; done) | (simp [*]; done) | exact not_isEmpty _ | exact (not_isEmpty _).symm | exact is_empty _ | exact (is_empty _).symm, by repeat (first | exact Drawn0.refl _ | apply Drawn0.step)⟩
 ·rw [if_neg c4] at H
  have c4b0 : decide (a1 ≤ a0) = false := decide_eq_false c4
  clear c4
  obtain rfl := Option.some.inj H
  go_enter Try.func34, Try.ntmps34
  go_wp2
  go_ret
  exact ⟨by first | rfl | (simp; done) | (simp [*]; done) | exact not_isEmpty _ | exact (not_isEmpty _).symm | exact is_empty _ | exact (is_empty _).symm, by repeat (first | exact Drawn0.refl _ | apply Drawn0.step)⟩
def spec_l10Body.f (a0_0 : Int) (a0_1 : Int) (a0_2 : Int) (a0_3 : Int) : Option (Bool) := (spec_l1In.f a0_0 (-1000000000) 1000000000).bind fun t272 => (if t272 = true then ((spec_l1In.f a0_1 (-1000000) 1000000).bind fun t273 => (if t273 = true then ((spec_l1In.f a0_2 0 12).bind fun t274 => (if t274 = true then (if a0_2 > 0 then ((spec_l1In.f a0_3 1 1000).bind fun t275 => (some t275)) else (if a0_1 = 0 then ((spec_l1In.f a0_3 1 1000).bind fun t276 => (some t276)) else (some false))) else (some false))) else (some false))) else (some false))
set_option maxHeartbeats 8000000 in
set_option maxRecDepth 100000 in
theorem spec_l10Body.calls (a0_0 : Int) (a0_1 : Int) (a0_2 : Int) (a0_3 : Int) (r : Bool) (w : World) (h : spec_l10Body.f a0_0 a0_1 a0_2 a0_3 = some r) :
  Calls Try.prog 36 #[.agg #[.int .i64 a0_0, .int .i64 a0_1, .int .i64 a0_2, .int .i64 a0_3]] w fun e w' => e = .returned (.bool r) ∧ Below w.heap.size w w' := by
 have hu33 := Try.underlying33
 have HB := Aside0.mk (Below.refl w.heap.size w)
 have H : ((spec_l1In.f a0_0 (-1000000000) 1000000000).bind fun t272 => (if t272 = true then ((spec_l1In.f a0_1 (-1000000) 1000000).bind fun t273 => (if t273 = true then ((spec_l1In.f a0_2 0 12).bind fun t274 => (if t274 = true then (if a0_2 > 0 then ((spec_l1In.f a0_3 1 1000).bind fun t275 => (some t275)) else (if a0_1 = 0 then ((spec_l1In.f a0_3 1 1000).bind fun t276 => (some t276)) else (some false))) else (some false))) else (some false))) else (some false))) = some r := h
 clear h
 replace H := Option.bind_eq_some_iff.mp H
 obtain ⟨t272, A20, H⟩ := H
 replace H : (if t272 = true then ((spec_l1In.f a0_1 (-1000000) 1000000).bind fun t273 => (if t273 = true then ((spec_l1In.f a0_2 0 12).bind fun t274 => (if t274 = true then (if a0_2 > 0 then ((spec_l1In.f a0_3 1 1000).bind fun t275 => (some t275)) else (if a0_1 = 0 then ((spec_l1In.f a0_3 1 1000).bind fun t276 => (some t276)) else (some false))) else (some false))) else (some false))) else (some false)) = some r := H
 have A2 := Aside0.mk A20
 clear A20
 by_cases c3 : t272 = true
 ·subst c3
  have H1 : ((spec_l1In.f a0_1 (-1000000) 1000000).bind fun t273 => (if t273 = true then ((spec_l1In.f a0_2 0 12).bind fun t274 => (if t274 = true then (if a0_2 > 0 then ((spec_l1In.f a0_3 1 1000).bind fun t275 => (some t275)) else (if a0_1 = 0 then ((spec_l1In.f a0_3 1 1000).bind fun t276 => (some t276)) else (some false))) else (some false))) else (some false))) = some r := by rw [if_pos rfl] at H; exact H
  clear H
  have H := H1
  clear H1
  replace H := Option.bind_eq_some_iff.mp H
  obtain ⟨t273, A40, H⟩ := H
  replace H : (if t273 = true then ((spec_l1In.f a0_2 0 12).bind fun t274 => (if t274 = true then (if a0_2 > 0 then ((spec_l1In.f a0_3 1 1000).bind fun t275 => (some t275)) else (if a0_1 = 0 then ((spec_l1In.f a0_3 1 1000).bind fun t276 => (some t276)) else (some false))) else (some false))) else (some false)) = some r := H
  have A4 := Aside0.mk A40
  clear A40
  by_cases c5 : t273 = true
  ·subst c5
   have H1 : ((spec_l1In.f a0_2 0 12).bind fun t274 => (if t274 = true then (if a0_2 > 0 then ((spec_l1In.f a0_3 1 1000).bind fun t275 => (some t275)) else (if a0_1 = 0 then ((spec_l1In.f a0_3 1 1000).bind fun t276 => (some t276)) else (some false))) else (some false))) = some r := by rw [if_pos rfl] at H; exact H
   clear H
   have H := H1
   clear H1
   replace H := Option.bind_eq_some_iff.mp H
   obtain ⟨t274, A60, H⟩ := H
   replace H : (if t274 = true then (if a0_2 > 0 then ((spec_l1In.f a0_3 1 1000).bind fun t275 => (some t275)) else (if a0_1 = 0 then ((spec_l1In.f a0_3 1 1000).bind fun t276 => (some t276)) else (some false))) else (some false)) = some r := H
   have A6 := Aside0.mk A60
   clear A60
   by_cases c7 : t274 = true
   ·subst c7
    have H1 : (if a0_2 > 0 then ((spec_l1In.f a0_3 1 1000).bind fun t275 => (some t275)) else (if a0_1 = 0 then ((spec_l1In.f a0_3 1 1000).bind fun t276 => (some t276)) else (some false))) = some r := by rw [if_pos rfl] at H; exact H
    clear H
    have H := H1
    clear H1
    by_cases c8 : a0_2 > 0
    ·rw [if_pos c8] at H
     have c8b0 : decide (0 < a0_2) = true := decide_eq_true c8
     clear c8
     replace H := Option.bind_eq_some_iff.mp H
     obtain ⟨t275, A90, H⟩ := H
     replace H : (some t275) = some r := H
     have A9 := Aside0.mk A90
     clear A90
     obtain rfl := Option.some.inj H
     go_enter Try.func36, Try.ntmps36
     go_wp2_with (first | ((with_reducible refine gate_dst (N := 1) rfl ?_); refine box_event rfl (N := 1) rfl (cs := #[.int .i64 a0_0, .int .i64 a0_1, .int .i64 a0_2, .int .i64 a0_3]) (t := 33) sE ?_; intro gb271 hg w10 hbox hb; have BK271 := Aside0.mk hbox; have GW271 := gS w hg (lU); have GE271 := gS w hg (lU); replace HB := bH (lU) hb; clear hb hbox hg; have hcz11_0 := cz BK271 0 (.int .i64 a0_0); have hcz11_1 := cz BK271 1 (.int .i64 a0_1); have hcz11_2 := cz BK271 2 (.int .i64 a0_2); have hcz11_3 := cz BK271 3 (.int .i64 a0_3); have hfz11_0 := fz BK271 0; have hfz11_1 := fz BK271 1; have hfz11_2 := fz BK271 2; have hfz11_3 := fz BK271 3) | ((with_reducible refine gate_callee (f := 34) rfl ?_); refine goesL_ (some 5) rfl rfl Try.func34 (by kernel_rfl) rfl #[.int .i64 a0_0, .int .i64 (-1000000000), .int .i64 1000000000] rfl aE ?_; (with_reducible refine (spec_l1In.calls a0_0 (-1000000000) 1000000000 true _ A2.out).mono ?_); rintro e w' ⟨rfl, ⟨nd, rfl⟩⟩; refine ⟨_, rfl, ?_⟩) | (go_at_call 34; (with_reducible refine (spec_l1In.calls a0_1 (-1000000) 1000000 true _ A4.out).mono ?_); rintro e w' ⟨rfl, ⟨nd, rfl⟩⟩) | (go_at_call 34; (with_reducible refine (spec_l1In.calls a0_2 0 12 true _ A6.out).mono ?_); rintro e w' ⟨rfl, ⟨nd, rfl⟩⟩) | (go_at_call 34; (with_reducible refine (spec_l1In.calls a0_3 1 1000 t275 _ A9.out).mono ?_); rintro e w' ⟨rfl, ⟨nd, rfl⟩⟩))
     go_ret
     exact ⟨eE, lV1 GE271⟩
    ·rw [if_neg c8] at H
     have c8b0 : decide (0 < a0_2) = false := decide_eq_false c8
     clear c8
     by_cases c12 : a0_1 = 0
     ·rw [if_pos c12] at H
      have c12b0 : (a0_1 == 0) = true := beq_iff_eq.mpr c12
      have c12b1 : (a0_1 != 0) = false := bne_eq_false_iff_eq.mpr c12
      clear c12
      replace H := Option.bind_eq_some_iff.mp H
      obtain ⟨t276, A130, H⟩ := H
      replace H : (some t276) = some r := H
      have A13 := Aside0.mk A130
      clear A130
      obtain rfl := Option.some.inj H
      go_enter Try.func36, Try.ntmps36
      go_wp2_with (first | ((with_reducible refine gate_dst (N := 1) rfl ?_); refine box_event rfl (N := 1) rfl (cs := #[.int .i64 a0_0, .int .i64 a0_1, .int .i64 a0_2, .int .i64 a0_3]) (t := 33) sE ?_; intro gb271 hg w14 hbox hb; have BK271 := Aside0.mk hbox; have GW271 := gS w hg (lU); have GE271 := gS w hg (lU); replace HB := bH (lU) hb; clear hb hbox hg; have hcz15_0 := cz BK271 0 (.int .i64 a0_0); have hcz15_1 := cz BK271 1 (.int .i64 a0_1); have hcz15_2 := cz BK271 2 (.int .i64 a0_2); have hcz15_3 := cz BK271 3 (.int .i64 a0_3); have hfz15_0 := fz BK271 0; have hfz15_1 := fz BK271 1; have hfz15_2 := fz BK271 2; have hfz15_3 := fz BK271 3) | ((with_reducible refine gate_callee (f := 34) rfl ?_); refine goesL_ (some 5) rfl rfl Try.func34 (by kernel_rfl) rfl #[.int .i64 a0_0, .int .i64 (-1000000000), .int .i64 1000000000] rfl aE ?_; (with_reducible refine (spec_l1In.calls a0_0 (-1000000000) 1000000000 true _ A2.out).mono ?_); rintro e w' ⟨rfl, ⟨nd, rfl⟩⟩; refine ⟨_, rfl, ?_⟩) | (go_at_call 34; (with_reducible refine (spec_l1In.calls a0_1 (-1000000) 1000000 true _ A4.out).mono ?_); rintro e w' ⟨rfl, ⟨nd, rfl⟩⟩) | (go_at_call 34; (with_reducible refine (spec_l1In.calls a0_2 0 12 true _ A6.out).mono ?_); rintro e w' ⟨rfl, ⟨nd, rfl⟩⟩) | (go_at_call 34; (with_reducible refine (spec_l1In.calls a0_3 1 1000 t276 _ A13.out).mono ?_); rintro e w' ⟨rfl, ⟨nd, rfl⟩⟩))
      go_ret
      exact ⟨eE, lV1 GE271⟩
     ·rw [if_neg c12] at H
      have c12b0 : (a0_1 == 0) = false := beq_eq_false_iff_ne.mpr c12
      have c12b1 : (a0_1 != 0) = true := bne_iff_ne.mpr c12
      obtain rfl := Option.some.inj H
      go_enter Try.func36, Try.ntmps36
      go_wp2_with (first | ((with_reducible refine gate_dst (N := 1) rfl ?_); refine box_event rfl (N := 1) rfl (cs := #[.int .i64 a0_0, .int .i64 a0_1, .int .i64 a0_2, .int .i64 a0_3]) (t := 33) sE ?_; intro gb271 hg w16 hbox hb; have BK271 := Aside0.mk hbox; have GW271 := gS w hg (lU); have GE271 := gS w hg (lU); replace HB := bH (lU) hb; clear hb hbox hg; have hcz17_0 := cz BK271 0 (.int .i64 a0_0); have hcz17_1 := cz BK271 1 (.int .i64 a0_1); have hcz17_2 := cz BK271 2 (.int .i64 a0_2); have hcz17_3 := cz BK271 3 (.int .i64 a0_3); have hfz17_0 := fz BK271 0; have hfz17_1 := fz BK271 1; have hfz17_2 := fz BK271 2; have hfz17_3 := fz BK271 3) | ((with_reducible refine gate_callee (f := 34) rfl ?_); refine goesL_ (some 5) rfl rfl Try.func34 (by kernel_rfl) rfl #[.int .i64 a0_0, .int .i64 (-1000000000), .int .i64 1000000000] rfl aE ?_; (with_reducible refine (spec_l1In.calls a0_0 (-1000000000) 1000000000 true _ A2.out).mono ?_); rintro e w' ⟨rfl, ⟨nd, rfl⟩⟩; refine ⟨_, rfl, ?_⟩) | (go_at_call 34; (with_reducible refine (spec_l1In.calls a0_1 (-1000000) 1000000 true _ A4.out).mono ?_); rintro e w' ⟨rfl, ⟨nd, rfl⟩⟩) | (go_at_call 34; (with_reducible refine (spec_l1In.calls a0_2 0 12 true _ A6.out).mono ?_); rintro e w' ⟨rfl, ⟨nd, rfl⟩⟩))
      go_ret
      exact ⟨eE, lV1 GE271⟩
   ·replace c7 := Bool.eq_false_iff.mpr c7
    subst c7
    have H1 : (some false) = some r := by rw [if_neg (show ¬ (false = true) by decide)] at H; exact H
    clear H
    have H := H1
    clear H1
    obtain rfl := Option.some.inj H
    go_enter Try.func36, Try.ntmps36
    go_wp2_with (first | ((with_reducible refine gate_dst (N := 1) rfl ?_); refine box_event rfl (N := 1) rfl (cs := #[.int .i64 a0_0, .int .i64 a0_1, .int .i64 a0_2, .int .i64 a0_3]) (t := 33) sE ?_; intro gb271 hg w18 hbox hb; have BK271 := Aside0.mk hbox; have GW271 := gS w hg (lU); have GE271 := gS w hg (lU); replace HB := bH (lU) hb; clear hb hbox hg; have hcz19_0 := cz BK271 0 (.int .i64 a0_0); have hcz19_1 := cz BK271 1 (.int .i64 a0_1); have hcz19_2 := cz BK271 2 (.int .i64 a0_2); have hcz19_3 := cz BK271 3 (.int .i64 a0_3); have hfz19_0 := fz BK271 0; have hfz19_1 := fz BK271 1; have hfz19_2 := fz BK271 2; have hfz19_3 := fz BK271 3) | ((with_reducible refine gate_callee (f := 34) rfl ?_); refine goesL_ (some 5) rfl rfl Try.func34 (by kernel_rfl) rfl #[.int .i64 a0_0, .int .i64 (-1000000000), .int .i64 1000000000] rfl aE ?_; (with_reducible refine (spec_l1In.calls a0_0 (-1000000000) 1000000000 true _ A2.out).mono ?_); rintro e w' ⟨rfl, ⟨nd, rfl⟩⟩; refine ⟨_, rfl, ?_⟩) | (go_at_call 34; (with_reducible refine (spec_l1In.calls a0_1 (-1000000) 1000000 true _ A4.out).mono ?_); rintro e w' ⟨rfl, ⟨nd, rfl⟩⟩) | (go_at_call 34; (with_reducible refine (spec_l1In.calls a0_2 0 12 false _ A6.out).mono ?_); rintro e w' ⟨rfl, ⟨nd, rfl⟩⟩))
    go_ret
    exact ⟨eE, lV1 GE271⟩
  ·replace c5 := Bool.eq_false_iff.mpr c5
   subst c5
   have H1 : (some false) = some r := by rw [if_neg (show ¬ (false = true) by decide)] at H; exact H
   clear H
   have H := H1
   clear H1
   obtain rfl := Option.some.inj H
   go_enter Try.func36, Try.ntmps36
   go_wp2_with (first | ((with_reducible refine gate_dst (N := 1) rfl ?_); refine box_event rfl (N := 1) rfl (cs := #[.int .i64 a0_0, .int .i64 a0_1, .int .i64 a0_2, .int .i64 a0_3]) (t := 33) sE ?_; intro gb271 hg w20 hbox hb; have BK271 := Aside0.mk hbox; have GW271 := gS w hg (lU); have GE271 := gS w hg (lU); replace HB := bH (lU) hb; clear hb hbox hg; have hcz21_0 := cz BK271 0 (.int .i64 a0_0); have hcz21_1 := cz BK271 1 (.int .i64 a0_1); have hcz21_2 := cz BK271 2 (.int .i64 a0_2); have hcz21_3 := cz BK271 3 (.int .i64 a0_3); have hfz21_0 := fz BK271 0; have hfz21_1 := fz BK271 1; have hfz21_2 := fz BK271 2; have hfz21_3 := fz BK271 3) | ((with_reducible refine gate_callee (f := 34) rfl ?_); refine goesL_ (some 5) rfl rfl Try.func34 (by kernel_rfl) rfl #[.int .i64 a0_0, .int .i64 (-1000000000), .int .i64 1000000000] rfl aE ?_; (with_reducible refine (spec_l1In.calls a0_0 (-1000000000) 1000000000 true _ A2.out).mono ?_); rintro e w' ⟨rfl, ⟨nd, rfl⟩⟩; refine ⟨_, rfl, ?_⟩) | (go_at_call 34; (with_reducible refine (spec_l1In.calls a0_1 (-1000000) 1000000 false _ A4.out).mono ?_); rintro e w' ⟨rfl, ⟨nd, rfl⟩⟩))
   go_ret
   exact ⟨eE, lV1 GE271⟩
 ·replace c3 := Bool.eq_false_iff.mpr c3
  subst c3
  have H1 : (some false) = some r := by rw [if_neg (show ¬ (false = true) by decide)] at H; exact H
  clear H
  have H := H1
  clear H1
  obtain rfl := Option.some.inj H
  go_enter Try.func36, Try.ntmps36
  go_wp2_with (first | ((with_reducible refine gate_dst (N := 1) rfl ?_); refine box_event rfl (N := 1) rfl (cs := #[.int .i64 a0_0, .int .i64 a0_1, .int .i64 a0_2, .int .i64 a0_3]) (t := 33) sE ?_; intro gb271 hg w22 hbox hb; have BK271 := Aside0.mk hbox; have GW271 := gS w hg (lU); have GE271 := gS w hg (lU); replace HB := bH (lU) hb; clear hb hbox hg; have hcz23_0 := cz BK271 0 (.int .i64 a0_0); have hcz23_1 := cz BK271 1 (.int .i64 a0_1); have hcz23_2 := cz BK271 2 (.int .i64 a0_2); have hcz23_3 := cz BK271 3 (.int .i64 a0_3); have hfz23_0 := fz BK271 0; have hfz23_1 := fz BK271 1; have hfz23_2 := fz BK271 2; have hfz23_3 := fz BK271 3) | ((with_reducible refine gate_callee (f := 34) rfl ?_); refine goesL_ (some 5) rfl rfl Try.func34 (by kernel_rfl) rfl #[.int .i64 a0_0, .int .i64 (-1000000000), .int .i64 1000000000] rfl aE ?_; (with_reducible refine (spec_l1In.calls a0_0 (-1000000000) 1000000000 false _ A2.out).mono ?_); rintro e w' ⟨rfl, ⟨nd, rfl⟩⟩; refine ⟨_, rfl, ?_⟩))
  go_ret
  exact ⟨eE, lV1 GE271⟩
end Go.Proofs.Ytnacjhgpanedoab.PFnPushed
namespace Go.Proofs.Ytnacjhgpanedoab.PFnPushed
open Go.RowKit Go.Proofs.YtnacjhgpanedoabW.PrintWords Go.Proofs.YtnacjhgpanedoabW.PrintLast Go.Proofs.YtnacjhgpanedoabW.PrintMore
attribute [local go_sem] max2_int min2_int max_two min_two max_three min_three max_four min_four   -- for this text's walks alone
set_option linter.unusedVariables false
set_option linter.unusedSimpArgs false
def spec_GoodLine.l0 : Nat → List (S33) → List (S33) → Int → Int → Option (Bool)
 | 0, _, _, _, _ => none
 | k + 1, x0, x8, x9, x10 => if x10 < x9 then (if 0 ≤ x10 then (if x10 < (x8.length : Int) then ((spec_l10Body.f ((rd_T33 x8 x10).f0) ((rd_T33 x8 x10).f1) ((rd_T33 x8 x10).f2) ((rd_T33 x8 x10).f3)).bind fun t279 => (if t279 = true then (if x10 > 0 then (if 0 ≤ (wrap64 (x10 - 1)) then (if (wrap64 (x10 - 1)) < (x0.length : Int) then (if (wrap64 (((rd_T33 x0 (wrap64 (x10 - 1))).f0) + ((rd_T33 x0 (wrap64 (x10 - 1))).f3))) > (wrap64 (((rd_T33 x8 x10).f0) - ((rd_T33 x8 x10).f3))) then (some false) else (spec_GoodLine.l0 k x0 x8 x9 (wrap64 (x10 + 1)))) else (none)) else (none)) else (spec_GoodLine.l0 k x0 x8 x9 (wrap64 (x10 + 1)))) else (some false))) else (none)) else (none)) else (some true)
def spec_GoodLine.f (k : Nat) (l0 : List (S33)) : Option (Bool) := if (l0.length : Int) > 20 then (some false) else (spec_GoodLine.l0 k l0 l0 (l0.length : Int) 0)
theorem spec_GoodLine.mono_l : ∀ k, (∀ y0 y1 y2 y3, LeO (spec_GoodLine.l0 k y0 y1 y2 y3) (spec_GoodLine.l0 (k + 1) y0 y1 y2 y3))
 | 0 => fun _ _ _ _ r h => by simp [spec_GoodLine.l0] at h
 | k + 1 => by
  have ih0 := spec_GoodLine.mono_l k
  ·intro y0 y1 y2 y3
   unfold spec_GoodLine.l0
   repeat' first
   | (with_reducible exact ih0 _ _ _ _)
   | (with_reducible first | exact LeO.refl _ | exact LeO.none _ | refine LeO.ite ?_ ?_ | refine LeO.bind ?_ (fun _ => ?_))
   | exact ih0 _ _ _ _ | exact LeO.none _ | refine LeO.ite ?_ ?_ | refine LeO.bind ?_ (fun _ => ?_)
theorem spec_GoodLine.mono : ∀ a0 k, LeO (spec_GoodLine.f k a0) (spec_GoodLine.f (k + 1) a0) := by
 intro a0 k
 have ih0 := spec_GoodLine.mono_l k
 unfold spec_GoodLine.f
 repeat' first
   | (with_reducible exact ih0 _ _ _ _)
   | (with_reducible first | exact LeO.refl _ | exact LeO.none _ | refine LeO.ite ?_ ?_ | refine LeO.bind ?_ (fun _ => ?_))
   | exact ih0 _ _ _ _ | exact LeO.none _ | refine LeO.ite ?_ ?_ | refine LeO.bind ?_ (fun _ => ?_)
def spec_GoodLine.T6 : Bool × List (List Nat × List Nat) := (true, [([], []), ([0], [0]), ([1], [1]), ([2, 1], [2]), ([3], [3]), ([4, 3], [3, 4]), ([5, 3, 3], [3, 5]), ([6], [6]), ([6], [6]), ([8, 6], [6, 8]), ([7, 9, 6], [6, 7, 9]), ([10, 6], [6, 10]), ([11, 6], [6, 11]), ([6], [6]), ([6], [6]), ([14, 6], [6, 14]), ([13, 15, 6], [6, 13, 15]), ([16, 6], [6, 16]), ([17, 6], [6, 17]), ([12, 18, 6], [6, 12, 18]), ([6], [6]), ([20, 6], [6, 20]), ([6], [6]), ([22, 6], [6, 22]), ([21, 23, 6], [6, 21, 23]), ([19, 24, 6], [6, 19, 24]), ([6, 25, 3], [3, 6, 25]), ([3, 26], [3, 26])])
def spec_GoodLine.B6 : List Nat := [0, 1, 3, 7, 15, 31, 63, 127, 127, 383, 1023, 2047, 4095, 127, 127, 16511, 57471, 123007, 254079, 524287, 127, 1048703, 127, 4194431, 15728767, 33554431, 67108863, 134217727]
theorem spec_GoodLine.tab6 : rtab .any (opsOf Try.f32 6) = spec_GoodLine.T6 := by kernel_rfl
theorem spec_GoodLine.bits6 : waitsOk spec_GoodLine.T6.2 spec_GoodLine.B6 = true := by kernel_rfl
set_option maxHeartbeats 8000000 in
set_option maxRecDepth 100000 in
theorem spec_GoodLine.calls (k : Nat) (A0 : Option Addr) (c0 : Nat) (l0 : List (S33)) (r : Bool) (w : World) (hr0 : Kd.C k33 w A0 l0.length l0) (hc0 : l0.length ≤ c0) (h : spec_GoodLine.f k l0 = some r) :
  Calls Try.prog 32 #[.slice A0 l0.length c0] w fun e w' => e = .returned (.bool r) ∧ Below w.heap.size w w' := by
 have hu33 := Try.underlying33
 have HR0 := Aside0.mk hr0
 have HC0 := Aside0.mk hc0
 clear hr0 hc0
 have HB := Aside0.mk (Below.refl w.heap.size w)
 have H : (if (l0.length : Int) > 20 then (some false) else (spec_GoodLine.l0 k l0 l0 (l0.length : Int) 0)) = some r := h
 clear h
 by_cases c2 : (l0.length : Int) > 20
 ·rw [if_pos c2] at H
  have c2b0 : decide (20 < (l0.length : Int)) = true := decide_eq_true c2
  have c2b1 : decide (20 < l0.length) = true := decide_eq_true (by omega)
  clear c2
  obtain rfl := Option.some.inj H
  go_enter Try.func32, Try.ntmps32
  go_wp2
  go_ret
  exact ⟨eE, lU⟩
 ·rw [if_neg c2] at H
  have c2b0 : decide (20 < (l0.length : Int)) = false := decide_eq_false c2
  have c2b1 : decide (20 < l0.length) = false := decide_eq_false (by omega)
  clear c2
  have H' := Aside0.mk H
  clear H
  go_enter Try.func32, Try.ntmps32
  go_wp2
  go_loopg [10] k (fun kq v10 w' => ∃ (x10_1 : Int), v10 = .int .i64 x10_1 ∧ Aside0 (spec_GoodLine.l0 kq l0 l0 (l0.length : Int) x10_1 = some r) ∧ Aside0 (kq ≤ k) ∧ Aside0 (Below w.heap.size w w'))
  case atStart => exact ⟨(0), tE, H', ⟨Nat.le_refl _⟩, ⟨by repeat (first | (with_reducible first | exact HB.out | apply below_alloc | apply pw_below_drewN | apply below_drew1) | exact HB.out)⟩⟩
  case round =>
   clear H'
   try clear c2; try clear c2b0; try clear c2b1
   obtain ⟨x10_1, rfl, HA, HK1, HB⟩ := hrel
   cases gk with
   | zero => exact absurd HA.out (by simp [spec_GoodLine.l0])
   | succ k1 =>
    have H := HA.out
    clear HA
    simp only [spec_GoodLine.l0] at H
    by_cases c3 : x10_1 < (l0.length : Int)
    ·rw [if_pos c3] at H
     have c3b0 : decide (x10_1 < (l0.length : Int)) = true := decide_eq_true c3
     clear c3
     by_cases c4 : 0 ≤ x10_1
     ·rw [if_pos c4] at H
      have c4b0 : decide (0 ≤ x10_1) = true := decide_eq_true c4
      clear c4
      by_cases c5 : x10_1 < (l0.length : Int)
      ·rw [if_pos c5] at H
       have c5b0 : decide (x10_1 < (l0.length : Int)) = true := decide_eq_true c5
       clear c5
       replace H := Option.bind_eq_some_iff.mp H
       obtain ⟨t279, A60, H⟩ := H
       replace H : (if t279 = true then (if x10_1 > 0 then (if 0 ≤ (wrap64 (x10_1 - 1)) then (if (wrap64 (x10_1 - 1)) < (l0.length : Int) then (if (wrap64 (((rd_T33 l0 (wrap64 (x10_1 - 1))).f0) + ((rd_T33 l0 (wrap64 (x10_1 - 1))).f3))) > (wrap64 (((rd_T33 l0 x10_1).f0) - ((rd_T33 l0 x10_1).f3))) then (some false) else (spec_GoodLine.l0 k1 l0 l0 (l0.length : Int) (wrap64 (x10_1 + 1)))) else (none)) else (none)) else (spec_GoodLine.l0 k1 l0 l0 (l0.length : Int) (wrap64 (x10_1 + 1)))) else (some false)) = some r := H
       have A6 := Aside0.mk A60
       clear A60
       by_cases c7 : t279 = true
       ·subst c7
        have H1 : (if x10_1 > 0 then (if 0 ≤ (wrap64 (x10_1 - 1)) then (if (wrap64 (x10_1 - 1)) < (l0.length : Int) then (if (wrap64 (((rd_T33 l0 (wrap64 (x10_1 - 1))).f0) + ((rd_T33 l0 (wrap64 (x10_1 - 1))).f3))) > (wrap64 (((rd_T33 l0 x10_1).f0) - ((rd_T33 l0 x10_1).f3))) then (some false) else (spec_GoodLine.l0 k1 l0 l0 (l0.length : Int) (wrap64 (x10_1 + 1)))) else (none)) else (none)) else (spec_GoodLine.l0 k1 l0 l0 (l0.length : Int) (wrap64 (x10_1 + 1)))) = some r := by rw [if_pos rfl] at H; exact H
        clear H
        have H := H1
        clear H1
        by_cases c8 : x10_1 > 0
        ·rw [if_pos c8] at H
         have c8b0 : decide (0 < x10_1) = true := decide_eq_true c8
         clear c8
         obtain ⟨ji9, hji9⟩ : ∃ j_ : Int, (wrap64 (x10_1 - 1)) = j_ := ⟨_, rfl⟩
         replace H : (if 0 ≤ (ji9) then (if (ji9) < (l0.length : Int) then (if (wrap64 (((rd_T33 l0 (ji9)).f0) + ((rd_T33 l0 (ji9)).f3))) > (wrap64 (((rd_T33 l0 x10_1).f0) - ((rd_T33 l0 x10_1).f3))) then (some false) else (spec_GoodLine.l0 k1 l0 l0 (l0.length : Int) (wrap64 (x10_1 + 1)))) else (none)) else (none)) = some r := by first | (rw [hji9] at H; exact H) | (simp only [hji9] at H ⊢; exact H)
         (try rw [hji9] at A6)
         have hji9w : (IntKind.i64.wrap (x10_1 - 1)) = ji9 := (i64_w _).trans hji9
         by_cases c10 : 0 ≤ (ji9)
         ·rw [if_pos c10] at H
          have c10b0 : decide (0 ≤ (ji9)) = true := decide_eq_true c10
          clear c10
          by_cases c11 : (ji9) < (l0.length : Int)
          ·rw [if_pos c11] at H
           have c11b0 : decide ((ji9) < (l0.length : Int)) = true := decide_eq_true c11
           clear c11
           by_cases c12 : (wrap64 (((rd_T33 l0 (ji9)).f0) + ((rd_T33 l0 (ji9)).f3))) > (wrap64 (((rd_T33 l0 x10_1).f0) - ((rd_T33 l0 x10_1).f3)))
           ·rw [if_pos c12] at H
            have c12b0 : decide ((wrap64 (((rd_T33 l0 x10_1).f0) - ((rd_T33 l0 x10_1).f3))) < (wrap64 (((rd_T33 l0 (ji9)).f0) + ((rd_T33 l0 (ji9)).f3)))) = true := decide_eq_true c12
            clear c12
            obtain rfl := Option.some.inj H
            have p277 : 0 ≤ (x10_1 : Int) := of_decide_eq_true hE
            have q277 : x10_1 < (l0.length : Int) := of_decide_eq_true hE
            obtain ⟨ad277, e277, hx277_0, hx277_1, hx277_2, hx277_3⟩ := at_T33 HR0.out x10_1 p277 q277
            cases e277
            replace hx277_0 := (HB.out.cell (World.block_lt_of_cell? w _ hx277_0)).trans hx277_0
            replace hx277_1 := (HB.out.cell (World.block_lt_of_cell? w _ hx277_1)).trans hx277_1
            replace hx277_2 := (HB.out.cell (World.block_lt_of_cell? w _ hx277_2)).trans hx277_2
            replace hx277_3 := (HB.out.cell (World.block_lt_of_cell? w _ hx277_3)).trans hx277_3
            replace p277 := eq_true p277
            replace q277 := eq_true q277
            try go_wp2_with (first | ((with_reducible refine gate_dst (N := 4) rfl ?_); refine box_event rfl (N := 4) rfl (cs := #[.int .i64 0, .int .i64 0, .int .i64 0, .int .i64 0]) (t := 33) sE ?_; intro gb278 hg w13 hbox hb; have BK278 := Aside0.mk hbox; have GW278 := gS w hg (lU); have GE278 := gS w hg (lU); replace HB := bH (lU) hb; clear hb hbox hg; have hcz14_0 := cz BK278 0 (.int .i64 0); have hcz14_1 := cz BK278 1 (.int .i64 0); have hcz14_2 := cz BK278 2 (.int .i64 0); have hcz14_3 := cz BK278 3 (.int .i64 0); have hfz14_0 := fz BK278 0; have hfz14_1 := fz BK278 1; have hfz14_2 := fz BK278 2; have hfz14_3 := fz BK278 3))
            have n0_ : Aside0 (((((w13.setCell ⟨gb278, 0, none⟩ (.int .i64 ((rd_T33 l0 x10_1).f0))).setCell ⟨gb278, 1, none⟩ (.int .i64 ((rd_T33 l0 x10_1).f1))).setCell ⟨gb278, 2, none⟩ (.int .i64 ((rd_T33 l0 x10_1).f2))).setCell ⟨gb278, 3, none⟩ (.int .i64 ((rd_T33 l0 x10_1).f3))).heap[gb278]? = some (.cells #[.int .i64 ((rd_T33 l0 x10_1).f0), .int .i64 ((rd_T33 l0 x10_1).f1), .int .i64 ((rd_T33 l0 x10_1).f2), .int .i64 ((rd_T33 l0 x10_1).f3)] 33 (0, 0))) := ⟨by refine bU ?_; refine blk_put (cs := #[.int .i64 ((rd_T33 l0 x10_1).f0), .int .i64 ((rd_T33 l0 x10_1).f1), .int .i64 ((rd_T33 l0 x10_1).f2), .int .i64 0]) ?_ 3 _ rfl; refine bU ?_; refine blk_put (cs := #[.int .i64 ((rd_T33 l0 x10_1).f0), .int .i64 ((rd_T33 l0 x10_1).f1), .int .i64 0, .int .i64 0]) ?_ 2 _ rfl; refine bU ?_; refine blk_put (cs := #[.int .i64 ((rd_T33 l0 x10_1).f0), .int .i64 0, .int .i64 0, .int .i64 0]) ?_ 1 _ rfl; refine bU ?_; refine blk_put (cs := #[.int .i64 0, .int .i64 0, .int .i64 0, .int .i64 0]) ?_ 0 _ rfl; refine bU ?_; exact BK278.out⟩
            have n1_ : Aside0 (Below w.heap.size w ((((w13.setCell ⟨gb278, 0, none⟩ (.int .i64 ((rd_T33 l0 x10_1).f0))).setCell ⟨gb278, 1, none⟩ (.int .i64 ((rd_T33 l0 x10_1).f1))).setCell ⟨gb278, 2, none⟩ (.int .i64 ((rd_T33 l0 x10_1).f2))).setCell ⟨gb278, 3, none⟩ (.int .i64 ((rd_T33 l0 x10_1).f3)))) := ⟨by repeat (first | (with_reducible first | exact HB.out | apply below_alloc | apply pw_below_drewN | apply below_drew1 | refine below_set ?_ GE278.out) | exact HB.out)⟩
            (try clear BK278)
            (try clear HB)
            generalize ((((w13.setCell ⟨gb278, 0, none⟩ (.int .i64 ((rd_T33 l0 x10_1).f0))).setCell ⟨gb278, 1, none⟩ (.int .i64 ((rd_T33 l0 x10_1).f1))).setCell ⟨gb278, 2, none⟩ (.int .i64 ((rd_T33 l0 x10_1).f2))).setCell ⟨gb278, 3, none⟩ (.int .i64 ((rd_T33 l0 x10_1).f3))) = w15 at n0_ n1_ ⊢
            have BK278 := n0_
            have HB := n1_
            clear n0_ n1_
            replace BK278 := Aside0.mk (blk_drew BK278.out)
            replace HB := Aside0.mk (below_drew1 HB.out)
            have p280 : 0 ≤ ((ji9) : Int) := of_decide_eq_true hE
            have q280 : (ji9) < (l0.length : Int) := of_decide_eq_true hE
            obtain ⟨ad280, e280, hx280_0, hx280_1, hx280_2, hx280_3⟩ := at_T33 HR0.out (ji9) p280 q280
            have hw280_3 := hx280_3
            have hw280_2 := hx280_2
            have hw280_1 := hx280_1
            have hw280_0 := hx280_0
            obtain rfl : ad277 = ad280 := (by injection e280)
            replace hx280_0 := (HB.out.cell (World.block_lt_of_cell? w _ hx280_0)).trans hx280_0
            replace hx280_1 := (HB.out.cell (World.block_lt_of_cell? w _ hx280_1)).trans hx280_1
            replace hx280_2 := (HB.out.cell (World.block_lt_of_cell? w _ hx280_2)).trans hx280_2
            replace hx280_3 := (HB.out.cell (World.block_lt_of_cell? w _ hx280_3)).trans hx280_3
            replace p280 := eq_true p280
            replace q280 := eq_true q280
            have p281 : 0 ≤ ((ji9) : Int) := of_decide_eq_true hE
            have q281 : (ji9) < (l0.length : Int) := of_decide_eq_true hE
            obtain ⟨ad281, e281, hx281_0, hx281_1, hx281_2, hx281_3⟩ := at_T33 HR0.out (ji9) p281 q281
            have hw281_3 := hx281_3
            have hw281_2 := hx281_2
            have hw281_1 := hx281_1
            have hw281_0 := hx281_0
            obtain rfl : ad277 = ad281 := (by injection e281)
            replace hx281_0 := (HB.out.cell (World.block_lt_of_cell? w _ hx281_0)).trans hx281_0
            replace hx281_1 := (HB.out.cell (World.block_lt_of_cell? w _ hx281_1)).trans hx281_1
            replace hx281_2 := (HB.out.cell (World.block_lt_of_cell? w _ hx281_2)).trans hx281_2
            replace hx281_3 := (HB.out.cell (World.block_lt_of_cell? w _ hx281_3)).trans hx281_3
            replace p281 := eq_true p281
            replace q281 := eq_true q281
            refine start_ (n := 28) (S := fun w' => w'.cell? ⟨gb278, 0, none⟩ = some (.int .i64 ((rd_T33 l0 x10_1).f0)) ∧ w'.cell? ⟨gb278, 1, none⟩ = some (.int .i64 ((rd_T33 l0 x10_1).f1)) ∧ w'.cell? ⟨gb278, 2, none⟩ = some (.int .i64 ((rd_T33 l0 x10_1).f2)) ∧ w'.cell? ⟨gb278, 3, none⟩ = some (.int .i64 ((rd_T33 l0 x10_1).f3)) ∧ w'.cell? (ad277.add (((ji9)).toNat * 4)) = some (.int .i64 ((rd_T33 l0 (ji9)).f0)) ∧ w'.cell? ⟨(ad277.add (((ji9)).toNat * 4)).block, (ad277.add (((ji9)).toNat * 4)).off + 1, none⟩ = some (.int .i64 ((rd_T33 l0 (ji9)).f1)) ∧ w'.cell? ⟨(ad277.add (((ji9)).toNat * 4)).block, (ad277.add (((ji9)).toNat * 4)).off + 2, none⟩ = some (.int .i64 ((rd_T33 l0 (ji9)).f2)) ∧ w'.cell? ⟨(ad277.add (((ji9)).toNat * 4)).block, (ad277.add (((ji9)).toNat * 4)).off + 3, none⟩ = some (.int .i64 ((rd_T33 l0 (ji9)).f3)) ∧ w'.cell? (ad277.add (((ji9)).toNat * 4)) = some (.int .i64 ((rd_T33 l0 (ji9)).f0)) ∧ w'.cell? ⟨(ad277.add (((ji9)).toNat * 4)).block, (ad277.add (((ji9)).toNat * 4)).off + 1, none⟩ = some (.int .i64 ((rd_T33 l0 (ji9)).f1)) ∧ w'.cell? ⟨(ad277.add (((ji9)).toNat * 4)).block, (ad277.add (((ji9)).toNat * 4)).off + 2, none⟩ = some (.int .i64 ((rd_T33 l0 (ji9)).f2)) ∧ w'.cell? ⟨(ad277.add (((ji9)).toNat * 4)).block, (ad277.add (((ji9)).toNat * 4)).off + 3, none⟩ = some (.int .i64 ((rd_T33 l0 (ji9)).f3))) (ds := []) #[false, false, false, false, false, false, false, false, false, false, false, false, false, false, false, false, false, false, false, false, false, false, false, false, false, false, false, false] (by kernel_rfl) rfl rfl ⟨cz BK278 0 _, cz BK278 1 _, cz BK278 2 _, cz BK278 3 _, ((HB.out.cell (World.block_lt_of_cell? w _ hw280_0)).trans hw280_0), ((HB.out.cell (World.block_lt_of_cell? w _ hw280_1)).trans hw280_1), ((HB.out.cell (World.block_lt_of_cell? w _ hw280_2)).trans hw280_2), ((HB.out.cell (World.block_lt_of_cell? w _ hw280_3)).trans hw280_3), ((HB.out.cell (World.block_lt_of_cell? w _ hw281_0)).trans hw281_0), ((HB.out.cell (World.block_lt_of_cell? w _ hw281_1)).trans hw281_1), ((HB.out.cell (World.block_lt_of_cell? w _ hw281_2)).trans hw281_2), ((HB.out.cell (World.block_lt_of_cell? w _ hw281_3)).trans hw281_3)⟩ (fun hHeld => ?_); refine with_tabW spec_GoodLine.tab6 spec_GoodLine.bits6 (fun HT_ HW_ => ?_)
            generalize w15.drew = w16 at BK278 HB hx280_0 hx280_1 hx280_2 hx280_3 hx281_0 hx281_1 hx281_2 hx281_3 hHeld ⊢
            refine takeA 0 15 (bz 28 1) rfl rfl (take_ofW HT_.out HW_.out (by kernel_rfl)) hHeld (by rintro w' ⟨s0, s1, s2, s3, s4, s5, s6, s7, s8, s9, s10, s11⟩; go_simp; with_reducible rfl) ?_
            refine one_ (i := 1) (N := some 16) (bz 28 3) rfl rfl (one_of HT_.out (by kernel_rfl)) (by decide) (fun K hK => ?_)
            refine goes_ Try.func36 (by kernel_rfl) rfl #[.agg #[.int .i64 ((rd_T33 l0 x10_1).f0), .int .i64 ((rd_T33 l0 x10_1).f1), .int .i64 ((rd_T33 l0 x10_1).f2), .int .i64 ((rd_T33 l0 x10_1).f3)]] (by rfl) rfl rfl aE ?_
            with_reducible refine (spec_l10Body.calls ((rd_T33 l0 x10_1).f0) ((rd_T33 l0 x10_1).f1) ((rd_T33 l0 x10_1).f2) ((rd_T33 l0 x10_1).f3) true _ A6.out).mono ?_
            rintro e w17 ⟨rfl, hb⟩
            refine ⟨_, rfl, ?_⟩
            replace BK278 := bB (bV BK278) hb
            replace HB := bH (lV1 GE278) hb
            (try clear hb)
            (try clear hb2)
            (try clear hk)
            (try clear hi)
            refine hK.out _ _ ⟨cz BK278 0 _, cz BK278 1 _, cz BK278 2 _, cz BK278 3 _, ((HB.out.cell (World.block_lt_of_cell? w _ hw280_0)).trans hw280_0), ((HB.out.cell (World.block_lt_of_cell? w _ hw280_1)).trans hw280_1), ((HB.out.cell (World.block_lt_of_cell? w _ hw280_2)).trans hw280_2), ((HB.out.cell (World.block_lt_of_cell? w _ hw280_3)).trans hw280_3), ((HB.out.cell (World.block_lt_of_cell? w _ hw281_0)).trans hw281_0), ((HB.out.cell (World.block_lt_of_cell? w _ hw281_1)).trans hw281_1), ((HB.out.cell (World.block_lt_of_cell? w _ hw281_2)).trans hw281_2), ((HB.out.cell (World.block_lt_of_cell? w _ hw281_3)).trans hw281_3)⟩ (fun hHeld => ?_)
            clear hK K
            refine norm_ (a' := ?_) ?_ ?_
            rotate_left
            ·show Act.put _ (some 16) _ = _
             simp only [Act.put, List.setIfInBounds_toArray, List.set_cons_zero, List.set_cons_succ, i64_w, i32_w]
             rfl
            refine pureA 2 17 (bz 28 7) rfl rfl (any_of HT_.out (by kernel_rfl)) ?_
            refine pureA 3 18 (bz 28 15) rfl rfl (any_of HT_.out (by kernel_rfl)) ?_
            refine pureA 4 19 (bz 28 31) rfl rfl (any_of HT_.out (by kernel_rfl)) ?_
            refine pureA 5 20 (bz 28 63) rfl rfl (any_of HT_.out (by kernel_rfl)) ?_
            refine pureA 6 21 (bz 28 127) rfl rfl (any_of HT_.out (by kernel_rfl)) ?_
            refine pureA 7 22 (bz 28 255) rfl rfl (any_of HT_.out (by kernel_rfl)) ?_
            refine pureA 8 23 (bz 28 511) rfl rfl (any_of HT_.out (by kernel_rfl)) ?_
            refine pureA 9 24 (bz 28 1023) rfl rfl (any_of HT_.out (by kernel_rfl)) ?_
            refine pureA 10 25 (bz 28 2047) rfl rfl (any_of HT_.out (by kernel_rfl)) ?_
            refine pureA 11 26 (bz 28 4095) rfl rfl (any_of HT_.out (by kernel_rfl)) ?_
            refine pureA 13 28 (bz 28 12287) rfl rfl (any_of HT_.out (by kernel_rfl)) ?_
            refine pureA 14 29 (bz 28 28671) rfl rfl (any_of HT_.out (by kernel_rfl)) ?_
            refine pureA 15 30 (bz 28 61439) rfl rfl (any_of HT_.out (by kernel_rfl)) ?_
            refine pureA 16 31 (bz 28 126975) rfl rfl (any_of HT_.out (by kernel_rfl)) ?_
            refine pureA 17 32 (bz 28 258047) rfl rfl (any_of HT_.out (by kernel_rfl)) ?_
            refine pureA 20 35 (bz 28 1306623) rfl rfl (any_of HT_.out (by kernel_rfl)) ?_
            refine pureA 22 37 (bz 28 5500927) rfl rfl (any_of HT_.out (by kernel_rfl)) ?_
            refine takeA 12 27 (bz 28 5505023) rfl rfl (take_ofW HT_.out HW_.out (by kernel_rfl)) hHeld (by rintro w' ⟨s0, s1, s2, s3, s4, s5, s6, s7, s8, s9, s10, s11⟩; go_simp; with_reducible rfl) ?_
            refine takeA 18 33 (bz 28 5767167) rfl rfl (take_ofW HT_.out HW_.out (by kernel_rfl)) hHeld (by rintro w' ⟨s0, s1, s2, s3, s4, s5, s6, s7, s8, s9, s10, s11⟩; go_simp; with_reducible rfl) ?_
            refine pureA 19 34 (bz 28 6291455) rfl rfl (any_of HT_.out (by kernel_rfl)) ?_
            refine takeA 21 36 (bz 28 8388607) rfl rfl (take_ofW HT_.out HW_.out (by kernel_rfl)) hHeld (by rintro w' ⟨s0, s1, s2, s3, s4, s5, s6, s7, s8, s9, s10, s11⟩; go_simp; with_reducible rfl) ?_
            refine takeA 23 38 (bz 28 16777215) rfl rfl (take_ofW HT_.out HW_.out (by kernel_rfl)) hHeld (by rintro w' ⟨s0, s1, s2, s3, s4, s5, s6, s7, s8, s9, s10, s11⟩; go_simp; with_reducible rfl) ?_
            refine pureA 24 39 (bz 28 33554431) rfl rfl (any_of HT_.out (by kernel_rfl)) ?_
            refine pureA 25 40 (bz 28 67108863) rfl rfl (any_of HT_.out (by kernel_rfl)) ?_
            refine pureA 26 41 (bz 28 134217727) rfl rfl (any_of HT_.out (by kernel_rfl)) ?_
            refine pureA 27 42 (bz 28 268435455) rfl rfl (any_of HT_.out (by kernel_rfl)) ?_
            refine done_ (done_of HT_.out (by kernel_rfl)) ?_
            try go_wp2
            go_ret
            exact ⟨by first | rfl | (simp [errW_none, errW_some] <;> rfl) | (simp only [← hji9]; first | rfl | (simp [errW_none, errW_some] <;> rfl)) | (simp [*, errW_none, errW_some] <;> rfl), lV1 GE278⟩
           ·rw [if_neg c12] at H
            have c12b0 : decide ((wrap64 (((rd_T33 l0 x10_1).f0) - ((rd_T33 l0 x10_1).f3))) < (wrap64 (((rd_T33 l0 (ji9)).f0) + ((rd_T33 l0 (ji9)).f3)))) = false := decide_eq_false c12
            clear c12
            have H' := Aside0.mk H
            clear H
            have p277 : 0 ≤ (x10_1 : Int) := of_decide_eq_true hE
            have q277 : x10_1 < (l0.length : Int) := of_decide_eq_true hE
            obtain ⟨ad277, e277, hx277_0, hx277_1, hx277_2, hx277_3⟩ := at_T33 HR0.out x10_1 p277 q277
            cases e277
            replace hx277_0 := (HB.out.cell (World.block_lt_of_cell? w _ hx277_0)).trans hx277_0
            replace hx277_1 := (HB.out.cell (World.block_lt_of_cell? w _ hx277_1)).trans hx277_1
            replace hx277_2 := (HB.out.cell (World.block_lt_of_cell? w _ hx277_2)).trans hx277_2
            replace hx277_3 := (HB.out.cell (World.block_lt_of_cell? w _ hx277_3)).trans hx277_3
            replace p277 := eq_true p277
            replace q277 := eq_true q277
            try go_wp2_with (first | ((with_reducible refine gate_dst (N := 4) rfl ?_); refine box_event rfl (N := 4) rfl (cs := #[.int .i64 0, .int .i64 0, .int .i64 0, .int .i64 0]) (t := 33) sE ?_; intro gb278 hg w18 hbox hb; have BK278 := Aside0.mk hbox; have GW278 := gS w hg (lU); have GE278 := gS w hg (lU); replace HB := bH (lU) hb; clear hb hbox hg; have hcz19_0 := cz BK278 0 (.int .i64 0); have hcz19_1 := cz BK278 1 (.int .i64 0); have hcz19_2 := cz BK278 2 (.int .i64 0); have hcz19_3 := cz BK278 3 (.int .i64 0); have hfz19_0 := fz BK278 0; have hfz19_1 := fz BK278 1; have hfz19_2 := fz BK278 2; have hfz19_3 := fz BK278 3))
            have n0_ : Aside0 (((((w18.setCell ⟨gb278, 0, none⟩ (.int .i64 ((rd_T33 l0 x10_1).f0))).setCell ⟨gb278, 1, none⟩ (.int .i64 ((rd_T33 l0 x10_1).f1))).setCell ⟨gb278, 2, none⟩ (.int .i64 ((rd_T33 l0 x10_1).f2))).setCell ⟨gb278, 3, none⟩ (.int .i64 ((rd_T33 l0 x10_1).f3))).heap[gb278]? = some (.cells #[.int .i64 ((rd_T33 l0 x10_1).f0), .int .i64 ((rd_T33 l0 x10_1).f1), .int .i64 ((rd_T33 l0 x10_1).f2), .int .i64 ((rd_T33 l0 x10_1).f3)] 33 (0, 0))) := ⟨by refine bU ?_; refine blk_put (cs := #[.int .i64 ((rd_T33 l0 x10_1).f0), .int .i64 ((rd_T33 l0 x10_1).f1), .int .i64 ((rd_T33 l0 x10_1).f2), .int .i64 0]) ?_ 3 _ rfl; refine bU ?_; refine blk_put (cs := #[.int .i64 ((rd_T33 l0 x10_1).f0), .int .i64 ((rd_T33 l0 x10_1).f1), .int .i64 0, .int .i64 0]) ?_ 2 _ rfl; refine bU ?_; refine blk_put (cs := #[.int .i64 ((rd_T33 l0 x10_1).f0), .int .i64 0, .int .i64 0, .int .i64 0]) ?_ 1 _ rfl; refine bU ?_; refine blk_put (cs := #[.int .i64 0, .int .i64 0, .int .i64 0, .int .i64 0]) ?_ 0 _ rfl; refine bU ?_; exact BK278.out⟩
            have n1_ : Aside0 (Below w.heap.size w ((((w18.setCell ⟨gb278, 0, none⟩ (.int .i64 ((rd_T33 l0 x10_1).f0))).setCell ⟨gb278, 1, none⟩ (.int .i64 ((rd_T33 l0 x10_1).f1))).setCell ⟨gb278, 2, none⟩ (.int .i64 ((rd_T33 l0 x10_1).f2))).setCell ⟨gb278, 3, none⟩ (.int .i64 ((rd_T33 l0 x10_1).f3)))) := ⟨by repeat (first | (with_reducible first | exact HB.out | apply below_alloc | apply pw_below_drewN | apply below_drew1 | refine below_set ?_ GE278.out) | exact HB.out)⟩
            (try clear BK278)
            (try clear HB)
            generalize ((((w18.setCell ⟨gb278, 0, none⟩ (.int .i64 ((rd_T33 l0 x10_1).f0))).setCell ⟨gb278, 1, none⟩ (.int .i64 ((rd_T33 l0 x10_1).f1))).setCell ⟨gb278, 2, none⟩ (.int .i64 ((rd_T33 l0 x10_1).f2))).setCell ⟨gb278, 3, none⟩ (.int .i64 ((rd_T33 l0 x10_1).f3))) = w20 at n0_ n1_ ⊢
            have BK278 := n0_
            have HB := n1_
            clear n0_ n1_
            replace BK278 := Aside0.mk (blk_drew BK278.out)
            replace HB := Aside0.mk (below_drew1 HB.out)
            have p280 : 0 ≤ ((ji9) : Int) := of_decide_eq_true hE
            have q280 : (ji9) < (l0.length : Int) := of_decide_eq_true hE
            obtain ⟨ad280, e280, hx280_0, hx280_1, hx280_2, hx280_3⟩ := at_T33 HR0.out (ji9) p280 q280
            have hw280_3 := hx280_3
            have hw280_2 := hx280_2
            have hw280_1 := hx280_1
            have hw280_0 := hx280_0
            obtain rfl : ad277 = ad280 := (by injection e280)
            replace hx280_0 := (HB.out.cell (World.block_lt_of_cell? w _ hx280_0)).trans hx280_0
            replace hx280_1 := (HB.out.cell (World.block_lt_of_cell? w _ hx280_1)).trans hx280_1
            replace hx280_2 := (HB.out.cell (World.block_lt_of_cell? w _ hx280_2)).trans hx280_2
            replace hx280_3 := (HB.out.cell (World.block_lt_of_cell? w _ hx280_3)).trans hx280_3
            replace p280 := eq_true p280
            replace q280 := eq_true q280
            have p281 : 0 ≤ ((ji9) : Int) := of_decide_eq_true hE
            have q281 : (ji9) < (l0.length : Int) := of_decide_eq_true hE
            obtain ⟨ad281, e281, hx281_0, hx281_1, hx281_2, hx281_3⟩ := at_T33 HR0.out (ji9) p281 q281
            have hw281_3 := hx281_3
            have hw281_2 := hx281_2
            have hw281_1 := hx281_1
            have hw281_0 := hx281_0
            obtain rfl : ad277 = ad281 := (by injection e281)
            replace hx281_0 := (HB.out.cell (World.block_lt_of_cell? w _ hx281_0)).trans hx281_0
            replace hx281_1 := (HB.out.cell (World.block_lt_of_cell? w _ hx281_1)).trans hx281_1
            replace hx281_2 := (HB.out.cell (World.block_lt_of_cell? w _ hx281_2)).trans hx281_2
            replace hx281_3 := (HB.out.cell (World.block_lt_of_cell? w _ hx281_3)).trans hx281_3
            replace p281 := eq_true p281
            replace q281 := eq_true q281
            refine start_ (n := 28) (S := fun w' => w'.cell? ⟨gb278, 0, none⟩ = some (.int .i64 ((rd_T33 l0 x10_1).f0)) ∧ w'.cell? ⟨gb278, 1, none⟩ = some (.int .i64 ((rd_T33 l0 x10_1).f1)) ∧ w'.cell? ⟨gb278, 2, none⟩ = some (.int .i64 ((rd_T33 l0 x10_1).f2)) ∧ w'.cell? ⟨gb278, 3, none⟩ = some (.int .i64 ((rd_T33 l0 x10_1).f3)) ∧ w'.cell? (ad277.add (((ji9)).toNat * 4)) = some (.int .i64 ((rd_T33 l0 (ji9)).f0)) ∧ w'.cell? ⟨(ad277.add (((ji9)).toNat * 4)).block, (ad277.add (((ji9)).toNat * 4)).off + 1, none⟩ = some (.int .i64 ((rd_T33 l0 (ji9)).f1)) ∧ w'.cell? ⟨(ad277.add (((ji9)).toNat * 4)).block, (ad277.add (((ji9)).toNat * 4)).off + 2, none⟩ = some (.int .i64 ((rd_T33 l0 (ji9)).f2)) ∧ w'.cell? ⟨(ad277.add (((ji9)).toNat * 4)).block, (ad277.add (((ji9)).toNat * 4)).off + 3, none⟩ = some (.int .i64 ((rd_T33 l0 (ji9)).f3)) ∧ w'.cell? (ad277.add (((ji9)).toNat * 4)) = some (.int .i64 ((rd_T33 l0 (ji9)).f0)) ∧ w'.cell? ⟨(ad277.add (((ji9)).toNat * 4)).block, (ad277.add (((ji9)).toNat * 4)).off + 1, none⟩ = some (.int .i64 ((rd_T33 l0 (ji9)).f1)) ∧ w'.cell? ⟨(ad277.add (((ji9)).toNat * 4)).block, (ad277.add (((ji9)).toNat * 4)).off + 2, none⟩ = some (.int .i64 ((rd_T33 l0 (ji9)).f2)) ∧ w'.cell? ⟨(ad277.add (((ji9)).toNat * 4)).block, (ad277.add (((ji9)).toNat * 4)).off + 3, none⟩ = some (.int .i64 ((rd_T33 l0 (ji9)).f3))) (ds := []) #[false, false, false, false, false, false, false, false, false, false, false, false, false, false, false, false, false, false, false, false, false, false, false, false, false, false, false, false] (by kernel_rfl) rfl rfl ⟨cz BK278 0 _, cz BK278 1 _, cz BK278 2 _, cz BK278 3 _, ((HB.out.cell (World.block_lt_of_cell? w _ hw280_0)).trans hw280_0), ((HB.out.cell (World.block_lt_of_cell? w _ hw280_1)).trans hw280_1), ((HB.out.cell (World.block_lt_of_cell? w _ hw280_2)).trans hw280_2), ((HB.out.cell (World.block_lt_of_cell? w _ hw280_3)).trans hw280_3), ((HB.out.cell (World.block_lt_of_cell? w _ hw281_0)).trans hw281_0), ((HB.out.cell (World.block_lt_of_cell? w _ hw281_1)).trans hw281_1), ((HB.out.cell (World.block_lt_of_cell? w _ hw281_2)).trans hw281_2), ((HB.out.cell (World.block_lt_of_cell? w _ hw281_3)).trans hw281_3)⟩ (fun hHeld => ?_); refine with_tabW spec_GoodLine.tab6 spec_GoodLine.bits6 (fun HT_ HW_ => ?_)
            generalize w20.drew = w21 at BK278 HB hx280_0 hx280_1 hx280_2 hx280_3 hx281_0 hx281_1 hx281_2 hx281_3 hHeld ⊢
            refine takeA 0 15 (bz 28 1) rfl rfl (take_ofW HT_.out HW_.out (by kernel_rfl)) hHeld (by rintro w' ⟨s0, s1, s2, s3, s4, s5, s6, s7, s8, s9, s10, s11⟩; go_simp; with_reducible rfl) ?_
            refine one_ (i := 1) (N := some 16) (bz 28 3) rfl rfl (one_of HT_.out (by kernel_rfl)) (by decide) (fun K hK => ?_)
            refine goes_ Try.func36 (by kernel_rfl) rfl #[.agg #[.int .i64 ((rd_T33 l0 x10_1).f0), .int .i64 ((rd_T33 l0 x10_1).f1), .int .i64 ((rd_T33 l0 x10_1).f2), .int .i64 ((rd_T33 l0 x10_1).f3)]] (by rfl) rfl rfl aE ?_
            with_reducible refine (spec_l10Body.calls ((rd_T33 l0 x10_1).f0) ((rd_T33 l0 x10_1).f1) ((rd_T33 l0 x10_1).f2) ((rd_T33 l0 x10_1).f3) true _ A6.out).mono ?_
            rintro e w22 ⟨rfl, hb⟩
            refine ⟨_, rfl, ?_⟩
            replace BK278 := bB (bV BK278) hb
            replace HB := bH (lV1 GE278) hb
            (try clear hb)
            (try clear hb2)
            (try clear hk)
            (try clear hi)
            refine hK.out _ _ ⟨cz BK278 0 _, cz BK278 1 _, cz BK278 2 _, cz BK278 3 _, ((HB.out.cell (World.block_lt_of_cell? w _ hw280_0)).trans hw280_0), ((HB.out.cell (World.block_lt_of_cell? w _ hw280_1)).trans hw280_1), ((HB.out.cell (World.block_lt_of_cell? w _ hw280_2)).trans hw280_2), ((HB.out.cell (World.block_lt_of_cell? w _ hw280_3)).trans hw280_3), ((HB.out.cell (World.block_lt_of_cell? w _ hw281_0)).trans hw281_0), ((HB.out.cell (World.block_lt_of_cell? w _ hw281_1)).trans hw281_1), ((HB.out.cell (World.block_lt_of_cell? w _ hw281_2)).trans hw281_2), ((HB.out.cell (World.block_lt_of_cell? w _ hw281_3)).trans hw281_3)⟩ (fun hHeld => ?_)
            clear hK K
            refine norm_ (a' := ?_) ?_ ?_
            rotate_left
            ·show Act.put _ (some 16) _ = _
             simp only [Act.put, List.setIfInBounds_toArray, List.set_cons_zero, List.set_cons_succ, i64_w, i32_w]
             rfl
            refine pureA 2 17 (bz 28 7) rfl rfl (any_of HT_.out (by kernel_rfl)) ?_
            refine pureA 3 18 (bz 28 15) rfl rfl (any_of HT_.out (by kernel_rfl)) ?_
            refine pureA 4 19 (bz 28 31) rfl rfl (any_of HT_.out (by kernel_rfl)) ?_
            refine pureA 5 20 (bz 28 63) rfl rfl (any_of HT_.out (by kernel_rfl)) ?_
            refine pureA 6 21 (bz 28 127) rfl rfl (any_of HT_.out (by kernel_rfl)) ?_
            refine pureA 7 22 (bz 28 255) rfl rfl (any_of HT_.out (by kernel_rfl)) ?_
            refine pureA 8 23 (bz 28 511) rfl rfl (any_of HT_.out (by kernel_rfl)) ?_
            refine pureA 9 24 (bz 28 1023) rfl rfl (any_of HT_.out (by kernel_rfl)) ?_
            refine pureA 10 25 (bz 28 2047) rfl rfl (any_of HT_.out (by kernel_rfl)) ?_
            refine pureA 11 26 (bz 28 4095) rfl rfl (any_of HT_.out (by kernel_rfl)) ?_
            refine pureA 13 28 (bz 28 12287) rfl rfl (any_of HT_.out (by kernel_rfl)) ?_
            refine pureA 14 29 (bz 28 28671) rfl rfl (any_of HT_.out (by kernel_rfl)) ?_
            refine pureA 15 30 (bz 28 61439) rfl rfl (any_of HT_.out (by kernel_rfl)) ?_
            refine pureA 16 31 (bz 28 126975) rfl rfl (any_of HT_.out (by kernel_rfl)) ?_
            refine pureA 17 32 (bz 28 258047) rfl rfl (any_of HT_.out (by kernel_rfl)) ?_
            refine pureA 20 35 (bz 28 1306623) rfl rfl (any_of HT_.out (by kernel_rfl)) ?_
            refine pureA 22 37 (bz 28 5500927) rfl rfl (any_of HT_.out (by kernel_rfl)) ?_
            refine takeA 12 27 (bz 28 5505023) rfl rfl (take_ofW HT_.out HW_.out (by kernel_rfl)) hHeld (by rintro w' ⟨s0, s1, s2, s3, s4, s5, s6, s7, s8, s9, s10, s11⟩; go_simp; with_reducible rfl) ?_
            refine takeA 18 33 (bz 28 5767167) rfl rfl (take_ofW HT_.out HW_.out (by kernel_rfl)) hHeld (by rintro w' ⟨s0, s1, s2, s3, s4, s5, s6, s7, s8, s9, s10, s11⟩; go_simp; with_reducible rfl) ?_
            refine pureA 19 34 (bz 28 6291455) rfl rfl (any_of HT_.out (by kernel_rfl)) ?_
            refine takeA 21 36 (bz 28 8388607) rfl rfl (take_ofW HT_.out HW_.out (by kernel_rfl)) hHeld (by rintro w' ⟨s0, s1, s2, s3, s4, s5, s6, s7, s8, s9, s10, s11⟩; go_simp; with_reducible rfl) ?_
            refine takeA 23 38 (bz 28 16777215) rfl rfl (take_ofW HT_.out HW_.out (by kernel_rfl)) hHeld (by rintro w' ⟨s0, s1, s2, s3, s4, s5, s6, s7, s8, s9, s10, s11⟩; go_simp; with_reducible rfl) ?_
            refine pureA 24 39 (bz 28 33554431) rfl rfl (any_of HT_.out (by kernel_rfl)) ?_
            refine pureA 25 40 (bz 28 67108863) rfl rfl (any_of HT_.out (by kernel_rfl)) ?_
            refine pureA 26 41 (bz 28 134217727) rfl rfl (any_of HT_.out (by kernel_rfl)) ?_
            refine pureA 27 42 (bz 28 268435455) rfl rfl (any_of HT_.out (by kernel_rfl)) ?_
            refine done_ (done_of HT_.out (by kernel_rfl)) ?_
            try go_wp2
            go_roundg k1
            case measure => have := HK1.out; omega
            case rel => exact ⟨(wrap64 (x10_1 + 1)), tE, H', ⟨by have := HK1.out; omega⟩, ⟨by repeat (first | (with_reducible first | exact HB.out | apply below_alloc | apply pw_below_drewN | apply below_drew1 | refine below_set ?_ GE278.out) | exact HB.out)⟩⟩
          ·rw [if_neg c11] at H
           exact absurd H (by simp)
         ·rw [if_neg c10] at H
          exact absurd H (by simp)
        ·rw [if_neg c8] at H
         have c8b0 : decide (0 < x10_1) = false := decide_eq_false c8
         clear c8
         have H' := Aside0.mk H
         clear H
         have p277 : 0 ≤ (x10_1 : Int) := of_decide_eq_true hE
         have q277 : x10_1 < (l0.length : Int) := of_decide_eq_true hE
         obtain ⟨ad277, e277, hx277_0, hx277_1, hx277_2, hx277_3⟩ := at_T33 HR0.out x10_1 p277 q277
         cases e277
         replace hx277_0 := (HB.out.cell (World.block_lt_of_cell? w _ hx277_0)).trans hx277_0
         replace hx277_1 := (HB.out.cell (World.block_lt_of_cell? w _ hx277_1)).trans hx277_1
         replace hx277_2 := (HB.out.cell (World.block_lt_of_cell? w _ hx277_2)).trans hx277_2
         replace hx277_3 := (HB.out.cell (World.block_lt_of_cell? w _ hx277_3)).trans hx277_3
         replace p277 := eq_true p277
         replace q277 := eq_true q277
         try go_wp2_with (first | ((with_reducible refine gate_dst (N := 4) rfl ?_); refine box_event rfl (N := 4) rfl (cs := #[.int .i64 0, .int .i64 0, .int .i64 0, .int .i64 0]) (t := 33) sE ?_; intro gb278 hg w23 hbox hb; have BK278 := Aside0.mk hbox; have GW278 := gS w hg (lU); have GE278 := gS w hg (lU); replace HB := bH (lU) hb; clear hb hbox hg; have hcz24_0 := cz BK278 0 (.int .i64 0); have hcz24_1 := cz BK278 1 (.int .i64 0); have hcz24_2 := cz BK278 2 (.int .i64 0); have hcz24_3 := cz BK278 3 (.int .i64 0); have hfz24_0 := fz BK278 0; have hfz24_1 := fz BK278 1; have hfz24_2 := fz BK278 2; have hfz24_3 := fz BK278 3))
         have n0_ : Aside0 (((((w23.setCell ⟨gb278, 0, none⟩ (.int .i64 ((rd_T33 l0 x10_1).f0))).setCell ⟨gb278, 1, none⟩ (.int .i64 ((rd_T33 l0 x10_1).f1))).setCell ⟨gb278, 2, none⟩ (.int .i64 ((rd_T33 l0 x10_1).f2))).setCell ⟨gb278, 3, none⟩ (.int .i64 ((rd_T33 l0 x10_1).f3))).heap[gb278]? = some (.cells #[.int .i64 ((rd_T33 l0 x10_1).f0), .int .i64 ((rd_T33 l0 x10_1).f1), .int .i64 ((rd_T33 l0 x10_1).f2), .int .i64 ((rd_T33 l0 x10_1).f3)] 33 (0, 0))) := ⟨by refine bU ?_; refine blk_put (cs := #[.int .i64 ((rd_T33 l0 x10_1).f0), .int .i64 ((rd_T33 l0 x10_1).f1), .int .i64 ((rd_T33 l0 x10_1).f2), .int .i64 0]) ?_ 3 _ rfl; refine bU ?_; refine blk_put (cs := #[.int .i64 ((rd_T33 l0 x10_1).f0), .int .i64 ((rd_T33 l0 x10_1).f1), .int .i64 0, .int .i64 0]) ?_ 2 _ rfl; refine bU ?_; refine blk_put (cs := #[.int .i64 ((rd_T33 l0 x10_1).f0), .int .i64 0, .int .i64 0, .int .i64 0]) ?_ 1 _ rfl; refine bU ?_; refine blk_put (cs := #[.int .i64 0, .int .i64 0, .int .i64 0, .int .i64 0]) ?_ 0 _ rfl; refine bU ?_; exact BK278.out⟩
         have n1_ : Aside0 (Below w.heap.size w ((((w23.setCell ⟨gb278, 0, none⟩ (.int .i64 ((rd_T33 l0 x10_1).f0))).setCell ⟨gb278, 1, none⟩ (.int .i64 ((rd_T33 l0 x10_1).f1))).setCell ⟨gb278, 2, none⟩ (.int .i64 ((rd_T33 l0 x10_1).f2))).setCell ⟨gb278, 3, none⟩ (.int .i64 ((rd_T33 l0 x10_1).f3)))) := ⟨by repeat (first | (with_reducible first | exact HB.out | apply below_alloc | apply pw_below_drewN | apply below_drew1 | refine below_set ?_ GE278.out) | exact HB.out)⟩
         (try clear BK278)
         (try clear HB)
         generalize ((((w23.setCell ⟨gb278, 0, none⟩ (.int .i64 ((rd_T33 l0 x10_1).f0))).setCell ⟨gb278, 1, none⟩ (.int .i64 ((rd_T33 l0 x10_1).f1))).setCell ⟨gb278, 2, none⟩ (.int .i64 ((rd_T33 l0 x10_1).f2))).setCell ⟨gb278, 3, none⟩ (.int .i64 ((rd_T33 l0 x10_1).f3))) = w25 at n0_ n1_ ⊢
         have BK278 := n0_
         have HB := n1_
         clear n0_ n1_
         replace BK278 := Aside0.mk (blk_drew BK278.out)
         replace HB := Aside0.mk (below_drew1 HB.out)
         refine start_ (n := 28) (S := fun w' => w'.cell? ⟨gb278, 0, none⟩ = some (.int .i64 ((rd_T33 l0 x10_1).f0)) ∧ w'.cell? ⟨gb278, 1, none⟩ = some (.int .i64 ((rd_T33 l0 x10_1).f1)) ∧ w'.cell? ⟨gb278, 2, none⟩ = some (.int .i64 ((rd_T33 l0 x10_1).f2)) ∧ w'.cell? ⟨gb278, 3, none⟩ = some (.int .i64 ((rd_T33 l0 x10_1).f3))) (ds := []) #[false, false, false, false, false, false, false, false, false, false, false, false, false, false, false, false, false, false, false, false, false, false, false, false, false, false, false, false] (by kernel_rfl) rfl rfl ⟨cz BK278 0 _, cz BK278 1 _, cz BK278 2 _, cz BK278 3 _⟩ (fun hHeld => ?_); refine with_tabW spec_GoodLine.tab6 spec_GoodLine.bits6 (fun HT_ HW_ => ?_)
         generalize w25.drew = w26 at BK278 HB hHeld ⊢
         refine takeA 0 15 (bz 28 1) rfl rfl (take_ofW HT_.out HW_.out (by kernel_rfl)) hHeld (by rintro w' ⟨s0, s1, s2, s3⟩; go_simp; with_reducible rfl) ?_
         refine one_ (i := 1) (N := some 16) (bz 28 3) rfl rfl (one_of HT_.out (by kernel_rfl)) (by decide) (fun K hK => ?_)
         refine goes_ Try.func36 (by kernel_rfl) rfl #[.agg #[.int .i64 ((rd_T33 l0 x10_1).f0), .int .i64 ((rd_T33 l0 x10_1).f1), .int .i64 ((rd_T33 l0 x10_1).f2), .int .i64 ((rd_T33 l0 x10_1).f3)]] (by rfl) rfl rfl aE ?_
         with_reducible refine (spec_l10Body.calls ((rd_T33 l0 x10_1).f0) ((rd_T33 l0 x10_1).f1) ((rd_T33 l0 x10_1).f2) ((rd_T33 l0 x10_1).f3) true _ A6.out).mono ?_
         rintro e w27 ⟨rfl, hb⟩
         refine ⟨_, rfl, ?_⟩
         replace BK278 := bB (bV BK278) hb
         replace HB := bH (lV1 GE278) hb
         (try clear hb)
         (try clear hb2)
         (try clear hk)
         (try clear hi)
         refine hK.out _ _ ⟨cz BK278 0 _, cz BK278 1 _, cz BK278 2 _, cz BK278 3 _⟩ (fun hHeld => ?_)
         clear hK K
         refine norm_ (a' := ?_) ?_ ?_
         rotate_left
         ·show Act.put _ (some 16) _ = _
          simp only [Act.put, List.setIfInBounds_toArray, List.set_cons_zero, List.set_cons_succ, i64_w, i32_w]
          rfl
         refine pureA 2 17 (bz 28 7) rfl rfl (any_of HT_.out (by kernel_rfl)) ?_
         refine pureA 3 18 (bz 28 15) rfl rfl (any_of HT_.out (by kernel_rfl)) ?_
         refine pureA 4 19 (bz 28 31) rfl rfl (any_of HT_.out (by kernel_rfl)) ?_
         refine pureA 5 20 (bz 28 63) rfl rfl (any_of HT_.out (by kernel_rfl)) ?_
         refine pureA 6 21 (bz 28 127) rfl rfl (any_of HT_.out (by kernel_rfl)) ?_
         refine pureU 7 22 (bz 28 255) rfl rfl (any_of HT_.out (by kernel_rfl)) ?_
         refine pureU 8 23 (bz 28 511) rfl rfl (any_of HT_.out (by kernel_rfl)) ?_
         refine pureU 9 24 (bz 28 1023) rfl rfl (any_of HT_.out (by kernel_rfl)) ?_
         refine pureU 10 25 (bz 28 2047) rfl rfl (any_of HT_.out (by kernel_rfl)) ?_
         refine pureU 11 26 (bz 28 4095) rfl rfl (any_of HT_.out (by kernel_rfl)) ?_
         refine pureU 12 27 (bz 28 8191) rfl rfl (any_of HT_.out (by kernel_rfl)) ?_
         refine pureU 13 28 (bz 28 16383) rfl rfl (any_of HT_.out (by kernel_rfl)) ?_
         refine pureU 14 29 (bz 28 32767) rfl rfl (any_of HT_.out (by kernel_rfl)) ?_
         refine pureU 15 30 (bz 28 65535) rfl rfl (any_of HT_.out (by kernel_rfl)) ?_
         refine pureU 16 31 (bz 28 131071) rfl rfl (any_of HT_.out (by kernel_rfl)) ?_
         refine pureU 17 32 (bz 28 262143) rfl rfl (any_of HT_.out (by kernel_rfl)) ?_
         refine pureU 18 33 (bz 28 524287) rfl rfl (any_of HT_.out (by kernel_rfl)) ?_
         refine pureU 19 34 (bz 28 1048575) rfl rfl (any_of HT_.out (by kernel_rfl)) ?_
         refine pureU 20 35 (bz 28 2097151) rfl rfl (any_of HT_.out (by kernel_rfl)) ?_
         refine pureU 21 36 (bz 28 4194303) rfl rfl (any_of HT_.out (by kernel_rfl)) ?_
         refine pureU 22 37 (bz 28 8388607) rfl rfl (any_of HT_.out (by kernel_rfl)) ?_
         refine pureU 23 38 (bz 28 16777215) rfl rfl (any_of HT_.out (by kernel_rfl)) ?_
         refine pureU 24 39 (bz 28 33554431) rfl rfl (any_of HT_.out (by kernel_rfl)) ?_
         refine pureU 25 40 (bz 28 67108863) rfl rfl (any_of HT_.out (by kernel_rfl)) ?_
         refine pureA 26 41 (bz 28 134217727) rfl rfl (any_of HT_.out (by kernel_rfl)) ?_
         refine pureA 27 42 (bz 28 268435455) rfl rfl (any_of HT_.out (by kernel_rfl)) ?_
         refine done_ (done_of HT_.out (by kernel_rfl)) ?_
         try go_wp2
         go_roundg k1
         case measure => have := HK1.out; omega
         case rel => exact ⟨(wrap64 (x10_1 + 1)), tE, H', ⟨by have := HK1.out; omega⟩, ⟨by repeat (first | (with_reducible first | exact HB.out | apply below_alloc | apply pw_below_drewN | apply below_drew1 | refine below_set ?_ GE278.out) | exact HB.out)⟩⟩
       ·replace c7 := Bool.eq_false_iff.mpr c7
        subst c7
        have H1 : (some false) = some r := by rw [if_neg (show ¬ (false = true) by decide)] at H; exact H
        clear H
        have H := H1
        clear H1
        obtain rfl := Option.some.inj H
        have p277 : 0 ≤ (x10_1 : Int) := of_decide_eq_true hE
        have q277 : x10_1 < (l0.length : Int) := of_decide_eq_true hE
        obtain ⟨ad277, e277, hx277_0, hx277_1, hx277_2, hx277_3⟩ := at_T33 HR0.out x10_1 p277 q277
        cases e277
        replace hx277_0 := (HB.out.cell (World.block_lt_of_cell? w _ hx277_0)).trans hx277_0
        replace hx277_1 := (HB.out.cell (World.block_lt_of_cell? w _ hx277_1)).trans hx277_1
        replace hx277_2 := (HB.out.cell (World.block_lt_of_cell? w _ hx277_2)).trans hx277_2
        replace hx277_3 := (HB.out.cell (World.block_lt_of_cell? w _ hx277_3)).trans hx277_3
        replace p277 := eq_true p277
        replace q277 := eq_true q277
        try go_wp2_with (first | ((with_reducible refine gate_dst (N := 4) rfl ?_); refine box_event rfl (N := 4) rfl (cs := #[.int .i64 0, .int .i64 0, .int .i64 0, .int .i64 0]) (t := 33) sE ?_; intro gb278 hg w28 hbox hb; have BK278 := Aside0.mk hbox; have GW278 := gS w hg (lU); have GE278 := gS w hg (lU); replace HB := bH (lU) hb; clear hb hbox hg; have hcz29_0 := cz BK278 0 (.int .i64 0); have hcz29_1 := cz BK278 1 (.int .i64 0); have hcz29_2 := cz BK278 2 (.int .i64 0); have hcz29_3 := cz BK278 3 (.int .i64 0); have hfz29_0 := fz BK278 0; have hfz29_1 := fz BK278 1; have hfz29_2 := fz BK278 2; have hfz29_3 := fz BK278 3))
        have n0_ : Aside0 (((((w28.setCell ⟨gb278, 0, none⟩ (.int .i64 ((rd_T33 l0 x10_1).f0))).setCell ⟨gb278, 1, none⟩ (.int .i64 ((rd_T33 l0 x10_1).f1))).setCell ⟨gb278, 2, none⟩ (.int .i64 ((rd_T33 l0 x10_1).f2))).setCell ⟨gb278, 3, none⟩ (.int .i64 ((rd_T33 l0 x10_1).f3))).heap[gb278]? = some (.cells #[.int .i64 ((rd_T33 l0 x10_1).f0), .int .i64 ((rd_T33 l0 x10_1).f1), .int .i64 ((rd_T33 l0 x10_1).f2), .int .i64 ((rd_T33 l0 x10_1).f3)] 33 (0, 0))) := ⟨by refine bU ?_; refine blk_put (cs := #[.int .i64 ((rd_T33 l0 x10_1).f0), .int .i64 ((rd_T33 l0 x10_1).f1), .int .i64 ((rd_T33 l0 x10_1).f2), .int .i64 0]) ?_ 3 _ rfl; refine bU ?_; refine blk_put (cs := #[.int .i64 ((rd_T33 l0 x10_1).f0), .int .i64 ((rd_T33 l0 x10_1).f1), .int .i64 0, .int .i64 0]) ?_ 2 _ rfl; refine bU ?_; refine blk_put (cs := #[.int .i64 ((rd_T33 l0 x10_1).f0), .int .i64 0, .int .i64 0, .int .i64 0]) ?_ 1 _ rfl; refine bU ?_; refine blk_put (cs := #[.int .i64 0, .int .i64 0, .int .i64 0, .int .i64 0]) ?_ 0 _ rfl; refine bU ?_; exact BK278.out⟩
        have n1_ : Aside0 (Below w.heap.size w ((((w28.setCell ⟨gb278, 0, none⟩ (.int .i64 ((rd_T33 l0 x10_1).f0))).setCell ⟨gb278, 1, none⟩ (.int .i64 ((rd_T33 l0 x10_1).f1))).setCell ⟨gb278, 2, none⟩ (.int .i64 ((rd_T33 l0 x10_1).f2))).setCell ⟨gb278, 3, none⟩ (.int .i64 ((rd_T33 l0 x10_1).f3)))) := ⟨by repeat (first | (with_reducible first | exact HB.out | apply below_alloc | apply pw_below_drewN | apply below_drew1 | refine below_set ?_ GE278.out) | exact HB.out)⟩
        (try clear BK278)
        (try clear HB)
        generalize ((((w28.setCell ⟨gb278, 0, none⟩ (.int .i64 ((rd_T33 l0 x10_1).f0))).setCell ⟨gb278, 1, none⟩ (.int .i64 ((rd_T33 l0 x10_1).f1))).setCell ⟨gb278, 2, none⟩ (.int .i64 ((rd_T33 l0 x10_1).f2))).setCell ⟨gb278, 3, none⟩ (.int .i64 ((rd_T33 l0 x10_1).f3))) = w30 at n0_ n1_ ⊢
        have BK278 := n0_
        have HB := n1_
        clear n0_ n1_
        replace BK278 := Aside0.mk (blk_drew BK278.out)
        replace HB := Aside0.mk (below_drew1 HB.out)
        refine start_ (n := 28) (S := fun w' => w'.cell? ⟨gb278, 0, none⟩ = some (.int .i64 ((rd_T33 l0 x10_1).f0)) ∧ w'.cell? ⟨gb278, 1, none⟩ = some (.int .i64 ((rd_T33 l0 x10_1).f1)) ∧ w'.cell? ⟨gb278, 2, none⟩ = some (.int .i64 ((rd_T33 l0 x10_1).f2)) ∧ w'.cell? ⟨gb278, 3, none⟩ = some (.int .i64 ((rd_T33 l0 x10_1).f3))) (ds := []) #[false, false, false, false, false, false, false, false, false, false, false, false, false, false, false, false, false, false, false, false, false, false, false, false, false, false, false, false] (by kernel_rfl) rfl rfl ⟨cz BK278 0 _, cz BK278 1 _, cz BK278 2 _, cz BK278 3 _⟩ (fun hHeld => ?_); refine with_tabW spec_GoodLine.tab6 spec_GoodLine.bits6 (fun HT_ HW_ => ?_)
        generalize w30.drew = w31 at BK278 HB hHeld ⊢
        refine takeA 0 15 (bz 28 1) rfl rfl (take_ofW HT_.out HW_.out (by kernel_rfl)) hHeld (by rintro w' ⟨s0, s1, s2, s3⟩; go_simp; with_reducible rfl) ?_
        refine one_ (i := 1) (N := some 16) (bz 28 3) rfl rfl (one_of HT_.out (by kernel_rfl)) (by decide) (fun K hK => ?_)
        refine goes_ Try.func36 (by kernel_rfl) rfl #[.agg #[.int .i64 ((rd_T33 l0 x10_1).f0), .int .i64 ((rd_T33 l0 x10_1).f1), .int .i64 ((rd_T33 l0 x10_1).f2), .int .i64 ((rd_T33 l0 x10_1).f3)]] (by rfl) rfl rfl aE ?_
        with_reducible refine (spec_l10Body.calls ((rd_T33 l0 x10_1).f0) ((rd_T33 l0 x10_1).f1) ((rd_T33 l0 x10_1).f2) ((rd_T33 l0 x10_1).f3) false _ A6.out).mono ?_
        rintro e w32 ⟨rfl, hb⟩
        refine ⟨_, rfl, ?_⟩
        replace BK278 := bB (bV BK278) hb
        replace HB := bH (lV1 GE278) hb
        (try clear hb)
        (try clear hb2)
        (try clear hk)
        (try clear hi)
        refine hK.out _ _ ⟨cz BK278 0 _, cz BK278 1 _, cz BK278 2 _, cz BK278 3 _⟩ (fun hHeld => ?_)
        clear hK K
        refine norm_ (a' := ?_) ?_ ?_
        rotate_left
        ·show Act.put _ (some 16) _ = _
         simp only [Act.put, List.setIfInBounds_toArray, List.set_cons_zero, List.set_cons_succ, i64_w, i32_w]
         rfl
        refine pureA 2 17 (bz 28 7) rfl rfl (any_of HT_.out (by kernel_rfl)) ?_
        refine pureA 3 18 (bz 28 15) rfl rfl (any_of HT_.out (by kernel_rfl)) ?_
        refine pureU 4 19 (bz 28 31) rfl rfl (any_of HT_.out (by kernel_rfl)) ?_
        refine pureU 5 20 (bz 28 63) rfl rfl (any_of HT_.out (by kernel_rfl)) ?_
        refine pureU 6 21 (bz 28 127) rfl rfl (any_of HT_.out (by kernel_rfl)) ?_
        refine pureU 7 22 (bz 28 255) rfl rfl (any_of HT_.out (by kernel_rfl)) ?_
        refine pureU 8 23 (bz 28 511) rfl rfl (any_of HT_.out (by kernel_rfl)) ?_
        refine pureU 9 24 (bz 28 1023) rfl rfl (any_of HT_.out (by kernel_rfl)) ?_
        refine pureU 10 25 (bz 28 2047) rfl rfl (any_of HT_.out (by kernel_rfl)) ?_
        refine pureU 11 26 (bz 28 4095) rfl rfl (any_of HT_.out (by kernel_rfl)) ?_
        refine pureU 12 27 (bz 28 8191) rfl rfl (any_of HT_.out (by kernel_rfl)) ?_
        refine pureU 13 28 (bz 28 16383) rfl rfl (any_of HT_.out (by kernel_rfl)) ?_
        refine pureU 14 29 (bz 28 32767) rfl rfl (any_of HT_.out (by kernel_rfl)) ?_
        refine pureU 15 30 (bz 28 65535) rfl rfl (any_of HT_.out (by kernel_rfl)) ?_
        refine pureU 16 31 (bz 28 131071) rfl rfl (any_of HT_.out (by kernel_rfl)) ?_
        refine pureU 17 32 (bz 28 262143) rfl rfl (any_of HT_.out (by kernel_rfl)) ?_
        refine pureU 18 33 (bz 28 524287) rfl rfl (any_of HT_.out (by kernel_rfl)) ?_
        refine pureU 19 34 (bz 28 1048575) rfl rfl (any_of HT_.out (by kernel_rfl)) ?_
        refine pureU 20 35 (bz 28 2097151) rfl rfl (any_of HT_.out (by kernel_rfl)) ?_
        refine pureU 21 36 (bz 28 4194303) rfl rfl (any_of HT_.out (by kernel_rfl)) ?_
        refine pureU 22 37 (bz 28 8388607) rfl rfl (any_of HT_.out (by kernel_rfl)) ?_
        refine pureU 23 38 (bz 28 16777215) rfl rfl (any_of HT_.out (by kernel_rfl)) ?_
        refine pureU 24 39 (bz 28 33554431) rfl rfl (any_of HT_.out (by kernel_rfl)) ?_
        refine pureU 25 40 (bz 28 67108863) rfl rfl (any_of HT_.out (by kernel_rfl)) ?_
        refine pureU 26 41 (bz 28 134217727) rfl rfl (any_of HT_.out (by kernel_rfl)) ?_
        refine pureA 27 42 (bz 28 268435455) rfl rfl (any_of HT_.out (by kernel_rfl)) ?_
        refine done_ (done_of HT_.out (by kernel_rfl)) ?_
        try go_wp2
        go_ret
        exact ⟨eE, lV1 GE278⟩
      ·rw [if_neg c5] at H
       exact absurd H (by simp)
     ·rw [if_neg c4] at H
      exact absurd H (by simp)
    ·rw [if_neg c3] at H
     have c3b0 : decide (x10_1 < (l0.length : Int)) = false := decide_eq_false c3
     clear c3
     obtain rfl := Option.some.inj H
     go_wp2
     go_ret
     exact ⟨eE, lU⟩
end Go.Proofs.Ytnacjhgpanedoab.PFnPushed
namespace Go.Proofs.Ytnacjhgpanedoab.PFnPushed
open Go.RowKit Go.Proofs.YtnacjhgpanedoabW.PrintWords Go.Proofs.YtnacjhgpanedoabW.PrintLast Go.Proofs.YtnacjhgpanedoabW.PrintMore
attribute [local go_sem] max2_int min2_int max_two min_two max_three min_three max_four min_four   -- for this text's walks alone
set_option linter.unusedVariables false
set_option linter.unusedSimpArgs false
def spec_l10Bounce.f (a0 : Int) : Option (Bool) := (spec_l1In.f a0 0 100).bind fun t282 => (some t282)
set_option maxHeartbeats 8000000 in
set_option maxRecDepth 100000 in
theorem spec_l10Bounce.calls (a0 : Int) (r : Bool) (w : World) (h : spec_l10Bounce.f a0 = some r) :
  Calls Try.prog 33 #[.int .i64 a0] w fun e w' => e = .returned (.bool r) ∧ Drawn0 w w' := by
 have H : ((spec_l1In.f a0 0 100).bind fun t282 => (some t282)) = some r := h
 clear h
 replace H := Option.bind_eq_some_iff.mp H
 obtain ⟨t282, A20, H⟩ := H
 replace H : (some t282) = some r := H
 have A2 := Aside0.mk A20
 clear A20
 obtain rfl := Option.some.inj H
 go_enter Try.func33, Try.ntmps33
 go_wp2_with (first | ((with_reducible refine gate_callee (f := 34) rfl ?_); refine goesL_ (some 4) rfl rfl Try.func34 (by kernel_rfl) rfl #[.int .i64 a0, .int .i64 0, .int .i64 100] rfl aE ?_; (with_reducible refine (spec_l1In.calls a0 0 100 t282 _ A2.out).mono ?_); rintro e w' ⟨rfl, ⟨nd, rfl⟩⟩; refine ⟨_, rfl, ?_⟩))
 go_ret
 exact ⟨by first | rfl | (simp; done) | (simp [*]; done) | exact not_isEmpty _ | exact (not_isEmpty _).symm | exact is_empty _ | exact (is_empty _).symm, by repeat (first | exact Drawn0.refl _ | apply Drawn0.step)⟩
def spec_l10Near.j0 : Nat → Bool → Int → Int → Int → Int → Int → Int → Int → Int → Option (Bool)
 | 0, _, _, _, _, _, _, _, _, _ => none
 | k + 1, x5, x284000, x284001, x284002, x284003, x285000, x285001, x285002, x285003 => if x5 = true then (some false) else (if x284002 = 0 then (some (decide (x285001 < 0))) else (if x285002 = 0 then (some (decide (x284001 > 0))) else (some (decide ((wrap64 (x284001 * x285002)) > (wrap64 (x285001 * x284002)))))))
def spec_l10Near.f (k : Nat) (a0_0 : Int) (a0_1 : Int) (a0_2 : Int) (a0_3 : Int) (a1_0 : Int) (a1_1 : Int) (a1_2 : Int) (a1_3 : Int) : Option (Bool) := if a0_2 = 0 then (spec_l10Near.j0 k (a1_2 == 0) a0_0 a0_1 a0_2 a0_3 a1_0 a1_1 a1_2 a1_3) else (spec_l10Near.j0 k false a0_0 a0_1 a0_2 a0_3 a1_0 a1_1 a1_2 a1_3)
theorem spec_l10Near.mono_l : ∀ k, (∀ y0 y1 y2 y3 y4 y5 y6 y7 y8, LeO (spec_l10Near.j0 k y0 y1 y2 y3 y4 y5 y6 y7 y8) (spec_l10Near.j0 (k + 1) y0 y1 y2 y3 y4 y5 y6 y7 y8))
 | 0 => fun _ _ _ _ _ _ _ _ _ r h => by simp [spec_l10Near.j0] at h
 | k + 1 => by
  have ih0 := spec_l10Near.mono_l k
  ·intro y0 y1 y2 y3 y4 y5 y6 y7 y8
   unfold spec_l10Near.j0
   repeat' first
   | (with_reducible exact ih0 _ _ _ _ _ _ _ _ _)
   | (with_reducible first | exact LeO.refl _ | exact LeO.none _ | refine LeO.ite ?_ ?_ | refine LeO.bind ?_ (fun _ => ?_))
   | exact ih0 _ _ _ _ _ _ _ _ _ | exact LeO.none _ | refine LeO.ite ?_ ?_ | refine LeO.bind ?_ (fun _ => ?_)
theorem spec_l10Near.mono : ∀ a0 a1 a2 a3 a4 a5 a6 a7 k, LeO (spec_l10Near.f k a0 a1 a2 a3 a4 a5 a6 a7) (spec_l10Near.f (k + 1) a0 a1 a2 a3 a4 a5 a6 a7) := by
 intro a0 a1 a2 a3 a4 a5 a6 a7 k
 have ih0 := spec_l10Near.mono_l k
 unfold spec_l10Near.f
 repeat' first
   | (with_reducible exact ih0 _ _ _ _ _ _ _ _ _)
   | (with_reducible first | exact LeO.refl _ | exact LeO.none _ | refine LeO.ite ?_ ?_ | refine LeO.bind ?_ (fun _ => ?_))
   | exact ih0 _ _ _ _ _ _ _ _ _ | exact LeO.none _ | refine LeO.ite ?_ ?_ | refine LeO.bind ?_ (fun _ => ?_)
set_option maxHeartbeats 8000000 in
set_option maxRecDepth 100000 in
theorem spec_l10Near.calls (k : Nat) (a0_0 : Int) (a0_1 : Int) (a0_2 : Int) (a0_3 : Int) (a1_0 : Int) (a1_1 : Int) (a1_2 : Int) (a1_3 : Int) (r : Bool) (w : World) (h : spec_l10Near.f k a0_0 a0_1 a0_2 a0_3 a1_0 a1_1 a1_2 a1_3 = some r) :
  Calls Try.prog 38 #[.agg #[.int .i64 a0_0, .int .i64 a0_1, .int .i64 a0_2, .int .i64 a0_3], .agg #[.int .i64 a1_0, .int .i64 a1_1, .int .i64 a1_2, .int .i64 a1_3]] w fun e w' => e = .returned (.bool r) ∧ Below w.heap.size w w' := by
 have hu33 := Try.underlying33
 have HB := Aside0.mk (Below.refl w.heap.size w)
 have H : (if a0_2 = 0 then (spec_l10Near.j0 k (a1_2 == 0) a0_0 a0_1 a0_2 a0_3 a1_0 a1_1 a1_2 a1_3) else (spec_l10Near.j0 k false a0_0 a0_1 a0_2 a0_3 a1_0 a1_1 a1_2 a1_3)) = some r := h
 clear h
 have HC3 := Aside0.mk H
 clear H
 go_enter Try.func38, Try.ntmps38
 go_upto_region 1 with (first | ((with_reducible refine gate_dst (N := 2) rfl ?_); refine box_event rfl (N := 2) rfl (cs := #[.int .i64 a0_0, .int .i64 a0_1, .int .i64 a0_2, .int .i64 a0_3]) (t := 33) sE ?_; intro gb283 hg w4 hbox hb; have BK283 := Aside0.mk hbox; have GW283 := gS w hg (lU); have GE283 := gS w hg (lU); replace HB := bH (lU) hb; clear hb hbox hg) | ((with_reducible refine gate_dst (N := 3) rfl ?_); refine box_event rfl (N := 3) rfl (cs := #[.int .i64 a1_0, .int .i64 a1_1, .int .i64 a1_2, .int .i64 a1_3]) (t := 33) sE ?_; intro gb284 hg w5 hbox hb; have BK284 := Aside0.mk hbox; have GW284 := gS w hg (lV1 GE283); have GE284 := gS w hg (lV1 GE283); replace HB := bH (lV1 GE283) hb; have NB283_284 := nL hg (bV BK283); have NB284_283 := nG hg (bV BK283); replace BK283 := bB (bV BK283) hb; clear hb hbox hg))
 (try simp only [Act.put, List.setIfInBounds_toArray, List.set_cons_zero, List.set_cons_succ])
 go_cut [5] (fun v5 wc => ∃ (kq : Nat) (x5_2 : Bool), v5 = .bool x5_2 ∧ Aside0 (spec_l10Near.j0 kq x5_2 a0_0 a0_1 a0_2 a0_3 a1_0 a1_1 a1_2 a1_3 = some r) ∧ Aside0 (kq ≤ k) ∧ Aside0 (wc.heap[gb283]? = some (.cells #[.int .i64 a0_0, .int .i64 a0_1, .int .i64 a0_2, .int .i64 a0_3] 33 (0, 0))) ∧ Aside0 (wc.heap[gb284]? = some (.cells #[.int .i64 a1_0, .int .i64 a1_1, .int .i64 a1_2, .int .i64 a1_3] 33 (0, 0))) ∧ Aside0 (Below w.heap.size w wc))
 case first =>
  have H := HC3.out
  clear HC3
  by_cases c6 : a0_2 = 0
  ·rw [if_pos c6] at H
   have c6b0 : (a0_2 == 0) = true := beq_iff_eq.mpr c6
   have c6b1 : (a0_2 != 0) = false := bne_eq_false_iff_eq.mpr c6
   clear c6
   (first | rw [c6b0] | (simp only [i64_w, i32_w]; rw [c6b0]) | (rw [c6b2]; simp only [Bool.not_false, Bool.not_true]) | skip)
   have H' := Aside0.mk H
   clear H
   have hnb7 := NB283_284.out
   have hnc7 := NB284_283.out
   have hcz8_0 := cz BK283 0 (.int .i64 a0_0)
   have hcz8_1 := cz BK283 1 (.int .i64 a0_1)
   have hcz8_2 := cz BK283 2 (.int .i64 a0_2)
   have hcz8_3 := cz BK283 3 (.int .i64 a0_3)
   have hfz8_0 := fz BK283 0
   have hfz8_1 := fz BK283 1
   have hfz8_2 := fz BK283 2
   have hfz8_3 := fz BK283 3
   have hcz9_0 := cz BK284 0 (.int .i64 a1_0)
   have hcz9_1 := cz BK284 1 (.int .i64 a1_1)
   have hcz9_2 := cz BK284 2 (.int .i64 a1_2)
   have hcz9_3 := cz BK284 3 (.int .i64 a1_3)
   have hfz9_0 := fz BK284 0
   have hfz9_1 := fz BK284 1
   have hfz9_2 := fz BK284 2
   have hfz9_3 := fz BK284 3
   go_wp2
   go_meet
   case rel => exact ⟨_, ((a1_2 == 0)), tE, H', ⟨by first | omega | exact Nat.le_refl _⟩, ⟨by refine bU ?_; exact BK283.out⟩, ⟨by refine bU ?_; exact BK284.out⟩, ⟨by repeat (first | (with_reducible first | exact HB.out | apply below_alloc | apply pw_below_drewN | apply below_drew1 | refine below_set ?_ GE283.out | refine below_set ?_ GE284.out) | exact HB.out)⟩⟩
  ·rw [if_neg c6] at H
   have c6b0 : (a0_2 == 0) = false := beq_eq_false_iff_ne.mpr c6
   have c6b1 : (a0_2 != 0) = true := bne_iff_ne.mpr c6
   (first | rw [c6b0] | (simp only [i64_w, i32_w]; rw [c6b0]) | (rw [c6b2]; simp only [Bool.not_false, Bool.not_true]) | skip)
   have H' := Aside0.mk H
   clear H
   have hnb10 := NB283_284.out
   have hnc10 := NB284_283.out
   have hcz11_0 := cz BK283 0 (.int .i64 a0_0)
   have hcz11_1 := cz BK283 1 (.int .i64 a0_1)
   have hcz11_2 := cz BK283 2 (.int .i64 a0_2)
   have hcz11_3 := cz BK283 3 (.int .i64 a0_3)
   have hfz11_0 := fz BK283 0
   have hfz11_1 := fz BK283 1
   have hfz11_2 := fz BK283 2
   have hfz11_3 := fz BK283 3
   go_wp2
   go_meet
   case rel => exact ⟨_, (false), tE, H', ⟨by first | omega | exact Nat.le_refl _⟩, ⟨by refine bU ?_; exact BK283.out⟩, ⟨by refine bU ?_; exact BK284.out⟩, ⟨by repeat (first | (with_reducible first | exact HB.out | apply below_alloc | apply pw_below_drewN | apply below_drew1 | refine below_set ?_ GE283.out | refine below_set ?_ GE284.out) | exact HB.out)⟩⟩
 case rest =>
  clear HC3
  obtain ⟨kq, x5_2, rfl, HA, HJ2, BK283, BK284, HB⟩ := hcut
  cases kq with
  | zero => exact absurd HA.out (by simp [spec_l10Near.j0])
  | succ kj2 =>
   have H := HA.out
   clear HA
   simp only [spec_l10Near.j0] at H
   by_cases c12 : x5_2 = true
   ·subst c12
    have H1 : (some false) = some r := by rw [if_pos rfl] at H; exact H
    clear H
    have H := H1
    clear H1
    obtain rfl := Option.some.inj H
    go_wp2
    go_ret
    exact ⟨eE, lV2 GE283 GE284⟩
   ·replace c12 := Bool.eq_false_iff.mpr c12
    subst c12
    have H1 : (if a0_2 = 0 then (some (decide (a1_1 < 0))) else (if a1_2 = 0 then (some (decide (a0_1 > 0))) else (some (decide ((wrap64 (a0_1 * a1_2)) > (wrap64 (a1_1 * a0_2))))))) = some r := by rw [if_neg (show ¬ (false = true) by decide)] at H; exact H
    clear H
    have H := H1
    clear H1
    by_cases c13 : a0_2 = 0
    ·rw [if_pos c13] at H
     have c13b0 : (a0_2 == 0) = true := beq_iff_eq.mpr c13
     have c13b1 : (a0_2 != 0) = false := bne_eq_false_iff_eq.mpr c13
     clear c13
     obtain rfl := Option.some.inj H
     have hnb14 := NB283_284.out
     have hnc14 := NB284_283.out
     have hcz15_0 := cz BK283 0 (.int .i64 a0_0)
     have hcz15_1 := cz BK283 1 (.int .i64 a0_1)
     have hcz15_2 := cz BK283 2 (.int .i64 a0_2)
     have hcz15_3 := cz BK283 3 (.int .i64 a0_3)
     have hfz15_0 := fz BK283 0
     have hfz15_1 := fz BK283 1
     have hfz15_2 := fz BK283 2
     have hfz15_3 := fz BK283 3
     have hcz16_0 := cz BK284 0 (.int .i64 a1_0)
     have hcz16_1 := cz BK284 1 (.int .i64 a1_1)
     have hcz16_2 := cz BK284 2 (.int .i64 a1_2)
     have hcz16_3 := cz BK284 3 (.int .i64 a1_3)
     have hfz16_0 := fz BK284 0
     have hfz16_1 := fz BK284 1
     have hfz16_2 := fz BK284 2
     have hfz16_3 := fz BK284 3
     go_wp2
     go_ret
     exact ⟨eE, lV2 GE283 GE284⟩
    ·rw [if_neg c13] at H
     have c13b0 : (a0_2 == 0) = false := beq_eq_false_iff_ne.mpr c13
     have c13b1 : (a0_2 != 0) = true := bne_iff_ne.mpr c13
     by_cases c17 : a1_2 = 0
     ·rw [if_pos c17] at H
      have c17b0 : (a1_2 == 0) = true := beq_iff_eq.mpr c17
      have c17b1 : (a1_2 != 0) = false := bne_eq_false_iff_eq.mpr c17
      clear c17
      obtain rfl := Option.some.inj H
      have hnb18 := NB283_284.out
      have hnc18 := NB284_283.out
      have hcz19_0 := cz BK283 0 (.int .i64 a0_0)
      have hcz19_1 := cz BK283 1 (.int .i64 a0_1)
      have hcz19_2 := cz BK283 2 (.int .i64 a0_2)
      have hcz19_3 := cz BK283 3 (.int .i64 a0_3)
      have hfz19_0 := fz BK283 0
      have hfz19_1 := fz BK283 1
      have hfz19_2 := fz BK283 2
      have hfz19_3 := fz BK283 3
      have hcz20_0 := cz BK284 0 (.int .i64 a1_0)
      have hcz20_1 := cz BK284 1 (.int .i64 a1_1)
      have hcz20_2 := cz BK284 2 (.int .i64 a1_2)
      have hcz20_3 := cz BK284 3 (.int .i64 a1_3)
      have hfz20_0 := fz BK284 0
      have hfz20_1 := fz BK284 1
      have hfz20_2 := fz BK284 2
      have hfz20_3 := fz BK284 3
      go_wp2
      go_ret
      exact ⟨eE, lV2 GE283 GE284⟩
     ·rw [if_neg c17] at H
      have c17b0 : (a1_2 == 0) = false := beq_eq_false_iff_ne.mpr c17
      have c17b1 : (a1_2 != 0) = true := bne_iff_ne.mpr c17
      obtain rfl := Option.some.inj H
      have hnb21 := NB283_284.out
      have hnc21 := NB284_283.out
      have hcz22_0 := cz BK283 0 (.int .i64 a0_0)
      have hcz22_1 := cz BK283 1 (.int .i64 a0_1)
      have hcz22_2 := cz BK283 2 (.int .i64 a0_2)
      have hcz22_3 := cz BK283 3 (.int .i64 a0_3)
      have hfz22_0 := fz BK283 0
      have hfz22_1 := fz BK283 1
      have hfz22_2 := fz BK283 2
      have hfz22_3 := fz BK283 3
      have hcz23_0 := cz BK284 0 (.int .i64 a1_0)
      have hcz23_1 := cz BK284 1 (.int .i64 a1_1)
      have hcz23_2 := cz BK284 2 (.int .i64 a1_2)
      have hcz23_3 := cz BK284 3 (.int .i64 a1_3)
      have hfz23_0 := fz BK284 0
      have hfz23_1 := fz BK284 1
      have hfz23_2 := fz BK284 2
      have hfz23_3 := fz BK284 3
      go_wp2
      go_ret
      exact ⟨eE, lV2 GE283 GE284⟩
end Go.Proofs.Ytnacjhgpanedoab.PFnPushed
namespace Go.Proofs.Ytnacjhgpanedoab.PFnPushed
open Go.RowKit Go.Proofs.YtnacjhgpanedoabW.PrintWords Go.Proofs.YtnacjhgpanedoabW.PrintLast Go.Proofs.YtnacjhgpanedoabW.PrintMore
attribute [local go_sem] max2_int min2_int max_two min_two max_three min_three max_four min_four   -- for this text's walks alone
set_option linter.unusedVariables false
set_option linter.unusedSimpArgs false
mutual
def spec_l10Pair.j0 : Nat → Int → Bool → Int → Int → Int → Int → Int → Int → Int → Int → Option (Int × Int × Int × Int × Int × Int × Int × Int)
 | 0, _, _, _, _, _, _, _, _, _, _ => none
 | k + 1, x2, x26, x286000, x286001, x286002, x286003, x287000, x287001, x287002, x287003 => if x26 = true then (some (x286000, x286001, x286002, x286003, x287000, x287001, x287002, x287003)) else (if x286002 = 0 then (spec_l10Pair.j1 k (wrap64 (Int.tdiv (wrap64 ((wrap64 (100 + x2)) * (wrap64 (-x287001)))) 100)) x286000 x286001 x286002 x286003 x287000 x287001 x287002 x287003) else (if x287002 = 0 then (spec_l10Pair.j1 k (wrap64 (Int.tdiv (wrap64 ((wrap64 (100 + x2)) * x286001)) 100)) x286000 x286001 x286002 x286003 x287000 x287001 x287002 x287003) else (if (wrap64 (100 * (wrap64 (x286002 + x287002)))) = 0 then (none) else (spec_l10Pair.j1 k (wrap64 (Int.tdiv (wrap64 ((wrap64 (100 + x2)) * (wrap64 ((wrap64 (x286001 * x287002)) - (wrap64 (x287001 * x286002)))))) (wrap64 (100 * (wrap64 (x286002 + x287002)))))) x286000 x286001 x286002 x286003 x287000 x287001 x287002 x287003))))
def spec_l10Pair.j1 : Nat → Int → Int → Int → Int → Int → Int → Int → Int → Int → Option (Int × Int × Int × Int × Int × Int × Int × Int)
 | 0, _, _, _, _, _, _, _, _, _ => none
 | k + 1, x9, x286000, x286001, x286002, x286003, x287000, x287001, x287002, x287003 => if x286002 > 0 then (spec_l10Pair.j2 k x9 x286000 (wrap64 (x286001 - x9)) x286002 x286003 x287000 x287001 x287002 x287003) else (spec_l10Pair.j2 k x9 x286000 x286001 x286002 x286003 x287000 x287001 x287002 x287003)
def spec_l10Pair.j2 : Nat → Int → Int → Int → Int → Int → Int → Int → Int → Int → Option (Int × Int × Int × Int × Int × Int × Int × Int)
 | 0, _, _, _, _, _, _, _, _, _ => none
 | k + 1, x9, x286000, x286001, x286002, x286003, x287000, x287001, x287002, x287003 => if x287002 > 0 then (some (x286000, x286001, x286002, x286003, x287000, wrap64 (x287001 + x9), x287002, x287003)) else (some (x286000, x286001, x286002, x286003, x287000, x287001, x287002, x287003))
end
def spec_l10Pair.f (k : Nat) (a0_0 : Int) (a0_1 : Int) (a0_2 : Int) (a0_3 : Int) (a1_0 : Int) (a1_1 : Int) (a1_2 : Int) (a1_3 : Int) (a2 : Int) : Option (Int × Int × Int × Int × Int × Int × Int × Int) := if (wrap64 (a0_0 + a0_3)) < (wrap64 (a1_0 - a1_3)) then (spec_l10Pair.j0 k a2 true a0_0 a0_1 a0_2 a0_3 a1_0 a1_1 a1_2 a1_3) else ((spec_l10Near.f k a0_0 a0_1 a0_2 a0_3 a1_0 a1_1 a1_2 a1_3).bind fun t289 => (spec_l10Pair.j0 k a2 (!t289) a0_0 a0_1 a0_2 a0_3 a1_0 a1_1 a1_2 a1_3))
theorem spec_l10Pair.mono_l : ∀ k, (∀ y0 y1 y2 y3 y4 y5 y6 y7 y8 y9, LeO (spec_l10Pair.j0 k y0 y1 y2 y3 y4 y5 y6 y7 y8 y9) (spec_l10Pair.j0 (k + 1) y0 y1 y2 y3 y4 y5 y6 y7 y8 y9)) ∧ (∀ y0 y1 y2 y3 y4 y5 y6 y7 y8, LeO (spec_l10Pair.j1 k y0 y1 y2 y3 y4 y5 y6 y7 y8) (spec_l10Pair.j1 (k + 1) y0 y1 y2 y3 y4 y5 y6 y7 y8)) ∧ (∀ y0 y1 y2 y3 y4 y5 y6 y7 y8, LeO (spec_l10Pair.j2 k y0 y1 y2 y3 y4 y5 y6 y7 y8) (spec_l10Pair.j2 (k + 1) y0 y1 y2 y3 y4 y5 y6 y7 y8))
 | 0 => ⟨fun _ _ _ _ _ _ _ _ _ _ r h => by simp [spec_l10Pair.j0] at h, fun _ _ _ _ _ _ _ _ _ r h => by simp [spec_l10Pair.j1] at h, fun _ _ _ _ _ _ _ _ _ r h => by simp [spec_l10Pair.j2] at h⟩
 | k + 1 => by
  obtain ⟨ih0, ih1, ih2⟩ := spec_l10Pair.mono_l k
  refine ⟨?_, ?_, ?_⟩
  ·intro y0 y1 y2 y3 y4 y5 y6 y7 y8 y9
   unfold spec_l10Pair.j0
   repeat' first
   | (with_reducible exact ih0 _ _ _ _ _ _ _ _ _ _)
   | (with_reducible exact ih1 _ _ _ _ _ _ _ _ _)
   | (with_reducible exact ih2 _ _ _ _ _ _ _ _ _)
   | (with_reducible exact spec_l10Near.mono _ _ _ _ _ _ _ _ _)
   | (with_reducible first | exact LeO.refl _ | exact LeO.none _ | refine LeO.ite ?_ ?_ | refine LeO.bind ?_ (fun _ => ?_))
   | exact ih0 _ _ _ _ _ _ _ _ _ _
   | exact ih1 _ _ _ _ _ _ _ _ _
   | exact ih2 _ _ _ _ _ _ _ _ _
   | exact spec_l10Near.mono _ _ _ _ _ _ _ _ _ | exact LeO.none _ | refine LeO.ite ?_ ?_ | refine LeO.bind ?_ (fun _ => ?_)
  ·intro y0 y1 y2 y3 y4 y5 y6 y7 y8
   unfold spec_l10Pair.j1
   repeat' first
   | (with_reducible exact ih0 _ _ _ _ _ _ _ _ _ _)
   | (with_reducible exact ih1 _ _ _ _ _ _ _ _ _)
   | (with_reducible exact ih2 _ _ _ _ _ _ _ _ _)
   | (with_reducible exact spec_l10Near.mono _ _ _ _ _ _ _ _ _)
   | (with_reducible first | exact LeO.refl _ | exact LeO.none _ | refine LeO.ite ?_ ?_ | refine LeO.bind ?_ (fun _ => ?_))
   | exact ih0 _ _ _ _ _ _ _ _ _ _
   | exact ih1 _ _ _ _ _ _ _ _ _
   | exact ih2 _ _ _ _ _ _ _ _ _
   | exact spec_l10Near.mono _ _ _ _ _ _ _ _ _ | exact LeO.none _ | refine LeO.ite ?_ ?_ | refine LeO.bind ?_ (fun _ => ?_)
  ·intro y0 y1 y2 y3 y4 y5 y6 y7 y8
   unfold spec_l10Pair.j2
   repeat' first
   | (with_reducible exact ih0 _ _ _ _ _ _ _ _ _ _)
   | (with_reducible exact ih1 _ _ _ _ _ _ _ _ _)
   | (with_reducible exact ih2 _ _ _ _ _ _ _ _ _)
   | (with_reducible exact spec_l10Near.mono _ _ _ _ _ _ _ _ _)
   | (with_reducible first | exact LeO.refl _ | exact LeO.none _ | refine LeO.ite ?_ ?_ | refine LeO.bind ?_ (fun _ => ?_))
   | exact ih0 _ _ _ _ _ _ _ _ _ _
   | exact ih1 _ _ _ _ _ _ _ _ _
   | exact ih2 _ _ _ _ _ _ _ _ _
   | exact spec_l10Near.mono _ _ _ _ _ _ _ _ _ | exact LeO.none _ | refine LeO.ite ?_ ?_ | refine LeO.bind ?_ (fun _ => ?_)
theorem spec_l10Pair.mono : ∀ a0 a1 a2 a3 a4 a5 a6 a7 a8 k, LeO (spec_l10Pair.f k a0 a1 a2 a3 a4 a5 a6 a7 a8) (spec_l10Pair.f (k + 1) a0 a1 a2 a3 a4 a5 a6 a7 a8) := by
 intro a0 a1 a2 a3 a4 a5 a6 a7 a8 k
 obtain ⟨ih0, ih1, ih2⟩ := spec_l10Pair.mono_l k
 unfold spec_l10Pair.f
 repeat' first
   | (with_reducible exact ih0 _ _ _ _ _ _ _ _ _ _)
   | (with_reducible exact ih1 _ _ _ _ _ _ _ _ _)
   | (with_reducible exact ih2 _ _ _ _ _ _ _ _ _)
   | (with_reducible exact spec_l10Near.mono _ _ _ _ _ _ _ _ _)
   | (with_reducible first | exact LeO.refl _ | exact LeO.none _ | refine LeO.ite ?_ ?_ | refine LeO.bind ?_ (fun _ => ?_))
   | exact ih0 _ _ _ _ _ _ _ _ _ _
   | exact ih1 _ _ _ _ _ _ _ _ _
   | exact ih2 _ _ _ _ _ _ _ _ _
   | exact spec_l10Near.mono _ _ _ _ _ _ _ _ _ | exact LeO.none _ | refine LeO.ite ?_ ?_ | refine LeO.bind ?_ (fun _ => ?_)
set_option maxHeartbeats 8000000 in
set_option maxRecDepth 100000 in
theorem spec_l10Pair.calls (k : Nat) (a0_0 : Int) (a0_1 : Int) (a0_2 : Int) (a0_3 : Int) (a1_0 : Int) (a1_1 : Int) (a1_2 : Int) (a1_3 : Int) (a2 : Int) (r1 : Int) (r2 : Int) (r3 : Int) (r4 : Int) (r5 : Int) (r6 : Int) (r7 : Int) (r8 : Int) (w : World) (h : spec_l10Pair.f k a0_0 a0_1 a0_2 a0_3 a1_0 a1_1 a1_2 a1_3 a2 = some (r1, r2, r3, r4, r5, r6, r7, r8)) :
  Calls Try.prog 35 #[.agg #[.int .i64 a0_0, .int .i64 a0_1, .int .i64 a0_2, .int .i64 a0_3], .agg #[.int .i64 a1_0, .int .i64 a1_1, .int .i64 a1_2, .int .i64 a1_3], .int .i64 a2] w fun e w' => e = .returned (.tuple #[.agg #[.int .i64 r1, .int .i64 r2, .int .i64 r3, .int .i64 r4], .agg #[.int .i64 r5, .int .i64 r6, .int .i64 r7, .int .i64 r8]]) ∧ Below w.heap.size w w' := by
 have hu33 := Try.underlying33
 have HB := Aside0.mk (Below.refl w.heap.size w)
 have H : (if (wrap64 (a0_0 + a0_3)) < (wrap64 (a1_0 - a1_3)) then (spec_l10Pair.j0 k a2 true a0_0 a0_1 a0_2 a0_3 a1_0 a1_1 a1_2 a1_3) else ((spec_l10Near.f k a0_0 a0_1 a0_2 a0_3 a1_0 a1_1 a1_2 a1_3).bind fun t289 => (spec_l10Pair.j0 k a2 (!t289) a0_0 a0_1 a0_2 a0_3 a1_0 a1_1 a1_2 a1_3))) = some (r1, r2, r3, r4, r5, r6, r7, r8) := h
 clear h
 have HC4 := Aside0.mk H
 clear H
 go_enter Try.func35, Try.ntmps35
 go_upto_region 1 with (first | ((with_reducible refine gate_dst (N := 3) rfl ?_); refine box_event rfl (N := 3) rfl (cs := #[.int .i64 a0_0, .int .i64 a0_1, .int .i64 a0_2, .int .i64 a0_3]) (t := 33) sE ?_; intro gb285 hg w5 hbox hb; have BK285 := Aside0.mk hbox; have GW285 := gS w hg (lU); have GE285 := gS w hg (lU); replace HB := bH (lU) hb; clear hb hbox hg) | ((with_reducible refine gate_dst (N := 4) rfl ?_); refine box_event rfl (N := 4) rfl (cs := #[.int .i64 a1_0, .int .i64 a1_1, .int .i64 a1_2, .int .i64 a1_3]) (t := 33) sE ?_; intro gb286 hg w6 hbox hb; have BK286 := Aside0.mk hbox; have GW286 := gS w hg (lV1 GE285); have GE286 := gS w hg (lV1 GE285); replace HB := bH (lV1 GE285) hb; have NB285_286 := nL hg (bV BK285); have NB286_285 := nG hg (bV BK285); replace BK285 := bB (bV BK285) hb; clear hb hbox hg) | ((with_reducible refine gate_dst (N := 6) rfl ?_); refine box_event rfl (N := 6) rfl (cs := #[.int .i64 0, .int .i64 0, .int .i64 0, .int .i64 0]) (t := 33) sE ?_; intro gb287 hg w7 hbox hb; have BK287 := Aside0.mk hbox; have GW287 := gS w hg (lV2 GE285 GE286); have GE287 := gS w hg (lV2 GE285 GE286); replace HB := bH (lV2 GE285 GE286) hb; have NB285_287 := nL hg (bV BK285); have NB287_285 := nG hg (bV BK285); replace BK285 := bB (bV BK285) hb; have NB286_287 := nL hg (bV BK286); have NB287_286 := nG hg (bV BK286); replace BK286 := bB (bV BK286) hb; clear hb hbox hg) | ((with_reducible refine gate_dst (N := 7) rfl ?_); refine box_event rfl (N := 7) rfl (cs := #[.int .i64 0, .int .i64 0, .int .i64 0, .int .i64 0]) (t := 33) sE ?_; intro gb288 hg w8 hbox hb; have BK288 := Aside0.mk hbox; have GW288 := gS w hg (lV3 GE285 GE286 GE287); have GE288 := gS w hg (lV3 GE285 GE286 GE287); replace HB := bH (lV3 GE285 GE286 GE287) hb; have NB285_288 := nL hg (bV BK285); have NB288_285 := nG hg (bV BK285); replace BK285 := bB (bV BK285) hb; have NB286_288 := nL hg (bV BK286); have NB288_286 := nG hg (bV BK286); replace BK286 := bB (bV BK286) hb; have NB287_288 := nL hg (bV BK287); have NB288_287 := nG hg (bV BK287); replace BK287 := bB (bV BK287) hb; clear hb hbox hg))
 (try simp only [Act.put, List.setIfInBounds_toArray, List.set_cons_zero, List.set_cons_succ])
 go_cut [26] (fun v26 wc => ∃ (kq : Nat) (x26_3 : Bool), v26 = .bool x26_3 ∧ Aside0 (spec_l10Pair.j0 kq a2 x26_3 a0_0 a0_1 a0_2 a0_3 a1_0 a1_1 a1_2 a1_3 = some (r1, r2, r3, r4, r5, r6, r7, r8)) ∧ Aside0 (kq ≤ k) ∧ Aside0 (wc.heap[gb285]? = some (.cells #[.int .i64 a0_0, .int .i64 a0_1, .int .i64 a0_2, .int .i64 a0_3] 33 (0, 0))) ∧ Aside0 (wc.heap[gb286]? = some (.cells #[.int .i64 a1_0, .int .i64 a1_1, .int .i64 a1_2, .int .i64 a1_3] 33 (0, 0))) ∧ Aside0 (wc.heap[gb287]? = some (.cells #[.int .i64 0, .int .i64 0, .int .i64 0, .int .i64 0] 33 (0, 0))) ∧ Aside0 (wc.heap[gb288]? = some (.cells #[.int .i64 0, .int .i64 0, .int .i64 0, .int .i64 0] 33 (0, 0))) ∧ Aside0 (Below w.heap.size w wc))
 case first =>
  have H := HC4.out
  clear HC4
  by_cases c9 : (wrap64 (a0_0 + a0_3)) < (wrap64 (a1_0 - a1_3))
  ·rw [if_pos c9] at H
   have c9b0 : decide ((wrap64 (a0_0 + a0_3)) < (wrap64 (a1_0 - a1_3))) = true := decide_eq_true c9
   clear c9
   (first | rw [c9b0] | (simp only [i64_w, i32_w]; rw [c9b0]) | (rw [c9b2]; simp only [Bool.not_false, Bool.not_true]) | skip)
   have H' := Aside0.mk H
   clear H
   have hnb10 := NB285_286.out
   have hnc10 := NB286_285.out
   have hnb11 := NB285_287.out
   have hnc11 := NB287_285.out
   have hnb12 := NB285_288.out
   have hnc12 := NB288_285.out
   have hcz13_0 := cz BK285 0 (.int .i64 a0_0)
   have hcz13_1 := cz BK285 1 (.int .i64 a0_1)
   have hcz13_2 := cz BK285 2 (.int .i64 a0_2)
   have hcz13_3 := cz BK285 3 (.int .i64 a0_3)
   have hfz13_0 := fz BK285 0
   have hfz13_1 := fz BK285 1
   have hfz13_2 := fz BK285 2
   have hfz13_3 := fz BK285 3
   have hnb14 := NB286_287.out
   have hnc14 := NB287_286.out
   have hnb15 := NB286_288.out
   have hnc15 := NB288_286.out
   have hcz16_0 := cz BK286 0 (.int .i64 a1_0)
   have hcz16_1 := cz BK286 1 (.int .i64 a1_1)
   have hcz16_2 := cz BK286 2 (.int .i64 a1_2)
   have hcz16_3 := cz BK286 3 (.int .i64 a1_3)
   have hfz16_0 := fz BK286 0
   have hfz16_1 := fz BK286 1
   have hfz16_2 := fz BK286 2
   have hfz16_3 := fz BK286 3
   go_wp2
   go_meet
   case rel => exact ⟨_, (true), tE, H', ⟨by first | omega | exact Nat.le_refl _⟩, ⟨by refine bU ?_; exact BK285.out⟩, ⟨by refine bU ?_; exact BK286.out⟩, ⟨by refine bU ?_; exact BK287.out⟩, ⟨by refine bU ?_; exact BK288.out⟩, ⟨by repeat (first | (with_reducible first | exact HB.out | apply below_alloc | apply pw_below_drewN | apply below_drew1 | refine below_set ?_ GE285.out | refine below_set ?_ GE286.out | refine below_set ?_ GE287.out | refine below_set ?_ GE288.out) | exact HB.out)⟩⟩
  ·rw [if_neg c9] at H
   have c9b0 : decide ((wrap64 (a0_0 + a0_3)) < (wrap64 (a1_0 - a1_3))) = false := decide_eq_false c9
   clear c9
   (first | rw [c9b0] | (simp only [i64_w, i32_w]; rw [c9b0]) | (rw [c9b2]; simp only [Bool.not_false, Bool.not_true]) | skip)
   replace H := Option.bind_eq_some_iff.mp H
   obtain ⟨t289, A170, H⟩ := H
   replace H : (spec_l10Pair.j0 k a2 (!t289) a0_0 a0_1 a0_2 a0_3 a1_0 a1_1 a1_2 a1_3) = some (r1, r2, r3, r4, r5, r6, r7, r8) := H
   have A17 := Aside0.mk A170
   clear A170
   have H' := Aside0.mk H
   clear H
   have hnb18 := NB285_286.out
   have hnc18 := NB286_285.out
   have hnb19 := NB285_287.out
   have hnc19 := NB287_285.out
   have hnb20 := NB285_288.out
   have hnc20 := NB288_285.out
   have hcz21_0 := cz BK285 0 (.int .i64 a0_0)
   have hcz21_1 := cz BK285 1 (.int .i64 a0_1)
   have hcz21_2 := cz BK285 2 (.int .i64 a0_2)
   have hcz21_3 := cz BK285 3 (.int .i64 a0_3)
   have hfz21_0 := fz BK285 0
   have hfz21_1 := fz BK285 1
   have hfz21_2 := fz BK285 2
   have hfz21_3 := fz BK285 3
   have hnb22 := NB286_287.out
   have hnc22 := NB287_286.out
   have hnb23 := NB286_288.out
   have hnc23 := NB288_286.out
   have hcz24_0 := cz BK286 0 (.int .i64 a1_0)
   have hcz24_1 := cz BK286 1 (.int .i64 a1_1)
   have hcz24_2 := cz BK286 2 (.int .i64 a1_2)
   have hcz24_3 := cz BK286 3 (.int .i64 a1_3)
   have hfz24_0 := fz BK286 0
   have hfz24_1 := fz BK286 1
   have hfz24_2 := fz BK286 2
   have hfz24_3 := fz BK286 3
   go_wp2_with (first | (go_at_call 38; (with_reducible refine (spec_l10Near.calls k a0_0 a0_1 a0_2 a0_3 a1_0 a1_1 a1_2 a1_3 t289 _ A17.out).mono ?_); rintro e w25 ⟨rfl, hb⟩; replace BK285 := bB (bV BK285) hb; replace BK286 := bB (bV BK286) hb; replace BK287 := bB (bV BK287) hb; replace BK288 := bB (bV BK288) hb; replace HB := bH (lV4 GE285 GE286 GE287 GE288) hb; (try clear hb)))
   go_meet
   case rel => exact ⟨_, (!t289), tE, H', ⟨by first | omega | exact Nat.le_refl _⟩, ⟨by refine bU ?_; exact BK285.out⟩, ⟨by refine bU ?_; exact BK286.out⟩, ⟨by refine bU ?_; exact BK287.out⟩, ⟨by refine bU ?_; exact BK288.out⟩, ⟨by repeat (first | (with_reducible first | exact HB.out | apply below_alloc | apply pw_below_drewN | apply below_drew1 | refine below_set ?_ GE285.out | refine below_set ?_ GE286.out | refine below_set ?_ GE287.out | refine below_set ?_ GE288.out) | exact HB.out)⟩⟩
 case rest =>
  clear HC4
  obtain ⟨kq, x26_3, rfl, HA, HJ3, BK285, BK286, BK287, BK288, HB⟩ := hcut
  cases kq with
  | zero => exact absurd HA.out (by simp [spec_l10Pair.j0])
  | succ kj3 =>
   have H := HA.out
   clear HA
   simp only [spec_l10Pair.j0] at H
   by_cases c26 : x26_3 = true
   ·subst c26
    have H1 : (some (a0_0, a0_1, a0_2, a0_3, a1_0, a1_1, a1_2, a1_3)) = some (r1, r2, r3, r4, r5, r6, r7, r8) := by rw [if_pos rfl] at H; exact H
    clear H
    have H := H1
    clear H1
    simp only [Option.some.injEq, Prod.mk.injEq] at H
    obtain ⟨rfl, rfl, rfl, rfl, rfl, rfl, rfl, rfl⟩ := H
    try go_wp2
    replace BK285 := Aside0.mk (blk_drew BK285.out)
    replace BK286 := Aside0.mk (blk_drew BK286.out)
    replace BK287 := Aside0.mk (blk_drew BK287.out)
    replace BK288 := Aside0.mk (blk_drew BK288.out)
    replace HB := Aside0.mk (below_drew1 HB.out)
    refine start_ (n := 4) (S := fun w' => w'.cell? ⟨gb285, 0, none⟩ = some (.int .i64 a0_0) ∧ w'.cell? ⟨gb285, 1, none⟩ = some (.int .i64 a0_1) ∧ w'.cell? ⟨gb285, 2, none⟩ = some (.int .i64 a0_2) ∧ w'.cell? ⟨gb285, 3, none⟩ = some (.int .i64 a0_3) ∧ w'.cell? ⟨gb286, 0, none⟩ = some (.int .i64 a1_0) ∧ w'.cell? ⟨gb286, 1, none⟩ = some (.int .i64 a1_1) ∧ w'.cell? ⟨gb286, 2, none⟩ = some (.int .i64 a1_2) ∧ w'.cell? ⟨gb286, 3, none⟩ = some (.int .i64 a1_3)) (ds := []) #[false, false, false, false] (by kernel_rfl) rfl rfl ⟨cz BK285 0 _, cz BK285 1 _, cz BK285 2 _, cz BK285 3 _, cz BK286 0 _, cz BK286 1 _, cz BK286 2 _, cz BK286 3 _⟩ (fun hHeld => ?_)
    generalize wc.drew = w27 at BK285 BK286 BK287 BK288 HB hHeld ⊢
    refine take_ (i := 0) (N := some 27) (v := ?_) (a' := ?_) #[true, false, false, false] rfl rfl (by kernel_rfl) (fun _ _ _ h => h) (Or.inl ⟨by rfl, ?_⟩) hHeld ?_ ?_
    rotate_left
    ·rintro w' ⟨s0, s1, s2, s3, s4, s5, s6, s7⟩
     go_simp
     with_reducible rfl
    rotate_left
    ·simp only [Act.put, List.setIfInBounds_toArray, List.set_cons_zero, List.set_cons_succ, i64_w, i32_w]
     rfl
    refine take_ (i := 1) (N := some 28) (v := ?_) (a' := ?_) #[true, true, false, false] rfl rfl (by kernel_rfl) (fun _ _ _ h => h) (Or.inl ⟨by rfl, ?_⟩) hHeld ?_ ?_
    rotate_left
    ·rintro w' ⟨s0, s1, s2, s3, s4, s5, s6, s7⟩
     go_simp
     with_reducible rfl
    rotate_left
    ·simp only [Act.put, List.setIfInBounds_toArray, List.set_cons_zero, List.set_cons_succ, i64_w, i32_w]
     rfl
    refine one_ (i := 2) (N := none) #[true, true, true, false] rfl rfl (by kernel_rfl) (by decide) (fun K hK => ?_)
    have hs28 : w27.cell? ⟨gb287, 0, none⟩ = some (.int .i64 0) := (blk_cell BK287.out 0).trans rfl
    have hfs28 := blk_frozen BK287.out 0
    have hns28_0 := NB285_287.out
    have hns28_1 := NB286_287.out
    have hns28_3 := NB288_287.out
    have hms28_0 := NB287_285.out
    have hms28_1 := NB287_286.out
    have hms28_3 := NB287_288.out
    have hs29 : w27.cell? ⟨gb287, 1, none⟩ = some (.int .i64 0) := (blk_cell BK287.out 1).trans rfl
    have hfs29 := blk_frozen BK287.out 1
    have hns29_0 := NB285_287.out
    have hns29_1 := NB286_287.out
    have hns29_3 := NB288_287.out
    have hms29_0 := NB287_285.out
    have hms29_1 := NB287_286.out
    have hms29_3 := NB287_288.out
    have hs30 : w27.cell? ⟨gb287, 2, none⟩ = some (.int .i64 0) := (blk_cell BK287.out 2).trans rfl
    have hfs30 := blk_frozen BK287.out 2
    have hns30_0 := NB285_287.out
    have hns30_1 := NB286_287.out
    have hns30_3 := NB288_287.out
    have hms30_0 := NB287_285.out
    have hms30_1 := NB287_286.out
    have hms30_3 := NB287_288.out
    have hs31 : w27.cell? ⟨gb287, 3, none⟩ = some (.int .i64 0) := (blk_cell BK287.out 3).trans rfl
    have hfs31 := blk_frozen BK287.out 3
    have hns31_0 := NB285_287.out
    have hns31_1 := NB286_287.out
    have hns31_3 := NB288_287.out
    have hms31_0 := NB287_285.out
    have hms31_1 := NB287_286.out
    have hms31_3 := NB287_288.out
    refine skip_ (w1 := ?_) (by rfl) rfl ?_ ?_
    rotate_left
    ·go_simp
     rfl
    refine hK.out _ _ ⟨(cf4 NB285_287.out hHeld.1), (cf4 NB285_287.out hHeld.2.1), (cf4 NB285_287.out hHeld.2.2.1), (cf4 NB285_287.out hHeld.2.2.2.1), (cf4 NB286_287.out hHeld.2.2.2.2.1), (cf4 NB286_287.out hHeld.2.2.2.2.2.1), (cf4 NB286_287.out hHeld.2.2.2.2.2.2.1), (cf4 NB286_287.out hHeld.2.2.2.2.2.2.2)⟩ (fun hHeld => ?_)
    clear hK K
    refine one_ (i := 3) (N := none) #[true, true, true, true] rfl rfl (by kernel_rfl) (by decide) (fun K hK => ?_)
    have hs32 : w27.cell? ⟨gb288, 0, none⟩ = some (.int .i64 0) := (blk_cell BK288.out 0).trans rfl
    have hfs32 := blk_frozen BK288.out 0
    have hns32_0 := NB285_288.out
    have hns32_1 := NB286_288.out
    have hns32_2 := NB287_288.out
    have hms32_0 := NB288_285.out
    have hms32_1 := NB288_286.out
    have hms32_2 := NB288_287.out
    have hs33 : w27.cell? ⟨gb288, 1, none⟩ = some (.int .i64 0) := (blk_cell BK288.out 1).trans rfl
    have hfs33 := blk_frozen BK288.out 1
    have hns33_0 := NB285_288.out
    have hns33_1 := NB286_288.out
    have hns33_2 := NB287_288.out
    have hms33_0 := NB288_285.out
    have hms33_1 := NB288_286.out
    have hms33_2 := NB288_287.out
    have hs34 : w27.cell? ⟨gb288, 2, none⟩ = some (.int .i64 0) := (blk_cell BK288.out 2).trans rfl
    have hfs34 := blk_frozen BK288.out 2
    have hns34_0 := NB285_288.out
    have hns34_1 := NB286_288.out
    have hns34_2 := NB287_288.out
    have hms34_0 := NB288_285.out
    have hms34_1 := NB288_286.out
    have hms34_2 := NB288_287.out
    have hs35 : w27.cell? ⟨gb288, 3, none⟩ = some (.int .i64 0) := (blk_cell BK288.out 3).trans rfl
    have hfs35 := blk_frozen BK288.out 3
    have hns35_0 := NB285_288.out
    have hns35_1 := NB286_288.out
    have hns35_2 := NB287_288.out
    have hms35_0 := NB288_285.out
    have hms35_1 := NB288_286.out
    have hms35_2 := NB288_287.out
    refine skip_ (w1 := ?_) (by rfl) rfl ?_ ?_
    rotate_left
    ·go_simp
     rfl
    refine hK.out _ _ ⟨(cf4 NB285_288.out hHeld.1), (cf4 NB285_288.out hHeld.2.1), (cf4 NB285_288.out hHeld.2.2.1), (cf4 NB285_288.out hHeld.2.2.2.1), (cf4 NB286_288.out hHeld.2.2.2.2.1), (cf4 NB286_288.out hHeld.2.2.2.2.2.1), (cf4 NB286_288.out hHeld.2.2.2.2.2.2.1), (cf4 NB286_288.out hHeld.2.2.2.2.2.2.2)⟩ (fun hHeld => ?_)
    clear hK K
    refine done_ (by kernel_rfl) ?_
    try go_wp2
    refine bodyPost_ret (results_cc rfl _ _ gb287 gb288 33 33 #[.int .i64 a0_0, .int .i64 a0_1, .int .i64 a0_2, .int .i64 a0_3] #[.int .i64 a1_0, .int .i64 a1_1, .int .i64 a1_2, .int .i64 a1_3] (0, 0) (0, 0) _ _ rfl (by refine bU ?_; refine blk_far ?_ NB287_288.out _; refine bU ?_; refine blk_far ?_ NB287_288.out _; refine bU ?_; refine blk_far ?_ NB287_288.out _; refine bU ?_; refine blk_far ?_ NB287_288.out _; refine bU ?_; refine blk_put (cs := #[.int .i64 a0_0, .int .i64 a0_1, .int .i64 a0_2, .int .i64 0]) ?_ 3 _ rfl; refine bU ?_; refine blk_put (cs := #[.int .i64 a0_0, .int .i64 a0_1, .int .i64 0, .int .i64 0]) ?_ 2 _ rfl; refine bU ?_; refine blk_put (cs := #[.int .i64 a0_0, .int .i64 0, .int .i64 0, .int .i64 0]) ?_ 1 _ rfl; refine bU ?_; refine blk_put (cs := #[.int .i64 0, .int .i64 0, .int .i64 0, .int .i64 0]) ?_ 0 _ rfl; refine bU ?_; exact BK287.out) Try.underlying33 rfl (by kernel_rfl) rfl (by refine bU ?_; refine blk_put (cs := #[.int .i64 a1_0, .int .i64 a1_1, .int .i64 a1_2, .int .i64 0]) ?_ 3 _ rfl; refine bU ?_; refine blk_put (cs := #[.int .i64 a1_0, .int .i64 a1_1, .int .i64 0, .int .i64 0]) ?_ 2 _ rfl; refine bU ?_; refine blk_put (cs := #[.int .i64 a1_0, .int .i64 0, .int .i64 0, .int .i64 0]) ?_ 1 _ rfl; refine bU ?_; refine blk_put (cs := #[.int .i64 0, .int .i64 0, .int .i64 0, .int .i64 0]) ?_ 0 _ rfl; refine bU ?_; refine blk_far ?_ NB288_287.out _; refine bU ?_; refine blk_far ?_ NB288_287.out _; refine bU ?_; refine blk_far ?_ NB288_287.out _; refine bU ?_; refine blk_far ?_ NB288_287.out _; refine bU ?_; exact BK288.out) Try.underlying33 rfl (by kernel_rfl)) rfl ?_
    exact ⟨eE, lV4 GE285 GE286 GE287 GE288⟩
   ·replace c26 := Bool.eq_false_iff.mpr c26
    subst c26
    have H1 : (if a0_2 = 0 then (spec_l10Pair.j1 kj3 (wrap64 (Int.tdiv (wrap64 ((wrap64 (100 + a2)) * (wrap64 (-a1_1)))) 100)) a0_0 a0_1 a0_2 a0_3 a1_0 a1_1 a1_2 a1_3) else (if a1_2 = 0 then (spec_l10Pair.j1 kj3 (wrap64 (Int.tdiv (wrap64 ((wrap64 (100 + a2)) * a0_1)) 100)) a0_0 a0_1 a0_2 a0_3 a1_0 a1_1 a1_2 a1_3) else (if (wrap64 (100 * (wrap64 (a0_2 + a1_2)))) = 0 then (none) else (spec_l10Pair.j1 kj3 (wrap64 (Int.tdiv (wrap64 ((wrap64 (100 + a2)) * (wrap64 ((wrap64 (a0_1 * a1_2)) - (wrap64 (a1_1 * a0_2)))))) (wrap64 (100 * (wrap64 (a0_2 + a1_2)))))) a0_0 a0_1 a0_2 a0_3 a1_0 a1_1 a1_2 a1_3)))) = some (r1, r2, r3, r4, r5, r6, r7, r8) := by rw [if_neg (show ¬ (false = true) by decide)] at H; exact H
    clear H
    have H := H1
    clear H1
    have HC36 := Aside0.mk H
    clear H
    go_upto_block 0 with (fail)
    go_cut [9] (fun v9 wc => ∃ (kq : Nat) (x9_35 : Int), v9 = .int .i64 x9_35 ∧ Aside0 (spec_l10Pair.j1 kq x9_35 a0_0 a0_1 a0_2 a0_3 a1_0 a1_1 a1_2 a1_3 = some (r1, r2, r3, r4, r5, r6, r7, r8)) ∧ Aside0 (kq ≤ kj3) ∧ Aside0 (wc.heap[gb285]? = some (.cells #[.int .i64 a0_0, .int .i64 a0_1, .int .i64 a0_2, .int .i64 a0_3] 33 (0, 0))) ∧ Aside0 (wc.heap[gb286]? = some (.cells #[.int .i64 a1_0, .int .i64 a1_1, .int .i64 a1_2, .int .i64 a1_3] 33 (0, 0))) ∧ Aside0 (wc.heap[gb287]? = some (.cells #[.int .i64 0, .int .i64 0, .int .i64 0, .int .i64 0] 33 (0, 0))) ∧ Aside0 (wc.heap[gb288]? = some (.cells #[.int .i64 0, .int .i64 0, .int .i64 0, .int .i64 0] 33 (0, 0))) ∧ Aside0 (Below w.heap.size w wc))
    case first =>
     have H := HC36.out
     clear HC36
     by_cases c37 : a0_2 = 0
     ·rw [if_pos c37] at H
      have c37b0 : (a0_2 == 0) = true := beq_iff_eq.mpr c37
      have c37b1 : (a0_2 != 0) = false := bne_eq_false_iff_eq.mpr c37
      clear c37
      (first | rw [c37b0] | (simp only [i64_w, i32_w]; rw [c37b0]) | (rw [c37b2]; simp only [Bool.not_false, Bool.not_true]) | skip)
      have H' := Aside0.mk H
      clear H
      have hnb38 := NB285_286.out
      have hnc38 := NB286_285.out
      have hnb39 := NB285_287.out
      have hnc39 := NB287_285.out
      have hnb40 := NB285_288.out
      have hnc40 := NB288_285.out
      have hcz41_0 := cz BK285 0 (.int .i64 a0_0)
      have hcz41_1 := cz BK285 1 (.int .i64 a0_1)
      have hcz41_2 := cz BK285 2 (.int .i64 a0_2)
      have hcz41_3 := cz BK285 3 (.int .i64 a0_3)
      have hfz41_0 := fz BK285 0
      have hfz41_1 := fz BK285 1
      have hfz41_2 := fz BK285 2
      have hfz41_3 := fz BK285 3
      have hnb42 := NB286_287.out
      have hnc42 := NB287_286.out
      have hnb43 := NB286_288.out
      have hnc43 := NB288_286.out
      have hcz44_0 := cz BK286 0 (.int .i64 a1_0)
      have hcz44_1 := cz BK286 1 (.int .i64 a1_1)
      have hcz44_2 := cz BK286 2 (.int .i64 a1_2)
      have hcz44_3 := cz BK286 3 (.int .i64 a1_3)
      have hfz44_0 := fz BK286 0
      have hfz44_1 := fz BK286 1
      have hfz44_2 := fz BK286 2
      have hfz44_3 := fz BK286 3
      go_wp2
      go_meet
      case rel => exact ⟨_, (wrap64 (Int.tdiv (wrap64 ((wrap64 (100 + a2)) * (wrap64 (-a1_1)))) 100)), tE, H', ⟨by have := HJ3.out; first | omega | exact Nat.le_refl _⟩, ⟨by refine bU ?_; exact BK285.out⟩, ⟨by refine bU ?_; exact BK286.out⟩, ⟨by refine bU ?_; exact BK287.out⟩, ⟨by refine bU ?_; exact BK288.out⟩, ⟨by repeat (first | (with_reducible first | exact HB.out | apply below_alloc | apply pw_below_drewN | apply below_drew1 | refine below_set ?_ GE285.out | refine below_set ?_ GE286.out | refine below_set ?_ GE287.out | refine below_set ?_ GE288.out) | exact HB.out)⟩⟩
     ·rw [if_neg c37] at H
      have c37b0 : (a0_2 == 0) = false := beq_eq_false_iff_ne.mpr c37
      have c37b1 : (a0_2 != 0) = true := bne_iff_ne.mpr c37
      (first | rw [c37b0] | (simp only [i64_w, i32_w]; rw [c37b0]) | (rw [c37b2]; simp only [Bool.not_false, Bool.not_true]) | skip)
      by_cases c45 : a1_2 = 0
      ·rw [if_pos c45] at H
       have c45b0 : (a1_2 == 0) = true := beq_iff_eq.mpr c45
       have c45b1 : (a1_2 != 0) = false := bne_eq_false_iff_eq.mpr c45
       clear c45
       have H' := Aside0.mk H
       clear H
       have hnb46 := NB285_286.out
       have hnc46 := NB286_285.out
       have hnb47 := NB285_287.out
       have hnc47 := NB287_285.out
       have hnb48 := NB285_288.out
       have hnc48 := NB288_285.out
       have hcz49_0 := cz BK285 0 (.int .i64 a0_0)
       have hcz49_1 := cz BK285 1 (.int .i64 a0_1)
       have hcz49_2 := cz BK285 2 (.int .i64 a0_2)
       have hcz49_3 := cz BK285 3 (.int .i64 a0_3)
       have hfz49_0 := fz BK285 0
       have hfz49_1 := fz BK285 1
       have hfz49_2 := fz BK285 2
       have hfz49_3 := fz BK285 3
       have hnb50 := NB286_287.out
       have hnc50 := NB287_286.out
       have hnb51 := NB286_288.out
       have hnc51 := NB288_286.out
       have hcz52_0 := cz BK286 0 (.int .i64 a1_0)
       have hcz52_1 := cz BK286 1 (.int .i64 a1_1)
       have hcz52_2 := cz BK286 2 (.int .i64 a1_2)
       have hcz52_3 := cz BK286 3 (.int .i64 a1_3)
       have hfz52_0 := fz BK286 0
       have hfz52_1 := fz BK286 1
       have hfz52_2 := fz BK286 2
       have hfz52_3 := fz BK286 3
       go_wp2
       go_meet
       case rel => exact ⟨_, (wrap64 (Int.tdiv (wrap64 ((wrap64 (100 + a2)) * a0_1)) 100)), tE, H', ⟨by have := HJ3.out; first | omega | exact Nat.le_refl _⟩, ⟨by refine bU ?_; exact BK285.out⟩, ⟨by refine bU ?_; exact BK286.out⟩, ⟨by refine bU ?_; exact BK287.out⟩, ⟨by refine bU ?_; exact BK288.out⟩, ⟨by repeat (first | (with_reducible first | exact HB.out | apply below_alloc | apply pw_below_drewN | apply below_drew1 | refine below_set ?_ GE285.out | refine below_set ?_ GE286.out | refine below_set ?_ GE287.out | refine below_set ?_ GE288.out) | exact HB.out)⟩⟩
      ·rw [if_neg c45] at H
       have c45b0 : (a1_2 == 0) = false := beq_eq_false_iff_ne.mpr c45
       have c45b1 : (a1_2 != 0) = true := bne_iff_ne.mpr c45
       by_cases c53 : (wrap64 (100 * (wrap64 (a0_2 + a1_2)))) = 0
       ·rw [if_pos c53] at H
        exact absurd H (by simp)
       ·rw [if_neg c53] at H
        have c53b0 : ((wrap64 (100 * (wrap64 (a0_2 + a1_2)))) == 0) = false := beq_eq_false_iff_ne.mpr c53
        have c53b1 : ((wrap64 (100 * (wrap64 (a0_2 + a1_2)))) != 0) = true := bne_iff_ne.mpr c53
        have H' := Aside0.mk H
        clear H
        have hnb54 := NB285_286.out
        have hnc54 := NB286_285.out
        have hnb55 := NB285_287.out
        have hnc55 := NB287_285.out
        have hnb56 := NB285_288.out
        have hnc56 := NB288_285.out
        have hcz57_0 := cz BK285 0 (.int .i64 a0_0)
        have hcz57_1 := cz BK285 1 (.int .i64 a0_1)
        have hcz57_2 := cz BK285 2 (.int .i64 a0_2)
        have hcz57_3 := cz BK285 3 (.int .i64 a0_3)
        have hfz57_0 := fz BK285 0
        have hfz57_1 := fz BK285 1
        have hfz57_2 := fz BK285 2
        have hfz57_3 := fz BK285 3
        have hnb58 := NB286_287.out
        have hnc58 := NB287_286.out
        have hnb59 := NB286_288.out
        have hnc59 := NB288_286.out
        have hcz60_0 := cz BK286 0 (.int .i64 a1_0)
        have hcz60_1 := cz BK286 1 (.int .i64 a1_1)
        have hcz60_2 := cz BK286 2 (.int .i64 a1_2)
        have hcz60_3 := cz BK286 3 (.int .i64 a1_3)
        have hfz60_0 := fz BK286 0
        have hfz60_1 := fz BK286 1
        have hfz60_2 := fz BK286 2
        have hfz60_3 := fz BK286 3
        go_wp2
        go_meet
        case rel => exact ⟨_, (wrap64 (Int.tdiv (wrap64 ((wrap64 (100 + a2)) * (wrap64 ((wrap64 (a0_1 * a1_2)) - (wrap64 (a1_1 * a0_2)))))) (wrap64 (100 * (wrap64 (a0_2 + a1_2)))))), tE, H', ⟨by have := HJ3.out; first | omega | exact Nat.le_refl _⟩, ⟨by refine bU ?_; exact BK285.out⟩, ⟨by refine bU ?_; exact BK286.out⟩, ⟨by refine bU ?_; exact BK287.out⟩, ⟨by refine bU ?_; exact BK288.out⟩, ⟨by repeat (first | (with_reducible first | exact HB.out | apply below_alloc | apply pw_below_drewN | apply below_drew1 | refine below_set ?_ GE285.out | refine below_set ?_ GE286.out | refine below_set ?_ GE287.out | refine below_set ?_ GE288.out) | exact HB.out)⟩⟩
    case rest =>
     clear HC36
     try clear c26
     obtain ⟨kq, x9_35, rfl, HA, HJ35, BK285, BK286, BK287, BK288, HB⟩ := hcut
     cases kq with
     | zero => exact absurd HA.out (by simp [spec_l10Pair.j1])
     | succ kj35 =>
      have H := HA.out
      clear HA
      simp only [spec_l10Pair.j1] at H
      have HC61 := Aside0.mk H
      clear H
      have hnb62 := NB285_286.out
      have hnc62 := NB286_285.out
      have hnb63 := NB285_287.out
      have hnc63 := NB287_285.out
      have hnb64 := NB285_288.out
      have hnc64 := NB288_285.out
      have hcz65_0 := cz BK285 0 (.int .i64 a0_0)
      have hcz65_1 := cz BK285 1 (.int .i64 a0_1)
      have hcz65_2 := cz BK285 2 (.int .i64 a0_2)
      have hcz65_3 := cz BK285 3 (.int .i64 a0_3)
      have hfz65_0 := fz BK285 0
      have hfz65_1 := fz BK285 1
      have hfz65_2 := fz BK285 2
      have hfz65_3 := fz BK285 3
      go_upto_if 72 with (fail)
      go_cut [] (fun wc => ∃ (kq : Nat) (x286001_60 : Int), Aside0 (spec_l10Pair.j2 kq x9_35 a0_0 x286001_60 a0_2 a0_3 a1_0 a1_1 a1_2 a1_3 = some (r1, r2, r3, r4, r5, r6, r7, r8)) ∧ Aside0 (kq ≤ kj35) ∧ Aside0 (wc.heap[gb285]? = some (.cells #[.int .i64 a0_0, .int .i64 x286001_60, .int .i64 a0_2, .int .i64 a0_3] 33 (0, 0))) ∧ Aside0 (wc.heap[gb286]? = some (.cells #[.int .i64 a1_0, .int .i64 a1_1, .int .i64 a1_2, .int .i64 a1_3] 33 (0, 0))) ∧ Aside0 (wc.heap[gb287]? = some (.cells #[.int .i64 0, .int .i64 0, .int .i64 0, .int .i64 0] 33 (0, 0))) ∧ Aside0 (wc.heap[gb288]? = some (.cells #[.int .i64 0, .int .i64 0, .int .i64 0, .int .i64 0] 33 (0, 0))) ∧ Aside0 (Below w.heap.size w wc))
      case first =>
       have H := HC61.out
       clear HC61
       by_cases c66 : a0_2 > 0
       ·rw [if_pos c66] at H
        have c66b0 : decide (0 < a0_2) = true := decide_eq_true c66
        clear c66
        (first | rw [c66b0] | (simp only [i64_w, i32_w]; rw [c66b0]) | (rw [c66b2]; simp only [Bool.not_false, Bool.not_true]) | skip)
        have H' := Aside0.mk H
        clear H
        have hnb67 := NB285_286.out
        have hnc67 := NB286_285.out
        have hnb68 := NB285_287.out
        have hnc68 := NB287_285.out
        have hnb69 := NB285_288.out
        have hnc69 := NB288_285.out
        have hcz70_0 := cz BK285 0 (.int .i64 a0_0)
        have hcz70_1 := cz BK285 1 (.int .i64 a0_1)
        have hcz70_2 := cz BK285 2 (.int .i64 a0_2)
        have hcz70_3 := cz BK285 3 (.int .i64 a0_3)
        have hfz70_0 := fz BK285 0
        have hfz70_1 := fz BK285 1
        have hfz70_2 := fz BK285 2
        have hfz70_3 := fz BK285 3
        go_wp2
        go_meet
        case rel => exact ⟨_, (wrap64 (a0_1 - x9_35)), H', ⟨by have := HJ3.out; have := HJ35.out; first | omega | exact Nat.le_refl _⟩, ⟨by refine bU ?_; refine blk_put (cs := #[.int .i64 a0_0, .int .i64 a0_1, .int .i64 a0_2, .int .i64 a0_3]) ?_ 1 _ rfl; refine bU ?_; exact BK285.out⟩, ⟨by refine bU ?_; refine blk_far ?_ NB286_285.out _; refine bU ?_; exact BK286.out⟩, ⟨by refine bU ?_; refine blk_far ?_ NB287_285.out _; refine bU ?_; exact BK287.out⟩, ⟨by refine bU ?_; refine blk_far ?_ NB288_285.out _; refine bU ?_; exact BK288.out⟩, ⟨by repeat (first | (with_reducible first | exact HB.out | apply below_alloc | apply pw_below_drewN | apply below_drew1 | refine below_set ?_ GE285.out | refine below_set ?_ GE286.out | refine below_set ?_ GE287.out | refine below_set ?_ GE288.out) | exact HB.out)⟩⟩
       ·rw [if_neg c66] at H
        have c66b0 : decide (0 < a0_2) = false := decide_eq_false c66
        clear c66
        (first | rw [c66b0] | (simp only [i64_w, i32_w]; rw [c66b0]) | (rw [c66b2]; simp only [Bool.not_false, Bool.not_true]) | skip)
        have H' := Aside0.mk H
        clear H
        go_wp2
        go_meet
        case rel => exact ⟨_, (a0_1), H', ⟨by have := HJ3.out; have := HJ35.out; first | omega | exact Nat.le_refl _⟩, ⟨by refine bU ?_; exact BK285.out⟩, ⟨by refine bU ?_; exact BK286.out⟩, ⟨by refine bU ?_; exact BK287.out⟩, ⟨by refine bU ?_; exact BK288.out⟩, ⟨by repeat (first | (with_reducible first | exact HB.out | apply below_alloc | apply pw_below_drewN | apply below_drew1 | refine below_set ?_ GE285.out | refine below_set ?_ GE286.out | refine below_set ?_ GE287.out | refine below_set ?_ GE288.out) | exact HB.out)⟩⟩
      case rest =>
       clear HC61
       try clear c26; try clear hcz65_0; try clear hcz65_1; try clear hcz65_2; try clear hcz65_3; try clear hfz65_0; try clear hfz65_1; try clear hfz65_2; try clear hfz65_3
       obtain ⟨kq, x286001_60, HA, HJ60, BK285, BK286, BK287, BK288, HB⟩ := hcut
       cases kq with
       | zero => exact absurd HA.out (by simp [spec_l10Pair.j2])
       | succ kj60 =>
        have H := HA.out
        clear HA
        simp only [spec_l10Pair.j2] at H
        by_cases c71 : a1_2 > 0
        ·rw [if_pos c71] at H
         have c71b0 : decide (0 < a1_2) = true := decide_eq_true c71
         clear c71
         simp only [Option.some.injEq, Prod.mk.injEq] at H
         obtain ⟨rfl, rfl, rfl, rfl, rfl, rfl, rfl, rfl⟩ := H
         have hnb72 := NB286_285.out
         have hnc72 := NB285_286.out
         have hnb73 := NB286_287.out
         have hnc73 := NB287_286.out
         have hnb74 := NB286_288.out
         have hnc74 := NB288_286.out
         have hcz75_0 := cz BK286 0 (.int .i64 a1_0)
         have hcz75_1 := cz BK286 1 (.int .i64 a1_1)
         have hcz75_2 := cz BK286 2 (.int .i64 a1_2)
         have hcz75_3 := cz BK286 3 (.int .i64 a1_3)
         have hfz75_0 := fz BK286 0
         have hfz75_1 := fz BK286 1
         have hfz75_2 := fz BK286 2
         have hfz75_3 := fz BK286 3
         try go_wp2
         have n0_ : Aside0 ((wc.setCell ⟨gb286, 1, none⟩ (.int .i64 (wrap64 (a1_1 + x9_35)))).heap[gb285]? = some (.cells #[.int .i64 a0_0, .int .i64 x286001_60, .int .i64 a0_2, .int .i64 a0_3] 33 (0, 0))) := ⟨by refine bU ?_; refine blk_far ?_ NB285_286.out _; refine bU ?_; exact BK285.out⟩
         have n1_ : Aside0 ((wc.setCell ⟨gb286, 1, none⟩ (.int .i64 (wrap64 (a1_1 + x9_35)))).heap[gb286]? = some (.cells #[.int .i64 a1_0, .int .i64 (wrap64 (a1_1 + x9_35)), .int .i64 a1_2, .int .i64 a1_3] 33 (0, 0))) := ⟨by refine bU ?_; refine blk_put (cs := #[.int .i64 a1_0, .int .i64 a1_1, .int .i64 a1_2, .int .i64 a1_3]) ?_ 1 _ rfl; refine bU ?_; exact BK286.out⟩
         have n2_ : Aside0 ((wc.setCell ⟨gb286, 1, none⟩ (.int .i64 (wrap64 (a1_1 + x9_35)))).heap[gb287]? = some (.cells #[.int .i64 0, .int .i64 0, .int .i64 0, .int .i64 0] 33 (0, 0))) := ⟨by refine bU ?_; refine blk_far ?_ NB287_286.out _; refine bU ?_; exact BK287.out⟩
         have n3_ : Aside0 ((wc.setCell ⟨gb286, 1, none⟩ (.int .i64 (wrap64 (a1_1 + x9_35)))).heap[gb288]? = some (.cells #[.int .i64 0, .int .i64 0, .int .i64 0, .int .i64 0] 33 (0, 0))) := ⟨by refine bU ?_; refine blk_far ?_ NB288_286.out _; refine bU ?_; exact BK288.out⟩
         have n4_ : Aside0 (Below w.heap.size w (wc.setCell ⟨gb286, 1, none⟩ (.int .i64 (wrap64 (a1_1 + x9_35))))) := ⟨by repeat (first | (with_reducible first | exact HB.out | apply below_alloc | apply pw_below_drewN | apply below_drew1 | refine below_set ?_ GE285.out | refine below_set ?_ GE286.out | refine below_set ?_ GE287.out | refine below_set ?_ GE288.out) | exact HB.out)⟩
         (try clear BK285)
         (try clear BK286)
         (try clear BK287)
         (try clear BK288)
         (try clear HB)
         generalize (wc.setCell ⟨gb286, 1, none⟩ (.int .i64 (wrap64 (a1_1 + x9_35)))) = w76 at n0_ n1_ n2_ n3_ n4_ ⊢
         have BK285 := n0_
         have BK286 := n1_
         have BK287 := n2_
         have BK288 := n3_
         have HB := n4_
         clear n0_ n1_ n2_ n3_ n4_
         replace BK285 := Aside0.mk (blk_drew BK285.out)
         replace BK286 := Aside0.mk (blk_drew BK286.out)
         replace BK287 := Aside0.mk (blk_drew BK287.out)
         replace BK288 := Aside0.mk (blk_drew BK288.out)
         replace HB := Aside0.mk (below_drew1 HB.out)
         refine start_ (n := 4) (S := fun w' => w'.cell? ⟨gb285, 0, none⟩ = some (.int .i64 a0_0) ∧ w'.cell? ⟨gb285, 1, none⟩ = some (.int .i64 x286001_60) ∧ w'.cell? ⟨gb285, 2, none⟩ = some (.int .i64 a0_2) ∧ w'.cell? ⟨gb285, 3, none⟩ = some (.int .i64 a0_3) ∧ w'.cell? ⟨gb286, 0, none⟩ = some (.int .i64 a1_0) ∧ w'.cell? ⟨gb286, 1, none⟩ = some (.int .i64 (wrap64 (a1_1 + x9_35))) ∧ w'.cell? ⟨gb286, 2, none⟩ = some (.int .i64 a1_2) ∧ w'.cell? ⟨gb286, 3, none⟩ = some (.int .i64 a1_3)) (ds := []) #[false, false, false, false] (by kernel_rfl) rfl rfl ⟨cz BK285 0 _, cz BK285 1 _, cz BK285 2 _, cz BK285 3 _, cz BK286 0 _, cz BK286 1 _, cz BK286 2 _, cz BK286 3 _⟩ (fun hHeld => ?_)
         generalize w76.drew = w77 at BK285 BK286 BK287 BK288 HB hHeld ⊢
         refine take_ (i := 0) (N := some 86) (v := ?_) (a' := ?_) #[true, false, false, false] rfl rfl (by kernel_rfl) (fun _ _ _ h => h) (Or.inl ⟨by rfl, ?_⟩) hHeld ?_ ?_
         rotate_left
         ·rintro w' ⟨s0, s1, s2, s3, s4, s5, s6, s7⟩
          go_simp
          with_reducible rfl
         rotate_left
         ·simp only [Act.put, List.setIfInBounds_toArray, List.set_cons_zero, List.set_cons_succ, i64_w, i32_w]
          rfl
         refine take_ (i := 1) (N := some 87) (v := ?_) (a' := ?_) #[true, true, false, false] rfl rfl (by kernel_rfl) (fun _ _ _ h => h) (Or.inl ⟨by rfl, ?_⟩) hHeld ?_ ?_
         rotate_left
         ·rintro w' ⟨s0, s1, s2, s3, s4, s5, s6, s7⟩
          go_simp
          with_reducible rfl
         rotate_left
         ·simp only [Act.put, List.setIfInBounds_toArray, List.set_cons_zero, List.set_cons_succ, i64_w, i32_w]
          rfl
         refine one_ (i := 2) (N := none) #[true, true, true, false] rfl rfl (by kernel_rfl) (by decide) (fun K hK => ?_)
         have hs78 : w77.cell? ⟨gb287, 0, none⟩ = some (.int .i64 0) := (blk_cell BK287.out 0).trans rfl
         have hfs78 := blk_frozen BK287.out 0
         have hns78_0 := NB285_287.out
         have hns78_1 := NB286_287.out
         have hns78_3 := NB288_287.out
         have hms78_0 := NB287_285.out
         have hms78_1 := NB287_286.out
         have hms78_3 := NB287_288.out
         have hs79 : w77.cell? ⟨gb287, 1, none⟩ = some (.int .i64 0) := (blk_cell BK287.out 1).trans rfl
         have hfs79 := blk_frozen BK287.out 1
         have hns79_0 := NB285_287.out
         have hns79_1 := NB286_287.out
         have hns79_3 := NB288_287.out
         have hms79_0 := NB287_285.out
         have hms79_1 := NB287_286.out
         have hms79_3 := NB287_288.out
         have hs80 : w77.cell? ⟨gb287, 2, none⟩ = some (.int .i64 0) := (blk_cell BK287.out 2).trans rfl
         have hfs80 := blk_frozen BK287.out 2
         have hns80_0 := NB285_287.out
         have hns80_1 := NB286_287.out
         have hns80_3 := NB288_287.out
         have hms80_0 := NB287_285.out
         have hms80_1 := NB287_286.out
         have hms80_3 := NB287_288.out
         have hs81 : w77.cell? ⟨gb287, 3, none⟩ = some (.int .i64 0) := (blk_cell BK287.out 3).trans rfl
         have hfs81 := blk_frozen BK287.out 3
         have hns81_0 := NB285_287.out
         have hns81_1 := NB286_287.out
         have hns81_3 := NB288_287.out
         have hms81_0 := NB287_285.out
         have hms81_1 := NB287_286.out
         have hms81_3 := NB287_288.out
         refine skip_ (w1 := ?_) (by rfl) rfl ?_ ?_
         rotate_left
         ·go_simp
          rfl
         refine hK.out _ _ ⟨(cf4 NB285_287.out hHeld.1), (cf4 NB285_287.out hHeld.2.1), (cf4 NB285_287.out hHeld.2.2.1), (cf4 NB285_287.out hHeld.2.2.2.1), (cf4 NB286_287.out hHeld.2.2.2.2.1), (cf4 NB286_287.out hHeld.2.2.2.2.2.1), (cf4 NB286_287.out hHeld.2.2.2.2.2.2.1), (cf4 NB286_287.out hHeld.2.2.2.2.2.2.2)⟩ (fun hHeld => ?_)
         clear hK K
         refine one_ (i := 3) (N := none) #[true, true, true, true] rfl rfl (by kernel_rfl) (by decide) (fun K hK => ?_)
         have hs82 : w77.cell? ⟨gb288, 0, none⟩ = some (.int .i64 0) := (blk_cell BK288.out 0).trans rfl
         have hfs82 := blk_frozen BK288.out 0
         have hns82_0 := NB285_288.out
         have hns82_1 := NB286_288.out
         have hns82_2 := NB287_288.out
         have hms82_0 := NB288_285.out
         have hms82_1 := NB288_286.out
         have hms82_2 := NB288_287.out
         have hs83 : w77.cell? ⟨gb288, 1, none⟩ = some (.int .i64 0) := (blk_cell BK288.out 1).trans rfl
         have hfs83 := blk_frozen BK288.out 1
         have hns83_0 := NB285_288.out
         have hns83_1 := NB286_288.out
         have hns83_2 := NB287_288.out
         have hms83_0 := NB288_285.out
         have hms83_1 := NB288_286.out
         have hms83_2 := NB288_287.out
         have hs84 : w77.cell? ⟨gb288, 2, none⟩ = some (.int .i64 0) := (blk_cell BK288.out 2).trans rfl
         have hfs84 := blk_frozen BK288.out 2
         have hns84_0 := NB285_288.out
         have hns84_1 := NB286_288.out
         have hns84_2 := NB287_288.out
         have hms84_0 := NB288_285.out
         have hms84_1 := NB288_286.out
         have hms84_2 := NB288_287.out
         have hs85 : w77.cell? ⟨gb288, 3, none⟩ = some (.int .i64 0) := (blk_cell BK288.out 3).trans rfl
         have hfs85 := blk_frozen BK288.out 3
         have hns85_0 := NB285_288.out
         have hns85_1 := NB286_288.out
         have hns85_2 := NB287_288.out
         have hms85_0 := NB288_285.out
         have hms85_1 := NB288_286.out
         have hms85_2 := NB288_287.out
         refine skip_ (w1 := ?_) (by rfl) rfl ?_ ?_
         rotate_left
         ·go_simp
          rfl
         refine hK.out _ _ ⟨(cf4 NB285_288.out hHeld.1), (cf4 NB285_288.out hHeld.2.1), (cf4 NB285_288.out hHeld.2.2.1), (cf4 NB285_288.out hHeld.2.2.2.1), (cf4 NB286_288.out hHeld.2.2.2.2.1), (cf4 NB286_288.out hHeld.2.2.2.2.2.1), (cf4 NB286_288.out hHeld.2.2.2.2.2.2.1), (cf4 NB286_288.out hHeld.2.2.2.2.2.2.2)⟩ (fun hHeld => ?_)
         clear hK K
         refine done_ (by kernel_rfl) ?_
         try go_wp2
         refine bodyPost_ret (results_cc rfl _ _ gb287 gb288 33 33 #[.int .i64 a0_0, .int .i64 x286001_60, .int .i64 a0_2, .int .i64 a0_3] #[.int .i64 a1_0, .int .i64 (wrap64 (a1_1 + x9_35)), .int .i64 a1_2, .int .i64 a1_3] (0, 0) (0, 0) _ _ rfl (by refine bU ?_; refine blk_far ?_ NB287_288.out _; refine bU ?_; refine blk_far ?_ NB287_288.out _; refine bU ?_; refine blk_far ?_ NB287_288.out _; refine bU ?_; refine blk_far ?_ NB287_288.out _; refine bU ?_; refine blk_put (cs := #[.int .i64 a0_0, .int .i64 x286001_60, .int .i64 a0_2, .int .i64 0]) ?_ 3 _ rfl; refine bU ?_; refine blk_put (cs := #[.int .i64 a0_0, .int .i64 x286001_60, .int .i64 0, .int .i64 0]) ?_ 2 _ rfl; refine bU ?_; refine blk_put (cs := #[.int .i64 a0_0, .int .i64 0, .int .i64 0, .int .i64 0]) ?_ 1 _ rfl; refine bU ?_; refine blk_put (cs := #[.int .i64 0, .int .i64 0, .int .i64 0, .int .i64 0]) ?_ 0 _ rfl; refine bU ?_; exact BK287.out) Try.underlying33 rfl (by kernel_rfl) rfl (by refine bU ?_; refine blk_put (cs := #[.int .i64 a1_0, .int .i64 (wrap64 (a1_1 + x9_35)), .int .i64 a1_2, .int .i64 0]) ?_ 3 _ rfl; refine bU ?_; refine blk_put (cs := #[.int .i64 a1_0, .int .i64 (wrap64 (a1_1 + x9_35)), .int .i64 0, .int .i64 0]) ?_ 2 _ rfl; refine bU ?_; refine blk_put (cs := #[.int .i64 a1_0, .int .i64 0, .int .i64 0, .int .i64 0]) ?_ 1 _ rfl; refine bU ?_; refine blk_put (cs := #[.int .i64 0, .int .i64 0, .int .i64 0, .int .i64 0]) ?_ 0 _ rfl; refine bU ?_; refine blk_far ?_ NB288_287.out _; refine bU ?_; refine blk_far ?_ NB288_287.out _; refine bU ?_; refine blk_far ?_ NB288_287.out _; refine bU ?_; refine blk_far ?_ NB288_287.out _; refine bU ?_; exact BK288.out) Try.underlying33 rfl (by kernel_rfl)) rfl ?_
         exact ⟨eE, lV4 GE285 GE286 GE287 GE288⟩
        ·rw [if_neg c71] at H
         have c71b0 : decide (0 < a1_2) = false := decide_eq_false c71
         clear c71
         simp only [Option.some.injEq, Prod.mk.injEq] at H
         obtain ⟨rfl, rfl, rfl, rfl, rfl, rfl, rfl, rfl⟩ := H
         have hnb86 := NB286_285.out
         have hnc86 := NB285_286.out
         have hnb87 := NB286_287.out
         have hnc87 := NB287_286.out
         have hnb88 := NB286_288.out
         have hnc88 := NB288_286.out
         have hcz89_0 := cz BK286 0 (.int .i64 a1_0)
         have hcz89_1 := cz BK286 1 (.int .i64 a1_1)
         have hcz89_2 := cz BK286 2 (.int .i64 a1_2)
         have hcz89_3 := cz BK286 3 (.int .i64 a1_3)
         have hfz89_0 := fz BK286 0
         have hfz89_1 := fz BK286 1
         have hfz89_2 := fz BK286 2
         have hfz89_3 := fz BK286 3
         try go_wp2
         replace BK285 := Aside0.mk (blk_drew BK285.out)
         replace BK286 := Aside0.mk (blk_drew BK286.out)
         replace BK287 := Aside0.mk (blk_drew BK287.out)
         replace BK288 := Aside0.mk (blk_drew BK288.out)
         replace HB := Aside0.mk (below_drew1 HB.out)
         refine start_ (n := 4) (S := fun w' => w'.cell? ⟨gb285, 0, none⟩ = some (.int .i64 a0_0) ∧ w'.cell? ⟨gb285, 1, none⟩ = some (.int .i64 x286001_60) ∧ w'.cell? ⟨gb285, 2, none⟩ = some (.int .i64 a0_2) ∧ w'.cell? ⟨gb285, 3, none⟩ = some (.int .i64 a0_3) ∧ w'.cell? ⟨gb286, 0, none⟩ = some (.int .i64 a1_0) ∧ w'.cell? ⟨gb286, 1, none⟩ = some (.int .i64 a1_1) ∧ w'.cell? ⟨gb286, 2, none⟩ = some (.int .i64 a1_2) ∧ w'.cell? ⟨gb286, 3, none⟩ = some (.int .i64 a1_3)) (ds := []) #[false, false, false, false] (by kernel_rfl) rfl rfl ⟨cz BK285 0 _, cz BK285 1 _, cz BK285 2 _, cz BK285 3 _, cz BK286 0 _, cz BK286 1 _, cz BK286 2 _, cz BK286 3 _⟩ (fun hHeld => ?_)
         generalize wc.drew = w90 at BK285 BK286 BK287 BK288 HB hHeld ⊢
         refine take_ (i := 0) (N := some 86) (v := ?_) (a' := ?_) #[true, false, false, false] rfl rfl (by kernel_rfl) (fun _ _ _ h => h) (Or.inl ⟨by rfl, ?_⟩) hHeld ?_ ?_
         rotate_left
         ·rintro w' ⟨s0, s1, s2, s3, s4, s5, s6, s7⟩
          go_simp
          with_reducible rfl
         rotate_left
         ·simp only [Act.put, List.setIfInBounds_toArray, List.set_cons_zero, List.set_cons_succ, i64_w, i32_w]
          rfl
         refine take_ (i := 1) (N := some 87) (v := ?_) (a' := ?_) #[true, true, false, false] rfl rfl (by kernel_rfl) (fun _ _ _ h => h) (Or.inl ⟨by rfl, ?_⟩) hHeld ?_ ?_
         rotate_left
         ·rintro w' ⟨s0, s1, s2, s3, s4, s5, s6, s7⟩
          go_simp
          with_reducible rfl
         rotate_left
         ·simp only [Act.put, List.setIfInBounds_toArray, List.set_cons_zero, List.set_cons_succ, i64_w, i32_w]
          rfl
         refine one_ (i := 2) (N := none) #[true, true, true, false] rfl rfl (by kernel_rfl) (by decide) (fun K hK => ?_)
         have hs91 : w90.cell? ⟨gb287, 0, none⟩ = some (.int .i64 0) := (blk_cell BK287.out 0).trans rfl
         have hfs91 := blk_frozen BK287.out 0
         have hns91_0 := NB285_287.out
         have hns91_1 := NB286_287.out
         have hns91_3 := NB288_287.out
         have hms91_0 := NB287_285.out
         have hms91_1 := NB287_286.out
         have hms91_3 := NB287_288.out
         have hs92 : w90.cell? ⟨gb287, 1, none⟩ = some (.int .i64 0) := (blk_cell BK287.out 1).trans rfl
         have hfs92 := blk_frozen BK287.out 1
         have hns92_0 := NB285_287.out
         have hns92_1 := NB286_287.out
         have hns92_3 := NB288_287.out
         have hms92_0 := NB287_285.out
         have hms92_1 := NB287_286.out
         have hms92_3 := NB287_288.out
         have hs93 : w90.cell? ⟨gb287, 2, none⟩ = some (.int .i64 0) := (blk_cell BK287.out 2).trans rfl
         have hfs93 := blk_frozen BK287.out 2
         have hns93_0 := NB285_287.out
         have hns93_1 := NB286_287.out
         have hns93_3 := NB288_287.out
         have hms93_0 := NB287_285.out
         have hms93_1 := NB287_286.out
         have hms93_3 := NB287_288.out
         have hs94 : w90.cell? ⟨gb287, 3, none⟩ = some (.int .i64 0) := (blk_cell BK287.out 3).trans rfl
         have hfs94 := blk_frozen BK287.out 3
         have hns94_0 := NB285_287.out
         have hns94_1 := NB286_287.out
         have hns94_3 := NB288_287.out
         have hms94_0 := NB287_285.out
         have hms94_1 := NB287_286.out
         have hms94_3 := NB287_288.out
         refine skip_ (w1 := ?_) (by rfl) rfl ?_ ?_
         rotate_left
         ·go_simp
          rfl
         refine hK.out _ _ ⟨(cf4 NB285_287.out hHeld.1), (cf4 NB285_287.out hHeld.2.1), (cf4 NB285_287.out hHeld.2.2.1), (cf4 NB285_287.out hHeld.2.2.2.1), (cf4 NB286_287.out hHeld.2.2.2.2.1), (cf4 NB286_287.out hHeld.2.2.2.2.2.1), (cf4 NB286_287.out hHeld.2.2.2.2.2.2.1), (cf4 NB286_287.out hHeld.2.2.2.2.2.2.2)⟩ (fun hHeld => ?_)
         clear hK K
         refine one_ (i := 3) (N := none) #[true, true, true, true] rfl rfl (by kernel_rfl) (by decide) (fun K hK => ?_)
         have hs95 : w90.cell? ⟨gb288, 0, none⟩ = some (.int .i64 0) := (blk_cell BK288.out 0).trans rfl
         have hfs95 := blk_frozen BK288.out 0
         have hns95_0 := NB285_288.out
         have hns95_1 := NB286_288.out
         have hns95_2 := NB287_288.out
         have hms95_0 := NB288_285.out
         have hms95_1 := NB288_286.out
         have hms95_2 := NB288_287.out
         have hs96 : w90.cell? ⟨gb288, 1, none⟩ = some (.int .i64 0) := (blk_cell BK288.out 1).trans rfl
         have hfs96 := blk_frozen BK288.out 1
         have hns96_0 := NB285_288.out
         have hns96_1 := NB286_288.out
         have hns96_2 := NB287_288.out
         have hms96_0 := NB288_285.out
         have hms96_1 := NB288_286.out
         have hms96_2 := NB288_287.out
         have hs97 : w90.cell? ⟨gb288, 2, none⟩ = some (.int .i64 0) := (blk_cell BK288.out 2).trans rfl
         have hfs97 := blk_frozen BK288.out 2
         have hns97_0 := NB285_288.out
         have hns97_1 := NB286_288.out
         have hns97_2 := NB287_288.out
         have hms97_0 := NB288_285.out
         have hms97_1 := NB288_286.out
         have hms97_2 := NB288_287.out
         have hs98 : w90.cell? ⟨gb288, 3, none⟩ = some (.int .i64 0) := (blk_cell BK288.out 3).trans rfl
         have hfs98 := blk_frozen BK288.out 3
         have hns98_0 := NB285_288.out
         have hns98_1 := NB286_288.out
         have hns98_2 := NB287_288.out
         have hms98_0 := NB288_285.out
         have hms98_1 := NB288_286.out
         have hms98_2 := NB288_287.out
         refine skip_ (w1 := ?_) (by rfl) rfl ?_ ?_
         rotate_left
         ·go_simp
          rfl
         refine hK.out _ _ ⟨(cf4 NB285_288.out hHeld.1), (cf4 NB285_288.out hHeld.2.1), (cf4 NB285_288.out hHeld.2.2.1), (cf4 NB285_288.out hHeld.2.2.2.1), (cf4 NB286_288.out hHeld.2.2.2.2.1), (cf4 NB286_288.out hHeld.2.2.2.2.2.1), (cf4 NB286_288.out hHeld.2.2.2.2.2.2.1), (cf4 NB286_288.out hHeld.2.2.2.2.2.2.2)⟩ (fun hHeld => ?_)
         clear hK K
         refine done_ (by kernel_rfl) ?_
         try go_wp2
         refine bodyPost_ret (results_cc rfl _ _ gb287 gb288 33 33 #[.int .i64 a0_0, .int .i64 x286001_60, .int .i64 a0_2, .int .i64 a0_3] #[.int .i64 a1_0, .int .i64 a1_1, .int .i64 a1_2, .int .i64 a1_3] (0, 0) (0, 0) _ _ rfl (by refine bU ?_; refine blk_far ?_ NB287_288.out _; refine bU ?_; refine blk_far ?_ NB287_288.out _; refine bU ?_; refine blk_far ?_ NB287_288.out _; refine bU ?_; refine blk_far ?_ NB287_288.out _; refine bU ?_; refine blk_put (cs := #[.int .i64 a0_0, .int .i64 x286001_60, .int .i64 a0_2, .int .i64 0]) ?_ 3 _ rfl; refine bU ?_; refine blk_put (cs := #[.int .i64 a0_0, .int .i64 x286001_60, .int .i64 0, .int .i64 0]) ?_ 2 _ rfl; refine bU ?_; refine blk_put (cs := #[.int .i64 a0_0, .int .i64 0, .int .i64 0, .int .i64 0]) ?_ 1 _ rfl; refine bU ?_; refine blk_put (cs := #[.int .i64 0, .int .i64 0, .int .i64 0, .int .i64 0]) ?_ 0 _ rfl; refine bU ?_; exact BK287.out) Try.underlying33 rfl (by kernel_rfl) rfl (by refine bU ?_; refine blk_put (cs := #[.int .i64 a1_0, .int .i64 a1_1, .int .i64 a1_2, .int .i64 0]) ?_ 3 _ rfl; refine bU ?_; refine blk_put (cs := #[.int .i64 a1_0, .int .i64 a1_1, .int .i64 0, .int .i64 0]) ?_ 2 _ rfl; refine bU ?_; refine blk_put (cs := #[.int .i64 a1_0, .int .i64 0, .int .i64 0, .int .i64 0]) ?_ 1 _ rfl; refine bU ?_; refine blk_put (cs := #[.int .i64 0, .int .i64 0, .int .i64 0, .int .i64 0]) ?_ 0 _ rfl; refine bU ?_; refine blk_far ?_ NB288_287.out _; refine bU ?_; refine blk_far ?_ NB288_287.out _; refine bU ?_; refine blk_far ?_ NB288_287.out _; refine bU ?_; refine blk_far ?_ NB288_287.out _; refine bU ?_; exact BK288.out) Try.underlying33 rfl (by kernel_rfl)) rfl ?_
         exact ⟨eE, lV4 GE285 GE286 GE287 GE288⟩
end Go.Proofs.Ytnacjhgpanedoab.PFnPushed
