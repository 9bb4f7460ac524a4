/- Texts of a row. -/
import Derived.Test.YtjjbkebodkjnkaaZFnExactLoadSave3
import Derived.Test.YtjjbkebodkjnkaaZFnExactLoadSave4
namespace Go.Proofs.Ytjjbkebodkjnkaa.PFnExactLoadSave
open Go.RowKit Go.Proofs.YtjjbkebodkjnkaaW.PrintWords Go.Proofs.YtjjbkebodkjnkaaW.PrintLast Go.Proofs.YtjjbkebodkjnkaaW.PrintMore
attribute [local go_sem] max2_int min2_int max_two min_two max_three min_three max_four min_four
set_option linter.unusedVariables false
set_option linter.unusedSimpArgs false
def spec_LoadSave.f (k : Nat) (l0 : List Int) (l1 : List (S45)) : Option ((List (S49)) × Int) := (spec_ReadSave.f k l0).bind fun bt215 => (if bt215.2.2 = 0 then (if bt215.1 > 3 then (some (([] : List (S49)), 4)) else ((spec_MigrateSave.f k bt215.1 bt215.2.1 l1).bind fun bt220 => (if bt220.2 = true then (some (bt220.1, 0)) else (some (([] : List (S49)), 6))))) else (some (([] : List (S49)), bt215.2.2)))
theorem spec_LoadSave.mono : ∀ a0 a1 k, LeO (spec_LoadSave.f k a0 a1) (spec_LoadSave.f (k + 1) a0 a1) := by
 intro a0 a1 k
 unfold spec_LoadSave.f
 repeat' first
   | (with_reducible exact spec_MigrateSave.mono _ _ _ _)
   | (with_reducible exact spec_ReadSave.mono _ _)
   | (with_reducible first | exact LeO.refl _ | exact LeO.none _ | refine LeO.ite ?_ ?_ | refine LeO.bind ?_ (fun _ => ?_))
   | exact spec_MigrateSave.mono _ _ _ _
   | exact spec_ReadSave.mono _ _ | exact LeO.none _ | refine LeO.ite ?_ ?_ | refine LeO.bind ?_ (fun _ => ?_)
set_option maxHeartbeats 8000000 in
set_option maxRecDepth 100000 in
theorem spec_LoadSave.calls (k : Nat) (A0 : Option Addr) (c0 : Nat) (l0 : List Int) (A1 : Option Addr) (c1 : Nat) (l1 : List (S45)) (r1 : List (S49)) (r2 : Int) (w : World) (hr0 : Kd.C (Kd.int .u8) w A0 l0.length l0) (hc0 : l0.length ≤ c0) (hr1 : Kd.C k45 w A1 l1.length l1) (hc1 : l1.length ≤ c1) (h : spec_LoadSave.f k l0 l1 = some (r1, r2)) :
  Calls Try.prog 5 #[.slice A0 l0.length c0, .slice A1 l1.length c1] w fun e w' => ∃ v0_ : Value, e = .returned (.tuple #[v0_, .int .i64 r2]) ∧ Kd.R k49 49 w' w.heap.size (fun _ => True) v0_ r1 ∧ Below w.heap.size w w' := by
 have HR0 := Aside0.mk hr0
 have HC0 := Aside0.mk hc0
 clear hr0 hc0
 have HR1 := Aside0.mk hr1
 have HC1 := Aside0.mk hc1
 clear hr1 hc1
 have HB := Aside0.mk (Below.refl w.heap.size w)
 have H : ((spec_ReadSave.f k l0).bind fun bt215 => (if bt215.2.2 = 0 then (if bt215.1 > 3 then (some (([] : List (S49)), 4)) else ((spec_MigrateSave.f k bt215.1 bt215.2.1 l1).bind fun bt220 => (if bt220.2 = true then (some (bt220.1, 0)) else (some (([] : List (S49)), 6))))) else (some (([] : List (S49)), bt215.2.2)))) = some (r1, r2) := h
 clear h
 replace H := Option.bind_eq_some_iff.mp H
 obtain ⟨⟨t215, t216, t217⟩, A30, H⟩ := H
 replace H : (if t217 = 0 then (if t215 > 3 then (some (([] : List (S49)), 4)) else ((spec_MigrateSave.f k t215 t216 l1).bind fun bt220 => (if bt220.2 = true then (some (bt220.1, 0)) else (some (([] : List (S49)), 6))))) else (some (([] : List (S49)), t217))) = some (r1, r2) := H
 have A3 := Aside0.mk A30
 clear A30
 by_cases c4 : t217 = 0
 ·rw [if_pos c4] at H
  have c4b0 : (t217 == 0) = true := beq_iff_eq.mpr c4
  have c4b1 : (t217 != 0) = false := bne_eq_false_iff_eq.mpr c4
  clear c4
  by_cases c5 : t215 > 3
  ·rw [if_pos c5] at H
   have c5b0 : decide (3 < t215) = true := decide_eq_true c5
   clear c5
   simp only [Option.some.injEq, Prod.mk.injEq] at H
   obtain ⟨rfl, rfl⟩ := H
   go_enter Try.func5, Try.ntmps5
   go_wp2_with (first | ((with_reducible refine gate_callee (f := 17) rfl ?_); refine goesL_ (some 13) rfl rfl Try.func17 (by kernel_rfl) rfl #[.slice A0 l0.length c0] rfl aE ?_; (with_reducible refine (spec_ReadSave.calls k _ _ l0 t215 t216 t217 _ ?side1 ?side2 A3.out).mono ?_); (case side1 => repeat (first | exact HR0.out | (with_reducible refine Kd.C_alloc ?_ _) | (with_reducible refine Kd.C_drewN ?_ _) | (with_reducible refine Kd.C_drew ?_))); (case side2 => exact HC0.out); rintro e w6 ⟨v218, rfl, ho0, hb⟩; refine ⟨_, rfl, ?_⟩; have HO219 := Aside0.mk (Kd.R_lower ho0 (below_size (lU))); replace HB := bH (lU) hb; (try clear hb); (try clear ho0)))
   go_ret2
   exact ⟨_, eE, by first | exact Kd.R_nil _ _ _ _ _ | exact Kd.N_nil _ _ _ _ _ | exact Kd.V_nil _ _ _ _ _ | exact Kd.Q_nil _ _ _ _ _ | exact Kd.S_nil _ _ _ _ _, lU⟩
  ·rw [if_neg c5] at H
   have c5b0 : decide (3 < t215) = false := decide_eq_false c5
   clear c5
   replace H := Option.bind_eq_some_iff.mp H
   obtain ⟨⟨t220, t221⟩, A70, H⟩ := H
   replace H : (if t221 = true then (some (t220, 0)) else (some (([] : List (S49)), 6))) = some (r1, r2) := H
   have A7 := Aside0.mk A70
   clear A70
   by_cases c8 : t221 = true
   ·subst c8
    have H1 : (some (t220, 0)) = some (r1, r2) := by rw [if_pos rfl] at H; exact H
    clear H
    have H := H1
    clear H1
    simp only [Option.some.injEq, Prod.mk.injEq] at H
    obtain ⟨rfl, rfl⟩ := H
    go_enter Try.func5, Try.ntmps5
    go_wp2_with (first | ((with_reducible refine gate_callee (f := 17) rfl ?_); refine goesL_ (some 13) rfl rfl Try.func17 (by kernel_rfl) rfl #[.slice A0 l0.length c0] rfl aE ?_; (with_reducible refine (spec_ReadSave.calls k _ _ l0 t215 t216 t217 _ ?side1 ?side2 A3.out).mono ?_); (case side1 => repeat (first | exact HR0.out | (with_reducible refine Kd.C_alloc ?_ _) | (with_reducible refine Kd.C_drewN ?_ _) | (with_reducible refine Kd.C_drew ?_))); (case side2 => exact HC0.out); rintro e w9 ⟨v218, rfl, ho0, hb⟩; refine ⟨_, rfl, ?_⟩; have HO219 := Aside0.mk (Kd.R_lower ho0 (below_size (lU))); replace HB := bH (lU) hb; (try clear hb); (try clear ho0); obtain ⟨Ao10, co10, eo10⟩ := Kd.R_slice HO219.out; subst eo10) | ((with_reducible refine gate_callee (f := 18) rfl ?_); refine goesL_ (some 26) rfl rfl Try.func18 (by kernel_rfl) rfl #[.int .i64 t215, .slice Ao10 t216.length co10, .slice A1 l1.length c1] rfl aE ?_; (with_reducible refine (spec_MigrateSave.calls k t215 _ _ t216 _ _ l1 t220 true _ ?side1 ?side2 ?side3 ?side4 A7.out).mono ?_); (case side1 => exact cU (Kd.R_reads' HO219.out).2.2); (case side2 => exact (Kd.R_reads' HO219.out).2.1); (case side3 => exact cU (Kd.C_below HR1.out HB.out)); (case side4 => exact HC1.out); rintro e w11 ⟨v222, rfl, ho0, hb⟩; refine ⟨_, rfl, ?_⟩; have HO223 := Aside0.mk (Kd.R_lower (Kd.R_new' ho0 (Kd.R_lt (rU HO219.out))) (below_size (lU))); replace HO219 := Aside0.mk (Kd.R_elder' (rU HO219.out) (Kd.R_base ho0) hb); replace HB := bH (lU) hb; (try clear hb); (try clear ho0)))
    go_ret2
    exact ⟨_, eE, by (with_reducible repeat (first | apply Kd.R_alloc | apply Kd.R_drewN | apply Kd.R_drew)); exact Kd.R_mono HO223.out (fun _ hk => trivial), lU⟩
   ·replace c8 := Bool.eq_false_iff.mpr c8
    subst c8
    have H1 : (some (([] : List (S49)), 6)) = some (r1, r2) := by rw [if_neg (show ¬ (false = true) by decide)] at H; exact H
    clear H
    have H := H1
    clear H1
    simp only [Option.some.injEq, Prod.mk.injEq] at H
    obtain ⟨rfl, rfl⟩ := H
    go_enter Try.func5, Try.ntmps5
    go_wp2_with (first | ((with_reducible refine gate_callee (f := 17) rfl ?_); refine goesL_ (some 13) rfl rfl Try.func17 (by kernel_rfl) rfl #[.slice A0 l0.length c0] rfl aE ?_; (with_reducible refine (spec_ReadSave.calls k _ _ l0 t215 t216 t217 _ ?side1 ?side2 A3.out).mono ?_); (case side1 => repeat (first | exact HR0.out | (with_reducible refine Kd.C_alloc ?_ _) | (with_reducible refine Kd.C_drewN ?_ _) | (with_reducible refine Kd.C_drew ?_))); (case side2 => exact HC0.out); rintro e w12 ⟨v218, rfl, ho0, hb⟩; refine ⟨_, rfl, ?_⟩; have HO219 := Aside0.mk (Kd.R_lower ho0 (below_size (lU))); replace HB := bH (lU) hb; (try clear hb); (try clear ho0); obtain ⟨Ao13, co13, eo13⟩ := Kd.R_slice HO219.out; subst eo13) | ((with_reducible refine gate_callee (f := 18) rfl ?_); refine goesL_ (some 26) rfl rfl Try.func18 (by kernel_rfl) rfl #[.int .i64 t215, .slice Ao13 t216.length co13, .slice A1 l1.length c1] rfl aE ?_; (with_reducible refine (spec_MigrateSave.calls k t215 _ _ t216 _ _ l1 t220 false _ ?side1 ?side2 ?side3 ?side4 A7.out).mono ?_); (case side1 => exact cU (Kd.R_reads' HO219.out).2.2); (case side2 => exact (Kd.R_reads' HO219.out).2.1); (case side3 => exact cU (Kd.C_below HR1.out HB.out)); (case side4 => exact HC1.out); rintro e w14 ⟨v222, rfl, ho0, hb⟩; refine ⟨_, rfl, ?_⟩; have HO223 := Aside0.mk (Kd.R_lower (Kd.R_new' ho0 (Kd.R_lt (rU HO219.out))) (below_size (lU))); replace HO219 := Aside0.mk (Kd.R_elder' (rU HO219.out) (Kd.R_base ho0) hb); replace HB := bH (lU) hb; (try clear hb); (try clear ho0)))
    go_ret2
    exact ⟨_, eE, by first | exact Kd.R_nil _ _ _ _ _ | exact Kd.N_nil _ _ _ _ _ | exact Kd.V_nil _ _ _ _ _ | exact Kd.Q_nil _ _ _ _ _ | exact Kd.S_nil _ _ _ _ _, lU⟩
 ·rw [if_neg c4] at H
  have c4b0 : (t217 == 0) = false := beq_eq_false_iff_ne.mpr c4
  have c4b1 : (t217 != 0) = true := bne_iff_ne.mpr c4
  simp only [Option.some.injEq, Prod.mk.injEq] at H
  obtain ⟨rfl, rfl⟩ := H
  go_enter Try.func5, Try.ntmps5
  go_wp2_with (first | ((with_reducible refine gate_callee (f := 17) rfl ?_); refine goesL_ (some 13) rfl rfl Try.func17 (by kernel_rfl) rfl #[.slice A0 l0.length c0] rfl aE ?_; (with_reducible refine (spec_ReadSave.calls k _ _ l0 t215 t216 t217 _ ?side1 ?side2 A3.out).mono ?_); (case side1 => repeat (first | exact HR0.out | (with_reducible refine Kd.C_alloc ?_ _) | (with_reducible refine Kd.C_drewN ?_ _) | (with_reducible refine Kd.C_drew ?_))); (case side2 => exact HC0.out); rintro e w15 ⟨v218, rfl, ho0, hb⟩; refine ⟨_, rfl, ?_⟩; have HO219 := Aside0.mk (Kd.R_lower ho0 (below_size (lU))); replace HB := bH (lU) hb; (try clear hb); (try clear ho0)))
  go_ret2
  exact ⟨_, eE, by first | exact Kd.R_nil _ _ _ _ _ | exact Kd.N_nil _ _ _ _ _ | exact Kd.V_nil _ _ _ _ _ | exact Kd.Q_nil _ _ _ _ _ | exact Kd.S_nil _ _ _ _ _, lU⟩
def laws_toByteS.l0 : Nat → List Int → List Int → Int → Option (List Int)
 | 0, _, _, _ => none
 | k + 1, x0, x3, x4 => if x4 < (x0.length : Int) then (if 0 ≤ x4 then (if x4 < (x3.length : Int) then (laws_toByteS.l0 k x0 (x3.set (x4 : Int).toNat (rd x0 x4)) (wrap64 (x4 + 1))) else (none)) else (none)) else (some x3)
def laws_toByteS.f (k : Nat) (l0 : List Int) : Option (List Int) := if 0 ≤ (l0.length : Int) then (if ((l0.length : Int) : Int).toNat ≤ 281474976710656 then (laws_toByteS.l0 k l0 (List.replicate ((l0.length : Int) : Int).toNat 0) 0) else (none)) else (none)
theorem laws_toByteS.mono_l : ∀ k, (∀ y0 y1 y2, LeO (laws_toByteS.l0 k y0 y1 y2) (laws_toByteS.l0 (k + 1) y0 y1 y2))
 | 0 => fun _ _ _ r h => by simp [laws_toByteS.l0] at h
 | k + 1 => by
  have ih0 := laws_toByteS.mono_l k
  ·intro y0 y1 y2
   unfold laws_toByteS.l0
   repeat' first
   | (with_reducible exact ih0 _ _ _)
   | (with_reducible first | exact LeO.refl _ | exact LeO.none _ | refine LeO.ite ?_ ?_ | refine LeO.bind ?_ (fun _ => ?_))
   | exact ih0 _ _ _ | exact LeO.none _ | refine LeO.ite ?_ ?_ | refine LeO.bind ?_ (fun _ => ?_)
theorem laws_toByteS.mono : ∀ a0 k, LeO (laws_toByteS.f k a0) (laws_toByteS.f (k + 1) a0) := by
 intro a0 k
 have ih0 := laws_toByteS.mono_l k
 unfold laws_toByteS.f
 repeat' first
   | (with_reducible exact ih0 _ _ _)
   | (with_reducible first | exact LeO.refl _ | exact LeO.none _ | refine LeO.ite ?_ ?_ | refine LeO.bind ?_ (fun _ => ?_))
   | exact ih0 _ _ _ | exact LeO.none _ | refine LeO.ite ?_ ?_ | refine LeO.bind ?_ (fun _ => ?_)
set_option maxHeartbeats 8000000 in
set_option maxRecDepth 100000 in
theorem laws_toByteS.calls (k : Nat) (A0 : Option Addr) (c0 : Nat) (l0 : List Int) (r : List Int) (w : World) (hr0 : Kd.C (Kd.int .u8) w A0 l0.length l0) (hc0 : l0.length ≤ c0) (h : laws_toByteS.f k l0 = some r) :
  Calls Try.prog 6 #[.slice A0 l0.length c0] w fun e w' => ∃ v0_ : Value, e = .returned (v0_) ∧ Kd.R (Kd.int .u8) 5 w' w.heap.size (fun _ => True) v0_ r ∧ Below w.heap.size w w' := by
 have HR0 := Aside0.mk hr0
 have HC0 := Aside0.mk hc0
 clear hr0 hc0
 have HB := Aside0.mk (Below.refl w.heap.size w)
 have H : (if 0 ≤ (l0.length : Int) then (if ((l0.length : Int) : Int).toNat ≤ 281474976710656 then (laws_toByteS.l0 k l0 (List.replicate ((l0.length : Int) : Int).toNat 0) 0) else (none)) else (none)) = some r := h
 clear h
 by_cases c2 : 0 ≤ (l0.length : Int)
 ·rw [if_pos c2] at H
  have c2b0 := eq_true c2
  have c2b1 : decide (0 ≤ (l0.length : Int)) = true := decide_eq_true c2
  clear c2
  by_cases c3 : ((l0.length : Int) : Int).toNat ≤ 281474976710656
  ·rw [if_pos c3] at H
   have c3b0 := eq_true c3
   have c3b1 : decide (((l0.length : Int) : Int).toNat ≤ 281474976710656) = true := decide_eq_true c3
   clear c3
   obtain ⟨y224, hy224⟩ : ∃ y_ : List Int, y_ = (List.replicate ((l0.length : Int) : Int).toNat 0) := ⟨_, rfl⟩
   replace H : (laws_toByteS.l0 k l0 y224 0) = some r := by first | (rw [hy224]; with_reducible exact H) | (have H2_ := (Option.bind_some _ _).symm.trans H; rw [hy224]; with_reducible exact H2_) | (have H2_ := (Option.bind_some _ _).symm.trans H; with_reducible exact H2_) | with_reducible exact H | (rw [hy224]; exact H) | exact H
   have Ny224 := Aside0.mk hy224
   clear hy224
   have H' := Aside0.mk H
   clear H
   go_enter Try.func6, Try.ntmps6
   go_wp2_with (first | ((with_reducible refine gate_dst (N := 7) rfl ?_); refine Kd.R_make (Kd.int .u8) _ 5 rfl (N := 7) rfl 22 _ _ rfl (l0.length : Int) rfl rfl Try.underlying22 (.int .u8 0) 1 info5 rfl (by decide) (by omega) 0 (ok := fun _ => True) (okp := fun _ => True) rfl (fun _ hk => hk) trivial (of_decide_eq_true hE) (Nat.le_trans (Nat.mul_le_mul_right _ (of_decide_eq_true hE : (l0.length : Int).toNat ≤ 281474976710656)) (by omega)) (Below.refl _ _) (Nat.le_refl _) ?_; intro v225 w4 ho5 hb hg_ hnew_; clear hg_ hnew_; (first | rw [← Ny224.out] at ho5 | (simp only [Int.reduceToNat] at ho5; rw [← Ny224.out] at ho5)); have HO226 := Aside0.mk (Kd.R_lower ho5 (below_size (lU))); replace HB := bH (lU) hb; clear hb ho5))
   (try simp only [Act.put, List.setIfInBounds_toArray, List.set_cons_zero, List.set_cons_succ])
   go_loopg [4] k (fun kq v4 w' => ∃ (x3_1 : List Int) (x4_1 : Int), v4 = .int .i64 x4_1 ∧ Aside0 (laws_toByteS.l0 kq l0 x3_1 x4_1 = some r) ∧ Aside0 (kq ≤ k) ∧ Aside0 (Kd.R (Kd.int .u8) 5 w' w.heap.size (fun _ => True) v225 x3_1) ∧ Aside0 (Below w.heap.size w w'))
   case atStart => exact ⟨(y224), (0), tE, H', ⟨Nat.le_refl _⟩, ⟨by (with_reducible repeat (first | apply Kd.R_alloc | apply Kd.R_drewN | apply Kd.R_drew)); exact HO226.out⟩, ⟨by repeat (first | (with_reducible first | exact HB.out | apply below_alloc | apply pw_below_drewN | apply below_drew1) | exact HB.out)⟩⟩
   case round =>
    clear H'
    try clear c2; try clear c2b0; try clear c2b1; try clear c3; try clear c3b0; try clear c3b1
    obtain ⟨x3_1, x4_1, rfl, HA, HK1, HO_3, HB⟩ := hrel
    cases gk with
    | zero => exact absurd HA.out (by simp [laws_toByteS.l0])
    | succ k1 =>
     have H := HA.out
     clear HA
     simp only [laws_toByteS.l0] at H
     by_cases c6 : x4_1 < (l0.length : Int)
     ·rw [if_pos c6] at H
      have c6b0 : decide (x4_1 < (l0.length : Int)) = true := decide_eq_true c6
      clear c6
      by_cases c7 : 0 ≤ x4_1
      ·rw [if_pos c7] at H
       have c7b0 : decide (0 ≤ x4_1) = true := decide_eq_true c7
       clear c7
       by_cases c8 : x4_1 < (x3_1.length : Int)
       ·rw [if_pos c8] at H
        have c8b0 : decide (x4_1 < (x3_1.length : Int)) = true := decide_eq_true c8
        clear c8
        obtain ⟨y228, hy228⟩ : ∃ y_ : List Int, y_ = (x3_1.set (x4_1 : Int).toNat (rd l0 x4_1)) := ⟨_, rfl⟩
        replace H : (laws_toByteS.l0 k1 l0 y228 (wrap64 (x4_1 + 1))) = some r := by first | (rw [hy228]; with_reducible exact H) | (have H2_ := (Option.bind_some _ _).symm.trans H; rw [hy228]; with_reducible exact H2_) | (have H2_ := (Option.bind_some _ _).symm.trans H; with_reducible exact H2_) | with_reducible exact H | (rw [hy228]; exact H) | exact H
        have Ny228 := Aside0.mk hy228
        clear hy228
        have H' := Aside0.mk H
        clear H
        have p227 : 0 ≤ (x4_1 : Int) := of_decide_eq_true hE
        have q227 : x4_1 < (l0.length : Int) := of_decide_eq_true hE
        obtain ⟨ad227, e227, hx227_0⟩ := Kd.at_int HR0.out x4_1 p227 q227
        cases e227
        replace hx227_0 := (HB.out.cell (World.block_lt_of_cell? w _ hx227_0)).trans hx227_0
        replace p227 := eq_true p227
        replace q227 := eq_true q227
        have p9 : 0 ≤ (x4_1 : Int) := of_decide_eq_true hE
        have q9 : (x4_1 : Int) < ((x3_1.length : Int) : Int) := of_decide_eq_true hE
        obtain ⟨go9, co9, eo9, gb9, gl9, cl9, HG9⟩ := Kd.R_form HO_3.out (by omega)
        (first | cases eo9 | (injection eo9 with ea_ en_ ec_; (first | subst ea_ | (injection ea_ with ea_; subst ea_)); subst ec_; clear en_))
        have GB9 := Aside0.mk gb9
        have GG9 := Aside0.mk HG9
        clear gb9 gl9 HG9
        obtain ⟨hx9_0, hf9_0⟩ := Kd.R_celln 0 HO_3.out (x4_1 : Int) p9 q9
        replace p9 := eq_true p9
        replace q9 := eq_true q9
        have HP10 := Kd.R_putg HO_3.out (x4_1 : Int) (rd l0 x4_1)
        go_wp2_with (first | ((with_reducible refine gate_store (t := 5) (p := 20) rfl ?_); refine store_event (t := 5) (p := 20) (v := ?vo_w11) (w1 := (wr.setCell ⟨go9, (x4_1 : Int).toNat, none⟩ (.int .u8 (rd l0 x4_1)))) ?hg ?ho ?hn ?hr ?_; (case ho => rfl); (case hg => rfl); (case hn => rfl); (case hr => exact sE); intro w11 hw; have hg : wr.grownBy w11 (some go9) := (by rw [hw]; exact HP10.2); have hp_ : Kd.R (Kd.int .u8) 5 w11 w.heap.size (fun _ => True) (.slice (some ⟨go9, 0, none⟩) x3_1.length co9) y228 := (by rw [hw, Ny228.out]; exact HP10.1); clear HP10; replace HO_3 := Aside0.mk hp_; replace HB := Aside0.mk ((by rw [hw]; exact below_set (HB.out) GB9.out : Below w.heap.size w w11)); clear hg hw hp_))
        go_roundg k1
        case measure => have := HK1.out; omega
        case rel => exact ⟨(y228), (wrap64 (x4_1 + 1)), tE, H', ⟨by have := HK1.out; omega⟩, ⟨by (with_reducible repeat (first | apply Kd.R_alloc | apply Kd.R_drewN | apply Kd.R_drew)); exact HO_3.out⟩, ⟨by repeat (first | (with_reducible first | exact HB.out | apply below_alloc | apply pw_below_drewN | apply below_drew1) | exact HB.out)⟩⟩
       ·rw [if_neg c8] at H
        exact absurd H (by simp)
      ·rw [if_neg c7] at H
       exact absurd H (by simp)
     ·rw [if_neg c6] at H
      have c6b0 : decide (x4_1 < (l0.length : Int)) = false := decide_eq_false c6
      clear c6
      obtain rfl := Option.some.inj H
      go_wp2
      go_ret
      exact ⟨_, eE, by (with_reducible repeat (first | apply Kd.R_alloc | apply Kd.R_drewN | apply Kd.R_drew)); exact HO_3.out, lU⟩
  ·rw [if_neg c3] at H
   exact absurd H (by simp)
 ·rw [if_neg c2] at H
  exact absurd H (by simp)
def laws_toChange.f (a0_0 : Int) (a0_1 : Int) (a0_2 : ByteArray) (a0_3 : ByteArray) (a0_4 : Int) : Option (Int × Int × ByteArray × ByteArray × Int) := some (a0_0, a0_1, a0_2, a0_3, a0_4)
set_option maxHeartbeats 8000000 in
set_option maxRecDepth 100000 in
theorem laws_toChange.calls (a0_0 : Int) (a0_1 : Int) (a0_2 : ByteArray) (a0_3 : ByteArray) (a0_4 : Int) (r1 : Int) (r2 : Int) (r3 : ByteArray) (r4 : ByteArray) (r5 : Int) (w : World) (h : laws_toChange.f a0_0 a0_1 a0_2 a0_3 a0_4 = some (r1, r2, r3, r4, r5)) :
  Calls Try.prog 19 #[.agg #[.int .i64 a0_0, .int .i64 a0_1, .string a0_2, .string a0_3, .int .i64 a0_4]] w fun e w' => e = .returned (.agg #[.int .i64 r1, .int .i64 r2, .string r3, .string r4, .int .i64 r5]) ∧ Below w.heap.size w w' := by
 have hu40 := Try.underlying40
 have hu45 := Try.underlying45
 have HB := Aside0.mk (Below.refl w.heap.size w)
 have H : (some (a0_0, a0_1, a0_2, a0_3, a0_4)) = some (r1, r2, r3, r4, r5) := h
 clear h
 simp only [Option.some.injEq, Prod.mk.injEq] at H
 obtain ⟨rfl, rfl, rfl, rfl, rfl⟩ := H
 go_enter Try.func19, Try.ntmps19
 go_wp2_with (first | ((with_reducible refine gate_dst (N := 1) rfl ?_); refine box_event rfl (N := 1) rfl (cs := #[.int .i64 a0_0, .int .i64 a0_1, .string a0_2, .string a0_3, .int .i64 a0_4]) (t := 40) sE ?_; intro gb229 hg w2 hbox hb; have BK229 := Aside0.mk hbox; have GW229 := gS w hg (lU); have GE229 := gS w hg (lU); replace HB := bH (lU) hb; clear hb hbox hg) | ((with_reducible refine gate_dst (N := 2) rfl ?_); refine box_event rfl (N := 2) rfl (cs := #[.int .i64 0, .int .i64 0, .string (⟨#[]⟩ : ByteArray), .string (⟨#[]⟩ : ByteArray), .int .i64 0]) (t := 45) sE ?_; intro gb230 hg w3 hbox hb; have BK230 := Aside0.mk hbox; have GW230 := gS w hg (lV1 GE229); have GE230 := gS w hg (lV1 GE229); replace HB := bH (lV1 GE229) hb; have NB229_230 := nL hg (bV BK229); have NB230_229 := nG hg (bV BK229); replace BK229 := bB (bV BK229) hb; clear hb hbox hg) | ((with_reducible refine gate_dst (N := 3) rfl ?_); refine box_event rfl (N := 3) rfl (cs := #[.int .i64 0, .int .i64 0, .string (⟨#[]⟩ : ByteArray), .string (⟨#[]⟩ : ByteArray), .int .i64 0]) (t := 45) sE ?_; intro gb231 hg w4 hbox hb; have BK231 := Aside0.mk hbox; have GW231 := gS w hg (lV2 GE229 GE230); have GE231 := gS w hg (lV2 GE229 GE230); replace HB := bH (lV2 GE229 GE230) hb; have NB229_231 := nL hg (bV BK229); have NB231_229 := nG hg (bV BK229); replace BK229 := bB (bV BK229) hb; have NB230_231 := nL hg (bV BK230); have NB231_230 := nG hg (bV BK230); replace BK230 := bB (bV BK230) hb; clear hb hbox hg; have hnb5 := NB229_230.out; have hnc5 := NB230_229.out; have hnb6 := NB229_231.out; have hnc6 := NB231_229.out; have hcz7_0 := cz BK229 0 (.int .i64 a0_0); have hcz7_1 := cz BK229 1 (.int .i64 a0_1); have hcz7_2 := cz BK229 2 (.string a0_2); have hcz7_3 := cz BK229 3 (.string a0_3); have hcz7_4 := cz BK229 4 (.int .i64 a0_4); have hfz7_0 := fz BK229 0; have hfz7_1 := fz BK229 1; have hfz7_2 := fz BK229 2; have hfz7_3 := fz BK229 3; have hfz7_4 := fz BK229 4; have hnb8 := NB231_230.out; have hnc8 := NB230_231.out; have hcz9_0 := cz BK231 0 (.int .i64 0); have hcz9_1 := cz BK231 1 (.int .i64 0); have hcz9_2 := cz BK231 2 (.string (⟨#[]⟩ : ByteArray)); have hcz9_3 := cz BK231 3 (.string (⟨#[]⟩ : ByteArray)); have hcz9_4 := cz BK231 4 (.int .i64 0); have hfz9_0 := fz BK231 0; have hfz9_1 := fz BK231 1; have hfz9_2 := fz BK231 2; have hfz9_3 := fz BK231 3; have hfz9_4 := fz BK231 4) | ((with_reducible refine gate_store (t := 3) (p := 6) rfl ?_); refine store_event (t := 3) (p := 6) (v := ?vo_w10) (w1 := (w4.setCell ⟨gb231, 0, none⟩ (.int .i64 a0_0))) ?hg ?ho ?hn ?hr ?_; (case ho => rfl); (case hg => rfl); (case hn => rfl); (case hr => first | (go_simp; done) | (go_simp; rfl) | (have hq0_ := (blk_cell BK231.out 0).trans (show _ = some _ from rfl); have hf0_ := blk_frozen BK231.out 0; first | (go_simp; done) | (go_simp; rfl))); intro w10 hw; replace BK229 : Aside0 (w10.heap[gb229]? = some (.cells #[.int .i64 a0_0, .int .i64 a0_1, .string a0_2, .string a0_3, .int .i64 a0_4] 40 (0, 0))) := ⟨(by rw [hw]; exact (bG NB229_231 BK229))⟩; replace BK230 : Aside0 (w10.heap[gb230]? = some (.cells #[.int .i64 0, .int .i64 0, .string (⟨#[]⟩ : ByteArray), .string (⟨#[]⟩ : ByteArray), .int .i64 0] 45 (0, 0))) := ⟨(by rw [hw]; exact (bG NB230_231 BK230))⟩; replace BK231 : Aside0 (w10.heap[gb231]? = some (.cells #[.int .i64 a0_0, .int .i64 0, .string (⟨#[]⟩ : ByteArray), .string (⟨#[]⟩ : ByteArray), .int .i64 0] 45 (0, 0))) := ⟨(by rw [hw]; exact (by refine bU ?_; refine blk_put (cs := #[.int .i64 0, .int .i64 0, .string (⟨#[]⟩ : ByteArray), .string (⟨#[]⟩ : ByteArray), .int .i64 0]) ?_ 0 _ rfl; refine bU ?_; exact BK231.out))⟩; replace HB : Aside0 (Below w.heap.size w w10) := ⟨(by rw [hw]; exact (lV3 GE229 GE230 GE231))⟩; clear hw; have hcz11_0 := cz BK229 0 (.int .i64 a0_0); have hcz11_1 := cz BK229 1 (.int .i64 a0_1); have hcz11_2 := cz BK229 2 (.string a0_2); have hcz11_3 := cz BK229 3 (.string a0_3); have hcz11_4 := cz BK229 4 (.int .i64 a0_4); have hfz11_0 := fz BK229 0; have hfz11_1 := fz BK229 1; have hfz11_2 := fz BK229 2; have hfz11_3 := fz BK229 3; have hfz11_4 := fz BK229 4; have hcz12_0 := cz BK231 0 (.int .i64 a0_0); have hcz12_1 := cz BK231 1 (.int .i64 0); have hcz12_2 := cz BK231 2 (.string (⟨#[]⟩ : ByteArray)); have hcz12_3 := cz BK231 3 (.string (⟨#[]⟩ : ByteArray)); have hcz12_4 := cz BK231 4 (.int .i64 0); have hfz12_0 := fz BK231 0; have hfz12_1 := fz BK231 1; have hfz12_2 := fz BK231 2; have hfz12_3 := fz BK231 3; have hfz12_4 := fz BK231 4) | ((with_reducible refine gate_store (t := 3) (p := 9) rfl ?_); refine store_event (t := 3) (p := 9) (v := ?vo_w13) (w1 := (w10.setCell ⟨gb231, 1, none⟩ (.int .i64 a0_1))) ?hg ?ho ?hn ?hr ?_; (case ho => rfl); (case hg => rfl); (case hn => rfl); (case hr => first | (go_simp; done) | (go_simp; rfl) | (have hq0_ := (blk_cell BK231.out 1).trans (show _ = some _ from rfl); have hf0_ := blk_frozen BK231.out 1; first | (go_simp; done) | (go_simp; rfl))); intro w13 hw; replace BK229 : Aside0 (w13.heap[gb229]? = some (.cells #[.int .i64 a0_0, .int .i64 a0_1, .string a0_2, .string a0_3, .int .i64 a0_4] 40 (0, 0))) := ⟨(by rw [hw]; exact (bG NB229_231 BK229))⟩; replace BK230 : Aside0 (w13.heap[gb230]? = some (.cells #[.int .i64 0, .int .i64 0, .string (⟨#[]⟩ : ByteArray), .string (⟨#[]⟩ : ByteArray), .int .i64 0] 45 (0, 0))) := ⟨(by rw [hw]; exact (bG NB230_231 BK230))⟩; replace BK231 : Aside0 (w13.heap[gb231]? = some (.cells #[.int .i64 a0_0, .int .i64 a0_1, .string (⟨#[]⟩ : ByteArray), .string (⟨#[]⟩ : ByteArray), .int .i64 0] 45 (0, 0))) := ⟨(by rw [hw]; exact (by refine bU ?_; refine blk_put (cs := #[.int .i64 a0_0, .int .i64 0, .string (⟨#[]⟩ : ByteArray), .string (⟨#[]⟩ : ByteArray), .int .i64 0]) ?_ 1 _ rfl; refine bU ?_; exact BK231.out))⟩; replace HB : Aside0 (Below w.heap.size w w13) := ⟨(by rw [hw]; exact (lV3 GE229 GE230 GE231))⟩; clear hw; have hcz14_0 := cz BK229 0 (.int .i64 a0_0); have hcz14_1 := cz BK229 1 (.int .i64 a0_1); have hcz14_2 := cz BK229 2 (.string a0_2); have hcz14_3 := cz BK229 3 (.string a0_3); have hcz14_4 := cz BK229 4 (.int .i64 a0_4); have hfz14_0 := fz BK229 0; have hfz14_1 := fz BK229 1; have hfz14_2 := fz BK229 2; have hfz14_3 := fz BK229 3; have hfz14_4 := fz BK229 4; have hcz15_0 := cz BK231 0 (.int .i64 a0_0); have hcz15_1 := cz BK231 1 (.int .i64 a0_1); have hcz15_2 := cz BK231 2 (.string (⟨#[]⟩ : ByteArray)); have hcz15_3 := cz BK231 3 (.string (⟨#[]⟩ : ByteArray)); have hcz15_4 := cz BK231 4 (.int .i64 0); have hfz15_0 := fz BK231 0; have hfz15_1 := fz BK231 1; have hfz15_2 := fz BK231 2; have hfz15_3 := fz BK231 3; have hfz15_4 := fz BK231 4) | ((with_reducible refine gate_store (t := 9) (p := 12) rfl ?_); refine store_event (t := 9) (p := 12) (v := ?vo_w16) (w1 := (w13.setCell ⟨gb231, 2, none⟩ (.string a0_2))) ?hg ?ho ?hn ?hr ?_; (case ho => rfl); (case hg => rfl); (case hn => rfl); (case hr => first | (go_simp; done) | (go_simp; rfl) | (have hq0_ := (blk_cell BK231.out 2).trans (show _ = some _ from rfl); have hf0_ := blk_frozen BK231.out 2; first | (go_simp; done) | (go_simp; rfl))); intro w16 hw; replace BK229 : Aside0 (w16.heap[gb229]? = some (.cells #[.int .i64 a0_0, .int .i64 a0_1, .string a0_2, .string a0_3, .int .i64 a0_4] 40 (0, 0))) := ⟨(by rw [hw]; exact (bG NB229_231 BK229))⟩; replace BK230 : Aside0 (w16.heap[gb230]? = some (.cells #[.int .i64 0, .int .i64 0, .string (⟨#[]⟩ : ByteArray), .string (⟨#[]⟩ : ByteArray), .int .i64 0] 45 (0, 0))) := ⟨(by rw [hw]; exact (bG NB230_231 BK230))⟩; replace BK231 : Aside0 (w16.heap[gb231]? = some (.cells #[.int .i64 a0_0, .int .i64 a0_1, .string a0_2, .string (⟨#[]⟩ : ByteArray), .int .i64 0] 45 (0, 0))) := ⟨(by rw [hw]; exact (by refine bU ?_; refine blk_put (cs := #[.int .i64 a0_0, .int .i64 a0_1, .string (⟨#[]⟩ : ByteArray), .string (⟨#[]⟩ : ByteArray), .int .i64 0]) ?_ 2 _ rfl; refine bU ?_; exact BK231.out))⟩; replace HB : Aside0 (Below w.heap.size w w16) := ⟨(by rw [hw]; exact (lV3 GE229 GE230 GE231))⟩; clear hw; have hcz17_0 := cz BK229 0 (.int .i64 a0_0); have hcz17_1 := cz BK229 1 (.int .i64 a0_1); have hcz17_2 := cz BK229 2 (.string a0_2); have hcz17_3 := cz BK229 3 (.string a0_3); have hcz17_4 := cz BK229 4 (.int .i64 a0_4); have hfz17_0 := fz BK229 0; have hfz17_1 := fz BK229 1; have hfz17_2 := fz BK229 2; have hfz17_3 := fz BK229 3; have hfz17_4 := fz BK229 4; have hcz18_0 := cz BK231 0 (.int .i64 a0_0); have hcz18_1 := cz BK231 1 (.int .i64 a0_1); have hcz18_2 := cz BK231 2 (.string a0_2); have hcz18_3 := cz BK231 3 (.string (⟨#[]⟩ : ByteArray)); have hcz18_4 := cz BK231 4 (.int .i64 0); have hfz18_0 := fz BK231 0; have hfz18_1 := fz BK231 1; have hfz18_2 := fz BK231 2; have hfz18_3 := fz BK231 3; have hfz18_4 := fz BK231 4) | ((with_reducible refine gate_store (t := 9) (p := 15) rfl ?_); refine store_event (t := 9) (p := 15) (v := ?vo_w19) (w1 := (w16.setCell ⟨gb231, 3, none⟩ (.string a0_3))) ?hg ?ho ?hn ?hr ?_; (case ho => rfl); (case hg => rfl); (case hn => rfl); (case hr => first | (go_simp; done) | (go_simp; rfl) | (have hq0_ := (blk_cell BK231.out 3).trans (show _ = some _ from rfl); have hf0_ := blk_frozen BK231.out 3; first | (go_simp; done) | (go_simp; rfl))); intro w19 hw; replace BK229 : Aside0 (w19.heap[gb229]? = some (.cells #[.int .i64 a0_0, .int .i64 a0_1, .string a0_2, .string a0_3, .int .i64 a0_4] 40 (0, 0))) := ⟨(by rw [hw]; exact (bG NB229_231 BK229))⟩; replace BK230 : Aside0 (w19.heap[gb230]? = some (.cells #[.int .i64 0, .int .i64 0, .string (⟨#[]⟩ : ByteArray), .string (⟨#[]⟩ : ByteArray), .int .i64 0] 45 (0, 0))) := ⟨(by rw [hw]; exact (bG NB230_231 BK230))⟩; replace BK231 : Aside0 (w19.heap[gb231]? = some (.cells #[.int .i64 a0_0, .int .i64 a0_1, .string a0_2, .string a0_3, .int .i64 0] 45 (0, 0))) := ⟨(by rw [hw]; exact (by refine bU ?_; refine blk_put (cs := #[.int .i64 a0_0, .int .i64 a0_1, .string a0_2, .string (⟨#[]⟩ : ByteArray), .int .i64 0]) ?_ 3 _ rfl; refine bU ?_; exact BK231.out))⟩; replace HB : Aside0 (Below w.heap.size w w19) := ⟨(by rw [hw]; exact (lV3 GE229 GE230 GE231))⟩; clear hw; have hcz20_0 := cz BK229 0 (.int .i64 a0_0); have hcz20_1 := cz BK229 1 (.int .i64 a0_1); have hcz20_2 := cz BK229 2 (.string a0_2); have hcz20_3 := cz BK229 3 (.string a0_3); have hcz20_4 := cz BK229 4 (.int .i64 a0_4); have hfz20_0 := fz BK229 0; have hfz20_1 := fz BK229 1; have hfz20_2 := fz BK229 2; have hfz20_3 := fz BK229 3; have hfz20_4 := fz BK229 4; have hcz21_0 := cz BK231 0 (.int .i64 a0_0); have hcz21_1 := cz BK231 1 (.int .i64 a0_1); have hcz21_2 := cz BK231 2 (.string a0_2); have hcz21_3 := cz BK231 3 (.string a0_3); have hcz21_4 := cz BK231 4 (.int .i64 0); have hfz21_0 := fz BK231 0; have hfz21_1 := fz BK231 1; have hfz21_2 := fz BK231 2; have hfz21_3 := fz BK231 3; have hfz21_4 := fz BK231 4) | ((with_reducible refine gate_store (t := 3) (p := 18) rfl ?_); refine store_event (t := 3) (p := 18) (v := ?vo_w22) (w1 := (w19.setCell ⟨gb231, 4, none⟩ (.int .i64 a0_4))) ?hg ?ho ?hn ?hr ?_; (case ho => rfl); (case hg => rfl); (case hn => rfl); (case hr => first | (go_simp; done) | (go_simp; rfl) | (have hq0_ := (blk_cell BK231.out 4).trans (show _ = some _ from rfl); have hf0_ := blk_frozen BK231.out 4; first | (go_simp; done) | (go_simp; rfl))); intro w22 hw; replace BK229 : Aside0 (w22.heap[gb229]? = some (.cells #[.int .i64 a0_0, .int .i64 a0_1, .string a0_2, .string a0_3, .int .i64 a0_4] 40 (0, 0))) := ⟨(by rw [hw]; exact (bG NB229_231 BK229))⟩; replace BK230 : Aside0 (w22.heap[gb230]? = some (.cells #[.int .i64 0, .int .i64 0, .string (⟨#[]⟩ : ByteArray), .string (⟨#[]⟩ : ByteArray), .int .i64 0] 45 (0, 0))) := ⟨(by rw [hw]; exact (bG NB230_231 BK230))⟩; replace BK231 : Aside0 (w22.heap[gb231]? = some (.cells #[.int .i64 a0_0, .int .i64 a0_1, .string a0_2, .string a0_3, .int .i64 a0_4] 45 (0, 0))) := ⟨(by rw [hw]; exact (by refine bU ?_; refine blk_put (cs := #[.int .i64 a0_0, .int .i64 a0_1, .string a0_2, .string a0_3, .int .i64 0]) ?_ 4 _ rfl; refine bU ?_; exact BK231.out))⟩; replace HB : Aside0 (Below w.heap.size w w22) := ⟨(by rw [hw]; exact (lV3 GE229 GE230 GE231))⟩; clear hw; have hcz23_0 := cz BK231 0 (.int .i64 a0_0); have hcz23_1 := cz BK231 1 (.int .i64 a0_1); have hcz23_2 := cz BK231 2 (.string a0_2); have hcz23_3 := cz BK231 3 (.string a0_3); have hcz23_4 := cz BK231 4 (.int .i64 a0_4); have hfz23_0 := fz BK231 0; have hfz23_1 := fz BK231 1; have hfz23_2 := fz BK231 2; have hfz23_3 := fz BK231 3; have hfz23_4 := fz BK231 4; have hcz24_0 := cz BK230 0 (.int .i64 0); have hcz24_1 := cz BK230 1 (.int .i64 0); have hcz24_2 := cz BK230 2 (.string (⟨#[]⟩ : ByteArray)); have hcz24_3 := cz BK230 3 (.string (⟨#[]⟩ : ByteArray)); have hcz24_4 := cz BK230 4 (.int .i64 0); have hfz24_0 := fz BK230 0; have hfz24_1 := fz BK230 1; have hfz24_2 := fz BK230 2; have hfz24_3 := fz BK230 3; have hfz24_4 := fz BK230 4) | ((with_reducible refine gate_store (t := 45) (p := 2) rfl ?_); refine store_event (t := 45) (p := 2) (v := ?vo_w25) (w1 := (((((w22.setCell ⟨gb230, 0, none⟩ (.int .i64 a0_0)).setCell ⟨gb230, 1, none⟩ (.int .i64 a0_1)).setCell ⟨gb230, 2, none⟩ (.string a0_2)).setCell ⟨gb230, 3, none⟩ (.string a0_3)).setCell ⟨gb230, 4, none⟩ (.int .i64 a0_4))) ?hg ?ho ?hn ?hr ?_; (case ho => rfl); (case hg => rfl); (case hn => rfl); (case hr => first | (go_simp; done) | (go_simp; rfl) | (have hq0_ := (blk_cell BK230.out 0).trans (show _ = some _ from rfl); have hf0_ := blk_frozen BK230.out 0; have hq1_ := (blk_cell BK230.out 1).trans (show _ = some _ from rfl); have hf1_ := blk_frozen BK230.out 1; have hq2_ := (blk_cell BK230.out 2).trans (show _ = some _ from rfl); have hf2_ := blk_frozen BK230.out 2; have hq3_ := (blk_cell BK230.out 3).trans (show _ = some _ from rfl); have hf3_ := blk_frozen BK230.out 3; have hq4_ := (blk_cell BK230.out 4).trans (show _ = some _ from rfl); have hf4_ := blk_frozen BK230.out 4; first | (go_simp; done) | (go_simp; rfl))); intro w25 hw; replace BK229 : Aside0 (w25.heap[gb229]? = some (.cells #[.int .i64 a0_0, .int .i64 a0_1, .string a0_2, .string a0_3, .int .i64 a0_4] 40 (0, 0))) := ⟨(by rw [hw]; exact (bG NB229_230 BK229))⟩; replace BK230 : Aside0 (w25.heap[gb230]? = some (.cells #[.int .i64 a0_0, .int .i64 a0_1, .string a0_2, .string a0_3, .int .i64 a0_4] 45 (0, 0))) := ⟨(by rw [hw]; exact (by refine bU ?_; refine blk_put (cs := #[.int .i64 a0_0, .int .i64 a0_1, .string a0_2, .string a0_3, .int .i64 0]) ?_ 4 _ rfl; refine bU ?_; refine blk_put (cs := #[.int .i64 a0_0, .int .i64 a0_1, .string a0_2, .string (⟨#[]⟩ : ByteArray), .int .i64 0]) ?_ 3 _ rfl; refine bU ?_; refine blk_put (cs := #[.int .i64 a0_0, .int .i64 a0_1, .string (⟨#[]⟩ : ByteArray), .string (⟨#[]⟩ : ByteArray), .int .i64 0]) ?_ 2 _ rfl; refine bU ?_; refine blk_put (cs := #[.int .i64 a0_0, .int .i64 0, .string (⟨#[]⟩ : ByteArray), .string (⟨#[]⟩ : ByteArray), .int .i64 0]) ?_ 1 _ rfl; refine bU ?_; refine blk_put (cs := #[.int .i64 0, .int .i64 0, .string (⟨#[]⟩ : ByteArray), .string (⟨#[]⟩ : ByteArray), .int .i64 0]) ?_ 0 _ rfl; refine bU ?_; exact BK230.out))⟩; replace BK231 : Aside0 (w25.heap[gb231]? = some (.cells #[.int .i64 a0_0, .int .i64 a0_1, .string a0_2, .string a0_3, .int .i64 a0_4] 45 (0, 0))) := ⟨(by rw [hw]; exact (bG NB231_230 BK231))⟩; replace HB : Aside0 (Below w.heap.size w w25) := ⟨(by rw [hw]; exact (lV3 GE229 GE230 GE231))⟩; clear hw))
 refine bodyPost_ret (results_cell_row rfl _ _ gb230 45 #[.int .i64 a0_0, .int .i64 a0_1, .string a0_2, .string a0_3, .int .i64 a0_4] (0, 0) _ rfl (bV BK230) Try.underlying45 rfl (by kernel_rfl)) rfl ?_
 exact ⟨eE, lV3 GE229 GE230 GE231⟩
def laws_toChangeS.l0 : Nat → List (S40) → List (S45) → Int → Option ((List (S45)))
 | 0, _, _, _ => none
 | k + 1, x0, x3, x4 => if x4 < (x0.length : Int) then (if 0 ≤ x4 then ((laws_toChange.f ((rd_T40 x0 x4).f0) ((rd_T40 x0 x4).f1) ((rd_T40 x0 x4).f2) ((rd_T40 x0 x4).f3) ((rd_T40 x0 x4).f4)).bind fun bt236 => (if x4 < (x3.length : Int) then (laws_toChangeS.l0 k x0 (x3.set (x4 : Int).toNat (⟨bt236.1, bt236.2.1, bt236.2.2.1, bt236.2.2.2.1, bt236.2.2.2.2⟩ : S45)) (wrap64 (x4 + 1))) else (none))) else (none)) else (some x3)
def laws_toChangeS.f (k : Nat) (l0 : List (S40)) : Option ((List (S45))) := if 0 ≤ (l0.length : Int) then (if ((l0.length : Int) : Int).toNat ≤ 5026338869833 then (laws_toChangeS.l0 k l0 (List.replicate ((l0.length : Int) : Int).toNat z45) 0) else (none)) else (none)
theorem laws_toChangeS.mono_l : ∀ k, (∀ y0 y1 y2, LeO (laws_toChangeS.l0 k y0 y1 y2) (laws_toChangeS.l0 (k + 1) y0 y1 y2))
 | 0 => fun _ _ _ r h => by simp [laws_toChangeS.l0] at h
 | k + 1 => by
  have ih0 := laws_toChangeS.mono_l k
  ·intro y0 y1 y2
   unfold laws_toChangeS.l0
   repeat' first
   | (with_reducible exact ih0 _ _ _)
   | (with_reducible first | exact LeO.refl _ | exact LeO.none _ | refine LeO.ite ?_ ?_ | refine LeO.bind ?_ (fun _ => ?_))
   | exact ih0 _ _ _ | exact LeO.none _ | refine LeO.ite ?_ ?_ | refine LeO.bind ?_ (fun _ => ?_)
theorem laws_toChangeS.mono : ∀ a0 k, LeO (laws_toChangeS.f k a0) (laws_toChangeS.f (k + 1) a0) := by
 intro a0 k
 have ih0 := laws_toChangeS.mono_l k
 unfold laws_toChangeS.f
 repeat' first
   | (with_reducible exact ih0 _ _ _)
   | (with_reducible first | exact LeO.refl _ | exact LeO.none _ | refine LeO.ite ?_ ?_ | refine LeO.bind ?_ (fun _ => ?_))
   | exact ih0 _ _ _ | exact LeO.none _ | refine LeO.ite ?_ ?_ | refine LeO.bind ?_ (fun _ => ?_)
set_option maxHeartbeats 8000000 in
set_option maxRecDepth 100000 in
theorem laws_toChangeS.calls (k : Nat) (A0 : Option Addr) (c0 : Nat) (l0 : List (S40)) (r : List (S45)) (w : World) (hr0 : Kd.C k40 w A0 l0.length l0) (hc0 : l0.length ≤ c0) (h : laws_toChangeS.f k l0 = some r) :
  Calls Try.prog 7 #[.slice A0 l0.length c0] w fun e w' => ∃ v0_ : Value, e = .returned (v0_) ∧ Kd.R k45 45 w' w.heap.size (fun _ => True) v0_ r ∧ Below w.heap.size w w' := by
 have hu40 := Try.underlying40
 have hu45 := Try.underlying45
 have HR0 := Aside0.mk hr0
 have HC0 := Aside0.mk hc0
 clear hr0 hc0
 have HB := Aside0.mk (Below.refl w.heap.size w)
 have H : (if 0 ≤ (l0.length : Int) then (if ((l0.length : Int) : Int).toNat ≤ 5026338869833 then (laws_toChangeS.l0 k l0 (List.replicate ((l0.length : Int) : Int).toNat z45) 0) else (none)) else (none)) = some r := h
 clear h
 by_cases c2 : 0 ≤ (l0.length : Int)
 ·rw [if_pos c2] at H
  have c2b0 := eq_true c2
  have c2b1 : decide (0 ≤ (l0.length : Int)) = true := decide_eq_true c2
  clear c2
  by_cases c3 : ((l0.length : Int) : Int).toNat ≤ 5026338869833
  ·rw [if_pos c3] at H
   have c3b0 := eq_true c3
   have c3b1 : decide (((l0.length : Int) : Int).toNat ≤ 5026338869833) = true := decide_eq_true c3
   clear c3
   obtain ⟨y232, hy232⟩ : ∃ y_ : List (S45), y_ = (List.replicate ((l0.length : Int) : Int).toNat z45) := ⟨_, rfl⟩
   replace H : (laws_toChangeS.l0 k l0 y232 0) = some r := by first | (rw [hy232]; with_reducible exact H) | (have H2_ := (Option.bind_some _ _).symm.trans H; rw [hy232]; with_reducible exact H2_) | (have H2_ := (Option.bind_some _ _).symm.trans H; with_reducible exact H2_) | with_reducible exact H | (rw [hy232]; exact H) | exact H
   have Ny232 := Aside0.mk hy232
   clear hy232
   have H' := Aside0.mk H
   clear H
   go_enter Try.func7, Try.ntmps7
   go_wp2_with (first | ((with_reducible refine gate_dst (N := 7) rfl ?_); refine Kd.R_make k45 _ 45 rfl (N := 7) rfl 29 _ _ rfl (l0.length : Int) rfl rfl Try.underlying29 (.agg #[(.int .i64 0), (.int .i64 0), (.string ⟨#[]⟩), (.string ⟨#[]⟩), (.int .i64 0)]) 56 info45 rfl (by decide) (by omega) z45 (ok := fun _ => True) (okp := fun _ => True) (k45_mkM _ _ _ z45 ) (fun _ hk => hk) trivial (of_decide_eq_true hE) (Nat.le_trans (Nat.mul_le_mul_right _ (of_decide_eq_true hE : (l0.length : Int).toNat ≤ 5026338869833)) (by omega)) (Below.refl _ _) (Nat.le_refl _) ?_; intro v233 w4 ho5 hb hg_ hnew_; clear hg_ hnew_; (first | rw [← Ny232.out] at ho5 | (simp only [Int.reduceToNat] at ho5; rw [← Ny232.out] at ho5)); have HO234 := Aside0.mk (Kd.R_lower ho5 (below_size (lU))); replace HB := bH (lU) hb; clear hb ho5))
   (try simp only [Act.put, List.setIfInBounds_toArray, List.set_cons_zero, List.set_cons_succ])
   go_loopg [4] k (fun kq v4 w' => ∃ (x3_1 : List (S45)) (x4_1 : Int), v4 = .int .i64 x4_1 ∧ Aside0 (laws_toChangeS.l0 kq l0 x3_1 x4_1 = some r) ∧ Aside0 (kq ≤ k) ∧ Aside0 (Kd.R k45 45 w' w.heap.size (fun _ => True) v233 x3_1) ∧ Aside0 (Below w.heap.size w w'))
   case atStart => exact ⟨(y232), (0), tE, H', ⟨Nat.le_refl _⟩, ⟨by (with_reducible repeat (first | apply Kd.R_alloc | apply Kd.R_drewN | apply Kd.R_drew)); exact HO234.out⟩, ⟨by repeat (first | (with_reducible first | exact HB.out | apply below_alloc | apply pw_below_drewN | apply below_drew1) | exact HB.out)⟩⟩
   case round =>
    clear H'
    try clear c2; try clear c2b0; try clear c2b1; try clear c3; try clear c3b0; try clear c3b1
    obtain ⟨x3_1, x4_1, rfl, HA, HK1, HO_3, HB⟩ := hrel
    cases gk with
    | zero => exact absurd HA.out (by simp [laws_toChangeS.l0])
    | succ k1 =>
     have H := HA.out
     clear HA
     simp only [laws_toChangeS.l0] at H
     by_cases c6 : x4_1 < (l0.length : Int)
     ·rw [if_pos c6] at H
      have c6b0 : decide (x4_1 < (l0.length : Int)) = true := decide_eq_true c6
      clear c6
      by_cases c7 : 0 ≤ x4_1
      ·rw [if_pos c7] at H
       have c7b0 : decide (0 ≤ x4_1) = true := decide_eq_true c7
       clear c7
       replace H := Option.bind_eq_some_iff.mp H
       obtain ⟨⟨t236, t237, t238, t239, t240⟩, A80, H⟩ := H
       replace H : (if x4_1 < (x3_1.length : Int) then (laws_toChangeS.l0 k1 l0 (x3_1.set (x4_1 : Int).toNat (⟨t236, t237, t238, t239, t240⟩ : S45)) (wrap64 (x4_1 + 1))) else (none)) = some r := H
       have A8 := Aside0.mk A80
       clear A80
       by_cases c9 : x4_1 < (x3_1.length : Int)
       ·rw [if_pos c9] at H
        have c9b0 : decide (x4_1 < (x3_1.length : Int)) = true := decide_eq_true c9
        clear c9
        obtain ⟨y241, hy241⟩ : ∃ y_ : List (S45), y_ = (x3_1.set (x4_1 : Int).toNat (⟨t236, t237, t238, t239, t240⟩ : S45)) := ⟨_, rfl⟩
        replace H : (laws_toChangeS.l0 k1 l0 y241 (wrap64 (x4_1 + 1))) = some r := by first | (rw [hy241]; with_reducible exact H) | (have H2_ := (Option.bind_some _ _).symm.trans H; rw [hy241]; with_reducible exact H2_) | (have H2_ := (Option.bind_some _ _).symm.trans H; with_reducible exact H2_) | with_reducible exact H | (rw [hy241]; exact H) | exact H
        have Ny241 := Aside0.mk hy241
        clear hy241
        have H' := Aside0.mk H
        clear H
        have p235 : 0 ≤ (x4_1 : Int) := of_decide_eq_true hE
        have q235 : x4_1 < (l0.length : Int) := of_decide_eq_true hE
        obtain ⟨ad235, e235, hx235_0, hx235_1, hx235_2, hx235_3, hx235_4⟩ := at_T40 HR0.out x4_1 p235 q235
        cases e235
        replace hx235_0 := (HB.out.cell (World.block_lt_of_cell? w _ hx235_0)).trans hx235_0
        replace hx235_1 := (HB.out.cell (World.block_lt_of_cell? w _ hx235_1)).trans hx235_1
        replace hx235_2 := (HB.out.cell (World.block_lt_of_cell? w _ hx235_2)).trans hx235_2
        replace hx235_3 := (HB.out.cell (World.block_lt_of_cell? w _ hx235_3)).trans hx235_3
        replace hx235_4 := (HB.out.cell (World.block_lt_of_cell? w _ hx235_4)).trans hx235_4
        replace p235 := eq_true p235
        replace q235 := eq_true q235
        go_wp2_with (first | ((with_reducible refine gate_callee (f := 19) rfl ?_); refine goesL_ (some 20) rfl rfl Try.func19 (by kernel_rfl) rfl #[.agg #[.int .i64 ((rd_T40 l0 x4_1).f0), .int .i64 ((rd_T40 l0 x4_1).f1), .string ((rd_T40 l0 x4_1).f2), .string ((rd_T40 l0 x4_1).f3), .int .i64 ((rd_T40 l0 x4_1).f4)]] rfl aE ?_; (with_reducible refine (laws_toChange.calls ((rd_T40 l0 x4_1).f0) ((rd_T40 l0 x4_1).f1) ((rd_T40 l0 x4_1).f2) ((rd_T40 l0 x4_1).f3) ((rd_T40 l0 x4_1).f4) t236 t237 t238 t239 t240 _ A8.out).mono ?_); rintro e w11 ⟨rfl, hb⟩; refine ⟨_, rfl, ?_⟩; replace HO_3 := Aside0.mk (Kd.R_below (rU HO_3.out) hb); replace HB := bH (lU) hb; (try clear hb); have p10 : 0 ≤ (x4_1 : Int) := of_decide_eq_true hE; have q10 : (x4_1 : Int) < ((x3_1.length : Int) : Int) := of_decide_eq_true hE; obtain ⟨go10, co10, eo10, gb10, gl10, cl10, HG10⟩ := Kd.R_form HO_3.out (by omega); (first | cases eo10 | (injection eo10 with ea_ en_ ec_; (first | subst ea_ | (injection ea_ with ea_; subst ea_)); subst ec_; clear en_)); have GB10 := Aside0.mk gb10; have GG10 := Aside0.mk HG10; clear gb10 gl10 HG10; obtain ⟨ce10, hcl10, hM10, hcc10, hfr10⟩ := Kd.R_elem HO_3.out z45 (x4_1 : Int) p10 q10; obtain rfl := k45_openM hM10; have hx10_0 : w11.cell? ⟨go10, (x4_1 : Int).toNat * 5, none⟩ = some (.int .i64 ((rd_T45 x3_1 x4_1).f0)) := hcc10 0 _ rfl; have hx10_1 : w11.cell? ⟨go10, (x4_1 : Int).toNat * 5 + 1, none⟩ = some (.int .i64 ((rd_T45 x3_1 x4_1).f1)) := hcc10 1 _ rfl; have hx10_2 : w11.cell? ⟨go10, (x4_1 : Int).toNat * 5 + 2, none⟩ = some (.string ((rd_T45 x3_1 x4_1).f2)) := hcc10 2 _ rfl; have hx10_3 : w11.cell? ⟨go10, (x4_1 : Int).toNat * 5 + 3, none⟩ = some (.string ((rd_T45 x3_1 x4_1).f3)) := hcc10 3 _ rfl; have hx10_4 : w11.cell? ⟨go10, (x4_1 : Int).toNat * 5 + 4, none⟩ = some (.int .i64 ((rd_T45 x3_1 x4_1).f4)) := hcc10 4 _ rfl; have hf10_0 : w11.frozen? ⟨go10, (x4_1 : Int).toNat * 5, none⟩ = false := hfr10 0; have hf10_1 : w11.frozen? ⟨go10, (x4_1 : Int).toNat * 5 + 1, none⟩ = false := hfr10 1; have hf10_2 : w11.frozen? ⟨go10, (x4_1 : Int).toNat * 5 + 2, none⟩ = false := hfr10 2; have hf10_3 : w11.frozen? ⟨go10, (x4_1 : Int).toNat * 5 + 3, none⟩ = false := hfr10 3; have hf10_4 : w11.frozen? ⟨go10, (x4_1 : Int).toNat * 5 + 4, none⟩ = false := hfr10 4; (try clear hcl10); (try clear hcc10); (try clear hfr10); (try clear hM10); replace p10 := eq_true p10; replace q10 := eq_true q10; have HX12 := Aside0.mk (show Kd.R k45 45 w11 w.heap.size (fun _ => True) (.slice (some ⟨go10, 0, none⟩) x3_1.length co10) x3_1 from (rU HO_3.out)); obtain ⟨ce12, hcl12, hM12, hcc12, hfr12⟩ := Kd.R_elem HX12.out z45 (x4_1 : Int) (of_decide_eq_true hE) (by have h_ : (x4_1 : Int) < ((x3_1.length : Int) : Int) := of_decide_eq_true hE; first | exact h_ | (have e_ := (Kd.R_reads' HO_3.out).1; omega) | simpa using h_); obtain rfl := k45_openM hM12; have HP12 := Kd.R_seg HX12.out (x4_1 : Int) (of_decide_eq_true hE) (by have h_ : (x4_1 : Int) < ((x3_1.length : Int) : Int) := of_decide_eq_true hE; first | exact h_ | (have e_ := (Kd.R_reads' HO_3.out).1; omega) | simpa using h_) (seg := [.int .i64 t236, .int .i64 t237, .string t238, .string t239, .int .i64 t240]) (j := 0) hcl12 hcc12 (show 5 ≤ 5 from by decide) (x' := (⟨t236, t237, t238, t239, t240⟩ : S45)) (k45_mkM _ _ _ (⟨t236, t237, t238, t239, t240⟩ : S45) ) (fun _ hk => hk); have hx12_0 := hcc12 0 _ rfl; (try simp only [show (k45).sz = 5 from rfl, Nat.mul_one, Nat.add_zero] at hx12_0); have hf12_0 := hfr12 0; (try simp only [show (k45).sz = 5 from rfl, Nat.mul_one, Nat.add_zero] at hf12_0); have hx12_1 := hcc12 1 _ rfl; (try simp only [show (k45).sz = 5 from rfl, Nat.mul_one, Nat.add_zero] at hx12_1); have hf12_1 := hfr12 1; (try simp only [show (k45).sz = 5 from rfl, Nat.mul_one, Nat.add_zero] at hf12_1); have hx12_2 := hcc12 2 _ rfl; (try simp only [show (k45).sz = 5 from rfl, Nat.mul_one, Nat.add_zero] at hx12_2); have hf12_2 := hfr12 2; (try simp only [show (k45).sz = 5 from rfl, Nat.mul_one, Nat.add_zero] at hf12_2); have hx12_3 := hcc12 3 _ rfl; (try simp only [show (k45).sz = 5 from rfl, Nat.mul_one, Nat.add_zero] at hx12_3); have hf12_3 := hfr12 3; (try simp only [show (k45).sz = 5 from rfl, Nat.mul_one, Nat.add_zero] at hf12_3); have hx12_4 := hcc12 4 _ rfl; (try simp only [show (k45).sz = 5 from rfl, Nat.mul_one, Nat.add_zero] at hx12_4); have hf12_4 := hfr12 4; (try simp only [show (k45).sz = 5 from rfl, Nat.mul_one, Nat.add_zero] at hf12_4); (try clear hcl12); (try clear hcc12); (try clear hfr12); (try clear hM12)) | ((with_reducible refine gate_store (t := 45) (p := 21) rfl ?_); refine store_event (t := 45) (p := 21) (v := ?vo_w13) (w1 := (((((w11.setCell ⟨go10, (x4_1 : Int).toNat * 5, none⟩ (.int .i64 t236)).setCell ⟨go10, (x4_1 : Int).toNat * 5 + 1, none⟩ (.int .i64 t237)).setCell ⟨go10, (x4_1 : Int).toNat * 5 + 2, none⟩ (.string t238)).setCell ⟨go10, (x4_1 : Int).toNat * 5 + 3, none⟩ (.string t239)).setCell ⟨go10, (x4_1 : Int).toNat * 5 + 4, none⟩ (.int .i64 t240))) ?hg ?ho ?hn ?hr ?_; (case ho => rfl); (case hg => rfl); (case hn => rfl); (case hr => exact sE); intro w13 hw; have hg : w11.grownBy w13 (some go10) := (by rw [hw]; exact HP12.2); have hp_ : Kd.R k45 45 w13 w.heap.size (fun _ => True) (.slice (some ⟨go10, 0, none⟩) x3_1.length co10) y241 := (by rw [hw, Ny241.out]; exact HP12.1); clear HP12; replace HO_3 := Aside0.mk hp_; replace HB := Aside0.mk ((by rw [hw]; exact below_set (below_set (below_set (below_set (below_set (HB.out) GB10.out) GB10.out) GB10.out) GB10.out) GB10.out : Below w.heap.size w w13)); clear hg hw hp_))
        go_roundg k1
        case measure => have := HK1.out; omega
        case rel => exact ⟨(y241), (wrap64 (x4_1 + 1)), tE, H', ⟨by have := HK1.out; omega⟩, ⟨by (with_reducible repeat (first | apply Kd.R_alloc | apply Kd.R_drewN | apply Kd.R_drew)); exact HO_3.out⟩, ⟨by repeat (first | (with_reducible first | exact HB.out | apply below_alloc | apply pw_below_drewN | apply below_drew1) | exact HB.out)⟩⟩
       ·rw [if_neg c9] at H
        exact absurd H (by simp)
      ·rw [if_neg c7] at H
       exact absurd H (by simp)
     ·rw [if_neg c6] at H
      have c6b0 : decide (x4_1 < (l0.length : Int)) = false := decide_eq_false c6
      clear c6
      obtain rfl := Option.some.inj H
      go_wp2
      go_ret
      exact ⟨_, eE, by (with_reducible repeat (first | apply Kd.R_alloc | apply Kd.R_drewN | apply Kd.R_drew)); exact HO_3.out, lU⟩
  ·rw [if_neg c3] at H
   exact absurd H (by simp)
 ·rw [if_neg c2] at H
  exact absurd H (by simp)
def slices_Equal_byte_byte.l0 : Nat → List Int → List Int → Int → Int → Option (Bool)
 | 0, _, _, _, _ => none
 | k + 1, x0, x1, x12, x13 => if x13 < x12 then (if 0 ≤ x13 then (if x13 < (x0.length : Int) then (if x13 < (x1.length : Int) then (if (rd x0 x13) = (rd x1 x13) then (slices_Equal_byte_byte.l0 k x0 x1 x12 (wrap64 (x13 + 1))) else (some false)) else (none)) else (none)) else (none)) else (some true)
def slices_Equal_byte_byte.f (k : Nat) (l0 : List Int) (l1 : List Int) : Option (Bool) := if (l0.length : Int) = (l1.length : Int) then (slices_Equal_byte_byte.l0 k l0 l1 (l0.length : Int) 0) else (some false)
theorem slices_Equal_byte_byte.mono_l : ∀ k, (∀ y0 y1 y2 y3, LeO (slices_Equal_byte_byte.l0 k y0 y1 y2 y3) (slices_Equal_byte_byte.l0 (k + 1) y0 y1 y2 y3))
 | 0 => fun _ _ _ _ r h => by simp [slices_Equal_byte_byte.l0] at h
 | k + 1 => by
  have ih0 := slices_Equal_byte_byte.mono_l k
  ·intro y0 y1 y2 y3
   unfold slices_Equal_byte_byte.l0
   repeat' first
   | (with_reducible exact ih0 _ _ _ _)
   | (with_reducible first | exact LeO.refl _ | exact LeO.none _ | refine LeO.ite ?_ ?_ | refine LeO.bind ?_ (fun _ => ?_))
   | exact ih0 _ _ _ _ | exact LeO.none _ | refine LeO.ite ?_ ?_ | refine LeO.bind ?_ (fun _ => ?_)
theorem slices_Equal_byte_byte.mono : ∀ a0 a1 k, LeO (slices_Equal_byte_byte.f k a0 a1) (slices_Equal_byte_byte.f (k + 1) a0 a1) := by
 intro a0 a1 k
 have ih0 := slices_Equal_byte_byte.mono_l k
 unfold slices_Equal_byte_byte.f
 repeat' first
   | (with_reducible exact ih0 _ _ _ _)
   | (with_reducible first | exact LeO.refl _ | exact LeO.none _ | refine LeO.ite ?_ ?_ | refine LeO.bind ?_ (fun _ => ?_))
   | exact ih0 _ _ _ _ | exact LeO.none _ | refine LeO.ite ?_ ?_ | refine LeO.bind ?_ (fun _ => ?_)
set_option maxHeartbeats 8000000 in
set_option maxRecDepth 100000 in
theorem slices_Equal_byte_byte.calls (k : Nat) (A0 : Option Addr) (c0 : Nat) (l0 : List Int) (A1 : Option Addr) (c1 : Nat) (l1 : List Int) (r : Bool) (w : World) (hr0 : Kd.C (Kd.int .u8) w A0 l0.length l0) (hc0 : l0.length ≤ c0) (hr1 : Kd.C (Kd.int .u8) w A1 l1.length l1) (hc1 : l1.length ≤ c1) (h : slices_Equal_byte_byte.f k l0 l1 = some r) :
  Calls Try.prog 35 #[.slice A0 l0.length c0, .slice A1 l1.length c1] w fun e w' => e = .returned (.bool r) ∧ Drawn0 w w' := by
 have HR0 := Aside0.mk hr0
 have HC0 := Aside0.mk hc0
 clear hr0 hc0
 have HR1 := Aside0.mk hr1
 have HC1 := Aside0.mk hc1
 clear hr1 hc1
 have H : (if (l0.length : Int) = (l1.length : Int) then (slices_Equal_byte_byte.l0 k l0 l1 (l0.length : Int) 0) else (some false)) = some r := h
 clear h
 by_cases c3 : (l0.length : Int) = (l1.length : Int)
 ·rw [if_pos c3] at H
  have c3b0 : ((l0.length : Int) == (l1.length : Int)) = true := beq_iff_eq.mpr c3
  have c3b1 : ((l0.length : Int) != (l1.length : Int)) = false := bne_eq_false_iff_eq.mpr c3
  have c3b2 : (l0.length == l1.length) = true := by first | simpa using c3 | (simp at c3 ⊢; omega)
  clear c3
  have H' := Aside0.mk H
  clear H
  go_enter Try.func35, Try.ntmps35
  go_wp2
  repeat (go_quiet (fail); try go_wp2)
  go_loopg [13] k (fun kq v13 w' => ∃ (x13_1 : Int), v13 = .int .i64 x13_1 ∧ Aside0 (slices_Equal_byte_byte.l0 kq l0 l1 (l0.length : Int) x13_1 = some r) ∧ Aside0 (kq ≤ k) ∧ Drawn0 w w')
  case atStart => exact ⟨(0), tE, H', ⟨Nat.le_refl _⟩, by repeat (first | exact Drawn0.refl _ | apply Drawn0.step)⟩
  case round =>
   clear H'
   try clear c1; try clear c3; try clear c3b0; try clear c3b1; try clear c3b2
   obtain ⟨x13_1, rfl, HA, HK1, ⟨m1, rfl⟩⟩ := hrel
   cases gk with
   | zero => exact absurd HA.out (by simp [slices_Equal_byte_byte.l0])
   | succ k1 =>
    have H := HA.out
    clear HA
    simp only [slices_Equal_byte_byte.l0] at H
    by_cases c4 : x13_1 < (l0.length : Int)
    ·rw [if_pos c4] at H
     have c4b0 : decide (x13_1 < (l0.length : Int)) = true := decide_eq_true c4
     clear c4
     by_cases c5 : 0 ≤ x13_1
     ·rw [if_pos c5] at H
      have c5b0 : decide (0 ≤ x13_1) = true := decide_eq_true c5
      clear c5
      by_cases c6 : x13_1 < (l0.length : Int)
      ·rw [if_pos c6] at H
       have c6b0 : decide (x13_1 < (l0.length : Int)) = true := decide_eq_true c6
       clear c6
       by_cases c7 : x13_1 < (l1.length : Int)
       ·rw [if_pos c7] at H
        have c7b0 : decide (x13_1 < (l1.length : Int)) = true := decide_eq_true c7
        clear c7
        by_cases c8 : (rd l0 x13_1) = (rd l1 x13_1)
        ·rw [if_pos c8] at H
         have c8b0 : ((rd l0 x13_1) == (rd l1 x13_1)) = true := beq_iff_eq.mpr c8
         have c8b1 : ((rd l0 x13_1) != (rd l1 x13_1)) = false := bne_eq_false_iff_eq.mpr c8
         clear c8
         have H' := Aside0.mk H
         clear H
         have p242 : 0 ≤ (x13_1 : Int) := of_decide_eq_true hE
         have q242 : x13_1 < (l0.length : Int) := of_decide_eq_true hE
         obtain ⟨ad242, e242, hx242_0⟩ := Kd.at_int HR0.out x13_1 p242 q242
         cases e242
         replace p242 := eq_true p242
         replace q242 := eq_true q242
         have p243 : 0 ≤ (x13_1 : Int) := of_decide_eq_true hE
         have q243 : x13_1 < (l1.length : Int) := of_decide_eq_true hE
         obtain ⟨ad243, e243, hx243_0⟩ := Kd.at_int HR1.out x13_1 p243 q243
         cases e243
         replace p243 := eq_true p243
         replace q243 := eq_true q243
         go_wp2
         repeat (go_quiet (fail); try go_wp2)
         go_roundg k1
         case measure => have := HK1.out; omega
         case rel => exact ⟨(wrap64 (x13_1 + 1)), tE, H', ⟨by have := HK1.out; omega⟩, by repeat (first | exact Drawn0.refl _ | apply Drawn0.step)⟩
        ·rw [if_neg c8] at H
         have c8b0 : ((rd l0 x13_1) == (rd l1 x13_1)) = false := beq_eq_false_iff_ne.mpr c8
         have c8b1 : ((rd l0 x13_1) != (rd l1 x13_1)) = true := bne_iff_ne.mpr c8
         obtain rfl := Option.some.inj H
         have p242 : 0 ≤ (x13_1 : Int) := of_decide_eq_true hE
         have q242 : x13_1 < (l0.length : Int) := of_decide_eq_true hE
         obtain ⟨ad242, e242, hx242_0⟩ := Kd.at_int HR0.out x13_1 p242 q242
         cases e242
         replace p242 := eq_true p242
         replace q242 := eq_true q242
         have p243 : 0 ≤ (x13_1 : Int) := of_decide_eq_true hE
         have q243 : x13_1 < (l1.length : Int) := of_decide_eq_true hE
         obtain ⟨ad243, e243, hx243_0⟩ := Kd.at_int HR1.out x13_1 p243 q243
         cases e243
         replace p243 := eq_true p243
         replace q243 := eq_true q243
         go_wp2
         repeat (go_quiet (fail); try go_wp2)
         go_ret
         exact ⟨tE, by repeat (first | exact Drawn0.refl _ | apply Drawn0.step)⟩
       ·rw [if_neg c7] at H
        exact absurd H (by simp)
      ·rw [if_neg c6] at H
       exact absurd H (by simp)
     ·rw [if_neg c5] at H
      exact absurd H (by simp)
    ·rw [if_neg c4] at H
     have c4b0 : decide (x13_1 < (l0.length : Int)) = false := decide_eq_false c4
     clear c4
     obtain rfl := Option.some.inj H
     go_wp2
     repeat (go_quiet (fail); try go_wp2)
     go_ret
     exact ⟨tE, by repeat (first | exact Drawn0.refl _ | apply Drawn0.step)⟩
 ·rw [if_neg c3] at H
  have c3b0 : ((l0.length : Int) == (l1.length : Int)) = false := beq_eq_false_iff_ne.mpr c3
  have c3b1 : ((l0.length : Int) != (l1.length : Int)) = true := bne_iff_ne.mpr c3
  have c3b2 : (l0.length == l1.length) = false := by first | simpa using c3 | (simp at c3 ⊢; omega)
  obtain rfl := Option.some.inj H
  go_enter Try.func35, Try.ntmps35
  go_wp2
  repeat (go_quiet (fail); try go_wp2)
  go_ret
  exact ⟨tE, by repeat (first | exact Drawn0.refl _ | apply Drawn0.step)⟩
def impl_four.f (a0 : Int) : Option (List Int) := some (([(a0 / 16777216) % 256, (a0 / 65536) % 256, (a0 / 256) % 256, (a0) % 256] : List Int))
set_option maxHeartbeats 8000000 in
set_option maxRecDepth 100000 in
theorem impl_four.calls (a0 : Int) (r : List Int) (w : World) (h : impl_four.f a0 = some r) :
  Calls Try.prog 36 #[.int .u32 a0] w fun e w' => ∃ v0_ : Value, e = .returned (v0_) ∧ Kd.R (Kd.int .u8) 5 w' w.heap.size (fun _ => True) v0_ r ∧ Below w.heap.size w w' := by
 have HB := Aside0.mk (Below.refl w.heap.size w)
 have H : (some (([(a0 / 16777216) % 256, (a0 / 65536) % 256, (a0 / 256) % 256, (a0) % 256] : List Int))) = some r := h
 clear h
 obtain ⟨y244, hy244⟩ : ∃ y_ : List Int, y_ = (([(a0 / 16777216) % 256, (a0 / 65536) % 256, (a0 / 256) % 256, (a0) % 256] : List Int)) := ⟨_, rfl⟩
 replace H : (some y244) = some r := by first | (rw [hy244]; with_reducible exact H) | (have H2_ := (Option.bind_some _ _).symm.trans H; rw [hy244]; with_reducible exact H2_) | (have H2_ := (Option.bind_some _ _).symm.trans H; with_reducible exact H2_) | with_reducible exact H | (rw [hy244]; exact H) | exact H
 have Ny244 := Aside0.mk hy244
 clear hy244
 obtain rfl := Option.some.inj H
 go_enter Try.func36, Try.ntmps36
 go_wp2_with (first | ((with_reducible refine gate_dst (N := 14) rfl ?_); refine Kd.R_lit (Kd.int .u8) _ 5 ?hg (N := 14) ?hd (xs := ([(a0 / 16777216) % 256, (a0 / 65536) % 256, (a0 / 256) % 256, (a0) % 256] : List Int)) (inner := [.int .u8 ((a0 / 16777216) % 256), .int .u8 ((a0 / 65536) % 256), .int .u8 ((a0 / 256) % 256), .int .u8 ((a0) % 256)]) (ok := fun _ => True) (okp := fun _ => True) ?hr ?hp (fun _ hk => hk) trivial (Below.refl _ _) (Nat.le_refl _) (by simp) ?_; (case hd => rfl); (case hg => rfl); (case hr => exact sE); (case hp => exact (Reps.one (show Kd.M (Kd.int .u8) _ _ _ ((a0 / 16777216) % 256) [.int .u8 ((a0 / 16777216) % 256)] from rfl) (Reps.one (show Kd.M (Kd.int .u8) _ _ _ ((a0 / 65536) % 256) [.int .u8 ((a0 / 65536) % 256)] from rfl) (Reps.one (show Kd.M (Kd.int .u8) _ _ _ ((a0 / 256) % 256) [.int .u8 ((a0 / 256) % 256)] from rfl) (Reps.one (show Kd.M (Kd.int .u8) _ _ _ ((a0) % 256) [.int .u8 ((a0) % 256)] from rfl) (Reps.none _ _)))))); intro v245 w2 ho3 hb hg_ hnew_; clear hg_ hnew_; (first | rw [← Ny244.out] at ho3 | (simp only [Int.reduceToNat] at ho3; rw [← Ny244.out] at ho3)); have HO246 := Aside0.mk (Kd.R_lower ho3 (below_size (lU))); replace HB := bH (lU) hb; clear hb ho3))
 go_ret
 exact ⟨_, eE, by (with_reducible repeat (first | apply Kd.R_alloc | apply Kd.R_drewN | apply Kd.R_drew)); exact HO246.out, lU⟩
def impl_digest.l0 : Nat → Int → List Int → Int → Int → Option (Int)
 | 0, _, _, _, _ => none
 | k + 1, x3, x6, x7, x8 => if x8 < x7 then (if 0 ≤ x8 then (if x8 < (x6.length : Int) then (impl_digest.l0 k (((Go.bits .xor .u32 x3 ((rd x6 x8) % 4294967296)) * 16777619) % 4294967296) x6 x7 (wrap64 (x8 + 1))) else (none)) else (none)) else (some x3)
def impl_digest.f (k : Nat) (l0 : List Int) : Option (Int) := impl_digest.l0 k 2166136261 l0 (l0.length : Int) 0
theorem impl_digest.mono_l : ∀ k, (∀ y0 y1 y2 y3, LeO (impl_digest.l0 k y0 y1 y2 y3) (impl_digest.l0 (k + 1) y0 y1 y2 y3))
 | 0 => fun _ _ _ _ r h => by simp [impl_digest.l0] at h
 | k + 1 => by
  have ih0 := impl_digest.mono_l k
  ·intro y0 y1 y2 y3
   unfold impl_digest.l0
   repeat' first
   | (with_reducible exact ih0 _ _ _ _)
   | (with_reducible first | exact LeO.refl _ | exact LeO.none _ | refine LeO.ite ?_ ?_ | refine LeO.bind ?_ (fun _ => ?_))
   | exact ih0 _ _ _ _ | exact LeO.none _ | refine LeO.ite ?_ ?_ | refine LeO.bind ?_ (fun _ => ?_)
theorem impl_digest.mono : ∀ a0 k, LeO (impl_digest.f k a0) (impl_digest.f (k + 1) a0) := by
 intro a0 k
 have ih0 := impl_digest.mono_l k
 unfold impl_digest.f
 repeat' first
   | (with_reducible exact ih0 _ _ _ _)
   | (with_reducible first | exact LeO.refl _ | exact LeO.none _ | refine LeO.ite ?_ ?_ | refine LeO.bind ?_ (fun _ => ?_))
   | exact ih0 _ _ _ _ | exact LeO.none _ | refine LeO.ite ?_ ?_ | refine LeO.bind ?_ (fun _ => ?_)
set_option maxHeartbeats 8000000 in
set_option maxRecDepth 100000 in
theorem impl_digest.calls (k : Nat) (A0 : Option Addr) (c0 : Nat) (l0 : List Int) (r : Int) (w : World) (hr0 : Kd.C (Kd.int .u8) w A0 l0.length l0) (hc0 : l0.length ≤ c0) (h : impl_digest.f k l0 = some r) :
  Calls Try.prog 37 #[.slice A0 l0.length c0] w fun e w' => e = .returned (.int .u32 r) ∧ Drawn0 w w' := by
 have HR0 := Aside0.mk hr0
 have HC0 := Aside0.mk hc0
 clear hr0 hc0
 have H : (impl_digest.l0 k 2166136261 l0 (l0.length : Int) 0) = some r := h
 clear h
 have H' := Aside0.mk H
 clear H
 go_enter Try.func37, Try.ntmps37
 go_wp2
 go_loopg [3, 8] k (fun kq v3 v8 w' => ∃ (x3_1 : Int) (x8_1 : Int), v3 = .int .u32 x3_1 ∧ v8 = .int .i64 x8_1 ∧ Aside0 (impl_digest.l0 kq x3_1 l0 (l0.length : Int) x8_1 = some r) ∧ Aside0 (kq ≤ k) ∧ Drawn0 w w')
 case atStart => exact ⟨(2166136261), (0), tE, tE, H', ⟨Nat.le_refl _⟩, by repeat (first | exact Drawn0.refl _ | apply Drawn0.step)⟩
 case round =>
  clear H'
  obtain ⟨x3_1, x8_1, rfl, rfl, HA, HK1, ⟨m1, rfl⟩⟩ := hrel
  cases gk with
  | zero => exact absurd HA.out (by simp [impl_digest.l0])
  | succ k1 =>
   have H := HA.out
   clear HA
   simp only [impl_digest.l0] at H
   by_cases c2 : x8_1 < (l0.length : Int)
   ·rw [if_pos c2] at H
    have c2b0 : decide (x8_1 < (l0.length : Int)) = true := decide_eq_true c2
    clear c2
    by_cases c3 : 0 ≤ x8_1
    ·rw [if_pos c3] at H
     have c3b0 : decide (0 ≤ x8_1) = true := decide_eq_true c3
     clear c3
     by_cases c4 : x8_1 < (l0.length : Int)
     ·rw [if_pos c4] at H
      have c4b0 : decide (x8_1 < (l0.length : Int)) = true := decide_eq_true c4
      clear c4
      have H' := Aside0.mk H
      clear H
      have p247 : 0 ≤ (x8_1 : Int) := of_decide_eq_true hE
      have q247 : x8_1 < (l0.length : Int) := of_decide_eq_true hE
      obtain ⟨ad247, e247, hx247_0⟩ := Kd.at_int HR0.out x8_1 p247 q247
      cases e247
      replace p247 := eq_true p247
      replace q247 := eq_true q247
      go_wp2
      go_roundg k1
      case measure => have := HK1.out; omega
      case rel => exact ⟨(((Go.bits .xor .u32 x3_1 ((rd l0 x8_1) % 4294967296)) * 16777619) % 4294967296), (wrap64 (x8_1 + 1)), tE, tE, H', ⟨by have := HK1.out; omega⟩, by repeat (first | exact Drawn0.refl _ | apply Drawn0.step)⟩
     ·rw [if_neg c4] at H
      exact absurd H (by simp)
    ·rw [if_neg c3] at H
     exact absurd H (by simp)
   ·rw [if_neg c2] at H
    have c2b0 : decide (x8_1 < (l0.length : Int)) = false := decide_eq_false c2
    clear c2
    obtain rfl := Option.some.inj H
    go_wp2
    go_ret
    exact ⟨tE, by repeat (first | exact Drawn0.refl _ | apply Drawn0.step)⟩
def impl_inRange.f (a0 : Int) (a1 : Int) (a2 : Int) : Option (Bool) := if a1 ≤ a0 then (some (decide (a0 ≤ a2))) else (some false)
set_option maxHeartbeats 8000000 in
set_option maxRecDepth 100000 in
theorem impl_inRange.calls (a0 : Int) (a1 : Int) (a2 : Int) (r : Bool) (w : World) (h : impl_inRange.f a0 a1 a2 = some r) :
  Calls Try.prog 40 #[.int .i64 a0, .int .i64 a1, .int .i64 a2] w fun e w' => e = .returned (.bool r) ∧ Drawn0 w w' := by
 have H : (if a1 ≤ a0 then (some (decide (a0 ≤ a2))) else (some false)) = some r := h
 clear h
 by_cases c4 : a1 ≤ a0
 ·rw [if_pos c4] at H
  have c4b0 : decide (a1 ≤ a0) = true := decide_eq_true c4
  clear c4
  obtain rfl := Option.some.inj H
  go_enter Try.func40, Try.ntmps40
  go_wp2
  go_ret
  exact ⟨tE, by repeat (first | exact Drawn0.refl _ | apply Drawn0.step)⟩
 ·rw [if_neg c4] at H
  have c4b0 : decide (a1 ≤ a0) = false := decide_eq_false c4
  clear c4
  obtain rfl := Option.some.inj H
  go_enter Try.func40, Try.ntmps40
  go_wp2
  go_ret
  exact ⟨tE, by repeat (first | exact Drawn0.refl _ | apply Drawn0.step)⟩
def impl_isLetter.f (a0 : Int) : Option (Bool) := if a0 ≥ 97 then (if a0 ≤ 122 then (some true) else (if a0 ≥ 65 then (some (decide (a0 ≤ 90))) else (some false))) else (if a0 ≥ 65 then (some (decide (a0 ≤ 90))) else (some false))
set_option maxHeartbeats 8000000 in
set_option maxRecDepth 100000 in
theorem impl_isLetter.calls (a0 : Int) (r : Bool) (w : World) (h : impl_isLetter.f a0 = some r) :
  Calls Try.prog 57 #[.int .u8 a0] w fun e w' => e = .returned (.bool r) ∧ Drawn0 w w' := by
 have H : (if a0 ≥ 97 then (if a0 ≤ 122 then (some true) else (if a0 ≥ 65 then (some (decide (a0 ≤ 90))) else (some false))) else (if a0 ≥ 65 then (some (decide (a0 ≤ 90))) else (some false))) = some r := h
 clear h
 by_cases c2 : a0 ≥ 97
 ·rw [if_pos c2] at H
  have c2b0 : decide (97 ≤ a0) = true := decide_eq_true c2
  clear c2
  by_cases c3 : a0 ≤ 122
  ·rw [if_pos c3] at H
   have c3b0 : decide (a0 ≤ 122) = true := decide_eq_true c3
   clear c3
   obtain rfl := Option.some.inj H
   go_enter Try.func57, Try.ntmps57
   go_wp2
   go_ret
   exact ⟨tE, by repeat (first | exact Drawn0.refl _ | apply Drawn0.step)⟩
  ·rw [if_neg c3] at H
   have c3b0 : decide (a0 ≤ 122) = false := decide_eq_false c3
   clear c3
   by_cases c4 : a0 ≥ 65
   ·rw [if_pos c4] at H
    have c4b0 : decide (65 ≤ a0) = true := decide_eq_true c4
    clear c4
    obtain rfl := Option.some.inj H
    go_enter Try.func57, Try.ntmps57
    go_wp2
    go_ret
    exact ⟨tE, by repeat (first | exact Drawn0.refl _ | apply Drawn0.step)⟩
   ·rw [if_neg c4] at H
    have c4b0 : decide (65 ≤ a0) = false := decide_eq_false c4
    clear c4
    obtain rfl := Option.some.inj H
    go_enter Try.func57, Try.ntmps57
    go_wp2
    go_ret
    exact ⟨tE, by repeat (first | exact Drawn0.refl _ | apply Drawn0.step)⟩
 ·rw [if_neg c2] at H
  have c2b0 : decide (97 ≤ a0) = false := decide_eq_false c2
  clear c2
  by_cases c5 : a0 ≥ 65
  ·rw [if_pos c5] at H
   have c5b0 : decide (65 ≤ a0) = true := decide_eq_true c5
   clear c5
   obtain rfl := Option.some.inj H
   go_enter Try.func57, Try.ntmps57
   go_wp2
   go_ret
   exact ⟨tE, by repeat (first | exact Drawn0.refl _ | apply Drawn0.step)⟩
  ·rw [if_neg c5] at H
   have c5b0 : decide (65 ≤ a0) = false := decide_eq_false c5
   clear c5
   obtain rfl := Option.some.inj H
   go_enter Try.func57, Try.ntmps57
   go_wp2
   go_ret
   exact ⟨tE, by repeat (first | exact Drawn0.refl _ | apply Drawn0.step)⟩
def impl_isDigit.f (a0 : Int) : Option (Bool) := if a0 ≥ 48 then (some (decide (a0 ≤ 57))) else (some false)
set_option maxHeartbeats 8000000 in
set_option maxRecDepth 100000 in
theorem impl_isDigit.calls (a0 : Int) (r : Bool) (w : World) (h : impl_isDigit.f a0 = some r) :
  Calls Try.prog 58 #[.int .u8 a0] w fun e w' => e = .returned (.bool r) ∧ Drawn0 w w' := by
 have H : (if a0 ≥ 48 then (some (decide (a0 ≤ 57))) else (some false)) = some r := h
 clear h
 by_cases c2 : a0 ≥ 48
 ·rw [if_pos c2] at H
  have c2b0 : decide (48 ≤ a0) = true := decide_eq_true c2
  clear c2
  obtain rfl := Option.some.inj H
  go_enter Try.func58, Try.ntmps58
  go_wp2
  go_ret
  exact ⟨tE, by repeat (first | exact Drawn0.refl _ | apply Drawn0.step)⟩
 ·rw [if_neg c2] at H
  have c2b0 : decide (48 ≤ a0) = false := decide_eq_false c2
  clear c2
  obtain rfl := Option.some.inj H
  go_enter Try.func58, Try.ntmps58
  go_wp2
  go_ret
  exact ⟨tE, by repeat (first | exact Drawn0.refl _ | apply Drawn0.step)⟩
end Go.Proofs.Ytjjbkebodkjnkaa.PFnExactLoadSave
namespace Go.Proofs.Ytjjbkebodkjnkaa.PFnExactLoadSave
open Go.RowKit Go.Proofs.YtjjbkebodkjnkaaW.PrintWords Go.Proofs.YtjjbkebodkjnkaaW.PrintLast Go.Proofs.YtjjbkebodkjnkaaW.PrintMore
attribute [local go_sem] max2_int min2_int max_two min_two max_three min_three max_four min_four
set_option linter.unusedVariables false
set_option linter.unusedSimpArgs false
def impl_GoodName.l0 : Nat → ByteArray → Int → Int → Option (Bool)
 | 0, _, _, _ => none
 | k + 1, x0, x5, x6 => if x6 < x5 then (if 0 ≤ x6 then (if x6 < (x0.size : Int) then ((impl_isLetter.f (bt x0 x6)).bind fun t249 => (if t249 = true then (impl_GoodName.l0 k x0 x5 (wrap64 (x6 + 1))) else (if (bt x0 x6) = 95 then (impl_GoodName.l0 k x0 x5 (wrap64 (x6 + 1))) else (if x6 = 0 then (some false) else ((impl_isDigit.f (bt x0 x6)).bind fun t250 => (if t250 = true then (impl_GoodName.l0 k x0 x5 (wrap64 (x6 + 1))) else (some false))))))) else (none)) else (none)) else ((impl_inRange.f (x0.size : Int) 1 20).bind fun t248 => (some t248))
def impl_GoodName.f (k : Nat) (a0 : ByteArray) : Option (Bool) := impl_GoodName.l0 k a0 (a0.size : Int) 0
theorem impl_GoodName.mono_l : ∀ k, (∀ y0 y1 y2, LeO (impl_GoodName.l0 k y0 y1 y2) (impl_GoodName.l0 (k + 1) y0 y1 y2))
 | 0 => fun _ _ _ r h => by simp [impl_GoodName.l0] at h
 | k + 1 => by
  have ih0 := impl_GoodName.mono_l k
  ·intro y0 y1 y2
   unfold impl_GoodName.l0
   repeat' first
   | (with_reducible exact ih0 _ _ _)
   | (with_reducible first | exact LeO.refl _ | exact LeO.none _ | refine LeO.ite ?_ ?_ | refine LeO.bind ?_ (fun _ => ?_))
   | exact ih0 _ _ _ | exact LeO.none _ | refine LeO.ite ?_ ?_ | refine LeO.bind ?_ (fun _ => ?_)
theorem impl_GoodName.mono : ∀ a0 k, LeO (impl_GoodName.f k a0) (impl_GoodName.f (k + 1) a0) := by
 intro a0 k
 have ih0 := impl_GoodName.mono_l k
 unfold impl_GoodName.f
 repeat' first
   | (with_reducible exact ih0 _ _ _)
   | (with_reducible first | exact LeO.refl _ | exact LeO.none _ | refine LeO.ite ?_ ?_ | refine LeO.bind ?_ (fun _ => ?_))
   | exact ih0 _ _ _ | exact LeO.none _ | refine LeO.ite ?_ ?_ | refine LeO.bind ?_ (fun _ => ?_)
set_option maxHeartbeats 8000000 in
set_option maxRecDepth 100000 in
theorem impl_GoodName.calls (k : Nat) (a0 : ByteArray) (r : Bool) (w : World) (h : impl_GoodName.f k a0 = some r) :
  Calls Try.prog 49 #[.string a0] w fun e w' => e = .returned (.bool r) ∧ Drawn0 w w' := by
 have H : (impl_GoodName.l0 k a0 (a0.size : Int) 0) = some r := h
 clear h
 have H' := Aside0.mk H
 clear H
 go_enter Try.func49, Try.ntmps49
 go_wp2
 go_loopg [6] k (fun kq v6 w' => ∃ (x6_1 : Int), v6 = .int .i64 x6_1 ∧ Aside0 (impl_GoodName.l0 kq a0 (a0.size : Int) x6_1 = some r) ∧ Aside0 (kq ≤ k) ∧ Drawn0 w w')
 case atStart => exact ⟨(0), tE, H', ⟨Nat.le_refl _⟩, by repeat (first | exact Drawn0.refl _ | apply Drawn0.step)⟩
 case round =>
  clear H'
  obtain ⟨x6_1, rfl, HA, HK1, ⟨m1, rfl⟩⟩ := hrel
  cases gk with
  | zero => exact absurd HA.out (by simp [impl_GoodName.l0])
  | succ k1 =>
   have H := HA.out
   clear HA
   simp only [impl_GoodName.l0] at H
   by_cases c2 : x6_1 < (a0.size : Int)
   ·rw [if_pos c2] at H
    have c2b0 : decide (x6_1 < (a0.size : Int)) = true := decide_eq_true c2
    clear c2
    by_cases c3 : 0 ≤ x6_1
    ·rw [if_pos c3] at H
     have c3b0 : decide (0 ≤ x6_1) = true := decide_eq_true c3
     clear c3
     by_cases c4 : x6_1 < (a0.size : Int)
     ·rw [if_pos c4] at H
      have c4b0 : decide (x6_1 < (a0.size : Int)) = true := decide_eq_true c4
      clear c4
      replace H := Option.bind_eq_some_iff.mp H
      obtain ⟨t249, A60, H⟩ := H
      replace H : (if t249 = true then (impl_GoodName.l0 k1 a0 (a0.size : Int) (wrap64 (x6_1 + 1))) else (if (bt a0 x6_1) = 95 then (impl_GoodName.l0 k1 a0 (a0.size : Int) (wrap64 (x6_1 + 1))) else (if x6_1 = 0 then (some false) else ((impl_isDigit.f (bt a0 x6_1)).bind fun t250 => (if t250 = true then (impl_GoodName.l0 k1 a0 (a0.size : Int) (wrap64 (x6_1 + 1))) else (some false)))))) = some r := H
      have A6 := Aside0.mk A60
      clear A60
      by_cases c7 : t249 = true
      ·subst c7
       have H1 : (impl_GoodName.l0 k1 a0 (a0.size : Int) (wrap64 (x6_1 + 1))) = some r := by rw [if_pos rfl] at H; exact H
       clear H
       have H := H1
       clear H1
       have H' := Aside0.mk H
       clear H
       have p5 : 0 ≤ (x6_1 : Int) := of_decide_eq_true hE
       have q5 : x6_1 < (a0.size : Int) := of_decide_eq_true hE
       have hx5 := bt_at a0 x6_1
       replace p5 := eq_true p5
       replace q5 := eq_true q5
       go_wp2_with (first | ((with_reducible refine gate_callee (f := 57) rfl ?_); refine goesL_ (some 12) rfl rfl Try.func57 (by kernel_rfl) rfl #[.int .u8 (bt a0 x6_1)] rfl aE ?_; (with_reducible refine (impl_isLetter.calls (bt a0 x6_1) true _ A6.out).mono ?_); rintro e w' ⟨rfl, ⟨nd, rfl⟩⟩; refine ⟨_, rfl, ?_⟩))
       go_roundg k1
       case measure => have := HK1.out; omega
       case rel => exact ⟨(wrap64 (x6_1 + 1)), tE, H', ⟨by have := HK1.out; omega⟩, by repeat (first | exact Drawn0.refl _ | apply Drawn0.step)⟩
      ·replace c7 := Bool.eq_false_iff.mpr c7
       subst c7
       have H1 : (if (bt a0 x6_1) = 95 then (impl_GoodName.l0 k1 a0 (a0.size : Int) (wrap64 (x6_1 + 1))) else (if x6_1 = 0 then (some false) else ((impl_isDigit.f (bt a0 x6_1)).bind fun t250 => (if t250 = true then (impl_GoodName.l0 k1 a0 (a0.size : Int) (wrap64 (x6_1 + 1))) else (some false))))) = some r := by rw [if_neg (show ¬ (false = true) by decide)] at H; exact H
       clear H
       have H := H1
       clear H1
       by_cases c9 : (bt a0 x6_1) = 95
       ·rw [if_pos c9] at H
        have c9b0 : ((bt a0 x6_1) == 95) = true := beq_iff_eq.mpr c9
        have c9b1 : ((bt a0 x6_1) != 95) = false := bne_eq_false_iff_eq.mpr c9
        clear c9
        have H' := Aside0.mk H
        clear H
        have p5 : 0 ≤ (x6_1 : Int) := of_decide_eq_true hE
        have q5 : x6_1 < (a0.size : Int) := of_decide_eq_true hE
        have hx5 := bt_at a0 x6_1
        replace p5 := eq_true p5
        replace q5 := eq_true q5
        go_wp2_with (first | ((with_reducible refine gate_callee (f := 57) rfl ?_); refine goesL_ (some 12) rfl rfl Try.func57 (by kernel_rfl) rfl #[.int .u8 (bt a0 x6_1)] rfl aE ?_; (with_reducible refine (impl_isLetter.calls (bt a0 x6_1) false _ A6.out).mono ?_); rintro e w' ⟨rfl, ⟨nd, rfl⟩⟩; refine ⟨_, rfl, ?_⟩; have p8 : 0 ≤ (x6_1 : Int) := of_decide_eq_true hE; have q8 : x6_1 < (a0.size : Int) := of_decide_eq_true hE; have hx8 := bt_at a0 x6_1; replace p8 := eq_true p8; replace q8 := eq_true q8))
        go_roundg k1
        case measure => have := HK1.out; omega
        case rel => exact ⟨(wrap64 (x6_1 + 1)), tE, H', ⟨by have := HK1.out; omega⟩, by repeat (first | exact Drawn0.refl _ | apply Drawn0.step)⟩
       ·rw [if_neg c9] at H
        have c9b0 : ((bt a0 x6_1) == 95) = false := beq_eq_false_iff_ne.mpr c9
        have c9b1 : ((bt a0 x6_1) != 95) = true := bne_iff_ne.mpr c9
        by_cases c10 : x6_1 = 0
        ·rw [if_pos c10] at H
         have c10b0 : (x6_1 == 0) = true := beq_iff_eq.mpr c10
         have c10b1 : (x6_1 != 0) = false := bne_eq_false_iff_eq.mpr c10
         clear c10
         obtain rfl := Option.some.inj H
         have p5 : 0 ≤ (x6_1 : Int) := of_decide_eq_true hE
         have q5 : x6_1 < (a0.size : Int) := of_decide_eq_true hE
         have hx5 := bt_at a0 x6_1
         replace p5 := eq_true p5
         replace q5 := eq_true q5
         go_wp2_with (first | ((with_reducible refine gate_callee (f := 57) rfl ?_); refine goesL_ (some 12) rfl rfl Try.func57 (by kernel_rfl) rfl #[.int .u8 (bt a0 x6_1)] rfl aE ?_; (with_reducible refine (impl_isLetter.calls (bt a0 x6_1) false _ A6.out).mono ?_); rintro e w' ⟨rfl, ⟨nd, rfl⟩⟩; refine ⟨_, rfl, ?_⟩; have p8 : 0 ≤ (x6_1 : Int) := of_decide_eq_true hE; have q8 : x6_1 < (a0.size : Int) := of_decide_eq_true hE; have hx8 := bt_at a0 x6_1; replace p8 := eq_true p8; replace q8 := eq_true q8))
         go_ret
         exact ⟨tE, by repeat (first | exact Drawn0.refl _ | apply Drawn0.step)⟩
        ·rw [if_neg c10] at H
         have c10b0 : (x6_1 == 0) = false := beq_eq_false_iff_ne.mpr c10
         have c10b1 : (x6_1 != 0) = true := bne_iff_ne.mpr c10
         replace H := Option.bind_eq_some_iff.mp H
         obtain ⟨t250, A120, H⟩ := H
         replace H : (if t250 = true then (impl_GoodName.l0 k1 a0 (a0.size : Int) (wrap64 (x6_1 + 1))) else (some false)) = some r := H
         have A12 := Aside0.mk A120
         clear A120
         by_cases c13 : t250 = true
         ·subst c13
          have H1 : (impl_GoodName.l0 k1 a0 (a0.size : Int) (wrap64 (x6_1 + 1))) = some r := by rw [if_pos rfl] at H; exact H
          clear H
          have H := H1
          clear H1
          have H' := Aside0.mk H
          clear H
          have p5 : 0 ≤ (x6_1 : Int) := of_decide_eq_true hE
          have q5 : x6_1 < (a0.size : Int) := of_decide_eq_true hE
          have hx5 := bt_at a0 x6_1
          replace p5 := eq_true p5
          replace q5 := eq_true q5
          go_wp2_with (first | ((with_reducible refine gate_callee (f := 57) rfl ?_); refine goesL_ (some 12) rfl rfl Try.func57 (by kernel_rfl) rfl #[.int .u8 (bt a0 x6_1)] rfl aE ?_; (with_reducible refine (impl_isLetter.calls (bt a0 x6_1) false _ A6.out).mono ?_); rintro e w' ⟨rfl, ⟨nd, rfl⟩⟩; refine ⟨_, rfl, ?_⟩; have p8 : 0 ≤ (x6_1 : Int) := of_decide_eq_true hE; have q8 : x6_1 < (a0.size : Int) := of_decide_eq_true hE; have hx8 := bt_at a0 x6_1; replace p8 := eq_true p8; replace q8 := eq_true q8; have p11 : 0 ≤ (x6_1 : Int) := of_decide_eq_true hE; have q11 : x6_1 < (a0.size : Int) := of_decide_eq_true hE; have hx11 := bt_at a0 x6_1; replace p11 := eq_true p11; replace q11 := eq_true q11) | (go_at_call 58; (with_reducible refine (impl_isDigit.calls (bt a0 x6_1) true _ A12.out).mono ?_); rintro e w' ⟨rfl, ⟨nd, rfl⟩⟩))
          go_roundg k1
          case measure => have := HK1.out; omega
          case rel => exact ⟨(wrap64 (x6_1 + 1)), tE, H', ⟨by have := HK1.out; omega⟩, by repeat (first | exact Drawn0.refl _ | apply Drawn0.step)⟩
         ·replace c13 := Bool.eq_false_iff.mpr c13
          subst c13
          have H1 : (some false) = some r := by rw [if_neg (show ¬ (false = true) by decide)] at H; exact H
          clear H
          have H := H1
          clear H1
          obtain rfl := Option.some.inj H
          have p5 : 0 ≤ (x6_1 : Int) := of_decide_eq_true hE
          have q5 : x6_1 < (a0.size : Int) := of_decide_eq_true hE
          have hx5 := bt_at a0 x6_1
          replace p5 := eq_true p5
          replace q5 := eq_true q5
          go_wp2_with (first | ((with_reducible refine gate_callee (f := 57) rfl ?_); refine goesL_ (some 12) rfl rfl Try.func57 (by kernel_rfl) rfl #[.int .u8 (bt a0 x6_1)] rfl aE ?_; (with_reducible refine (impl_isLetter.calls (bt a0 x6_1) false _ A6.out).mono ?_); rintro e w' ⟨rfl, ⟨nd, rfl⟩⟩; refine ⟨_, rfl, ?_⟩; have p8 : 0 ≤ (x6_1 : Int) := of_decide_eq_true hE; have q8 : x6_1 < (a0.size : Int) := of_decide_eq_true hE; have hx8 := bt_at a0 x6_1; replace p8 := eq_true p8; replace q8 := eq_true q8; have p11 : 0 ≤ (x6_1 : Int) := of_decide_eq_true hE; have q11 : x6_1 < (a0.size : Int) := of_decide_eq_true hE; have hx11 := bt_at a0 x6_1; replace p11 := eq_true p11; replace q11 := eq_true q11) | (go_at_call 58; (with_reducible refine (impl_isDigit.calls (bt a0 x6_1) false _ A12.out).mono ?_); rintro e w' ⟨rfl, ⟨nd, rfl⟩⟩))
          go_ret
          exact ⟨tE, by repeat (first | exact Drawn0.refl _ | apply Drawn0.step)⟩
     ·rw [if_neg c4] at H
      exact absurd H (by simp)
    ·rw [if_neg c3] at H
     exact absurd H (by simp)
   ·rw [if_neg c2] at H
    have c2b0 : decide (x6_1 < (a0.size : Int)) = false := decide_eq_false c2
    clear c2
    replace H := Option.bind_eq_some_iff.mp H
    obtain ⟨t248, A140, H⟩ := H
    replace H : (some t248) = some r := H
    have A14 := Aside0.mk A140
    clear A140
    obtain rfl := Option.some.inj H
    go_wp2_with (first | ((with_reducible refine gate_callee (f := 40) rfl ?_); refine goesL_ (some 34) rfl rfl Try.func40 (by kernel_rfl) rfl #[.int .i64 (a0.size : Int), .int .i64 1, .int .i64 20] rfl aE ?_; (with_reducible refine (impl_inRange.calls (a0.size : Int) 1 20 t248 _ A14.out).mono ?_); rintro e w' ⟨rfl, ⟨nd, rfl⟩⟩; refine ⟨_, rfl, ?_⟩))
    go_ret
    exact ⟨tE, by repeat (first | exact Drawn0.refl _ | apply Drawn0.step)⟩
def impl_GoodValues.l0 : Nat → List (S49) → List (S49) → Int → Int → Option (Bool)
 | 0, _, _, _, _ => none
 | k + 1, x0, x5, x6, x7 => if x7 < x6 then (if 0 ≤ x7 then (if x7 < (x5.length : Int) then ((impl_GoodName.f k ((rd_T49 x5 x7).f0)).bind fun t253 => (if t253 = true then (if x7 > 0 then (if 0 ≤ (wrap64 (x7 - 1)) then (if (wrap64 (x7 - 1)) < (x0.length : Int) then (if ((Op.bytesLess (((rd_T49 x0 (wrap64 (x7 - 1))).f0).toList) (((rd_T49 x5 x7).f0).toList)) = true) then (if (((rd_T49 x5 x7).f2).size : Int) > 100 then (some false) else (impl_GoodValues.l0 k x0 x5 x6 (wrap64 (x7 + 1)))) else (some false)) else (none)) else (none)) else (if (((rd_T49 x5 x7).f2).size : Int) > 100 then (some false) else (impl_GoodValues.l0 k x0 x5 x6 (wrap64 (x7 + 1))))) else (some false))) else (none)) else (none)) else (some (decide ((x0.length : Int) ≤ 30)))
def impl_GoodValues.f (k : Nat) (l0 : List (S49)) : Option (Bool) := impl_GoodValues.l0 k l0 l0 (l0.length : Int) 0
theorem impl_GoodValues.mono_l : ∀ k, (∀ y0 y1 y2 y3, LeO (impl_GoodValues.l0 k y0 y1 y2 y3) (impl_GoodValues.l0 (k + 1) y0 y1 y2 y3))
 | 0 => fun _ _ _ _ r h => by simp [impl_GoodValues.l0] at h
 | k + 1 => by
  have ih0 := impl_GoodValues.mono_l k
  ·intro y0 y1 y2 y3
   unfold impl_GoodValues.l0
   repeat' first
   | (with_reducible exact ih0 _ _ _ _)
   | (with_reducible exact impl_GoodName.mono _ _)
   | (with_reducible first | exact LeO.refl _ | exact LeO.none _ | refine LeO.ite ?_ ?_ | refine LeO.bind ?_ (fun _ => ?_))
   | exact ih0 _ _ _ _
   | exact impl_GoodName.mono _ _ | exact LeO.none _ | refine LeO.ite ?_ ?_ | refine LeO.bind ?_ (fun _ => ?_)
theorem impl_GoodValues.mono : ∀ a0 k, LeO (impl_GoodValues.f k a0) (impl_GoodValues.f (k + 1) a0) := by
 intro a0 k
 have ih0 := impl_GoodValues.mono_l k
 unfold impl_GoodValues.f
 repeat' first
   | (with_reducible exact ih0 _ _ _ _)
   | (with_reducible exact impl_GoodName.mono _ _)
   | (with_reducible first | exact LeO.refl _ | exact LeO.none _ | refine LeO.ite ?_ ?_ | refine LeO.bind ?_ (fun _ => ?_))
   | exact ih0 _ _ _ _
   | exact impl_GoodName.mono _ _ | exact LeO.none _ | refine LeO.ite ?_ ?_ | refine LeO.bind ?_ (fun _ => ?_)
set_option maxHeartbeats 8000000 in
set_option maxRecDepth 100000 in
theorem impl_GoodValues.calls (k : Nat) (A0 : Option Addr) (c0 : Nat) (l0 : List (S49)) (r : Bool) (w : World) (hr0 : Kd.C k49 w A0 l0.length l0) (hc0 : l0.length ≤ c0) (h : impl_GoodValues.f k l0 = some r) :
  Calls Try.prog 41 #[.slice A0 l0.length c0] w fun e w' => e = .returned (.bool r) ∧ Below w.heap.size w w' := by
 have hu49 := Try.underlying49
 have HR0 := Aside0.mk hr0
 have HC0 := Aside0.mk hc0
 clear hr0 hc0
 have HB := Aside0.mk (Below.refl w.heap.size w)
 have H : (impl_GoodValues.l0 k l0 l0 (l0.length : Int) 0) = some r := h
 clear h
 have H' := Aside0.mk H
 clear H
 go_enter Try.func41, Try.ntmps41
 go_wp2
 repeat (go_quiet (fail); try go_wp2)
 go_loopg [7] k (fun kq v7 w' => ∃ (x7_1 : Int), v7 = .int .i64 x7_1 ∧ Aside0 (impl_GoodValues.l0 kq l0 l0 (l0.length : Int) x7_1 = some r) ∧ Aside0 (kq ≤ k) ∧ Aside0 (Below w.heap.size w w'))
 case atStart => exact ⟨(0), tE, H', ⟨Nat.le_refl _⟩, ⟨by repeat (first | (with_reducible first | exact HB.out | apply below_alloc | apply pw_below_drewN | apply below_drew1) | exact HB.out)⟩⟩
 case round =>
  clear H'
  obtain ⟨x7_1, rfl, HA, HK1, HB⟩ := hrel
  cases gk with
  | zero => exact absurd HA.out (by simp [impl_GoodValues.l0])
  | succ k1 =>
   have H := HA.out
   clear HA
   simp only [impl_GoodValues.l0] at H
   by_cases c2 : x7_1 < (l0.length : Int)
   ·rw [if_pos c2] at H
    have c2b0 : decide (x7_1 < (l0.length : Int)) = true := decide_eq_true c2
    clear c2
    by_cases c3 : 0 ≤ x7_1
    ·rw [if_pos c3] at H
     have c3b0 : decide (0 ≤ x7_1) = true := decide_eq_true c3
     clear c3
     by_cases c4 : x7_1 < (l0.length : Int)
     ·rw [if_pos c4] at H
      have c4b0 : decide (x7_1 < (l0.length : Int)) = true := decide_eq_true c4
      clear c4
      replace H := Option.bind_eq_some_iff.mp H
      obtain ⟨t253, A50, H⟩ := H
      replace H : (if t253 = true then (if x7_1 > 0 then (if 0 ≤ (wrap64 (x7_1 - 1)) then (if (wrap64 (x7_1 - 1)) < (l0.length : Int) then (if ((Op.bytesLess (((rd_T49 l0 (wrap64 (x7_1 - 1))).f0).toList) (((rd_T49 l0 x7_1).f0).toList)) = true) then (if (((rd_T49 l0 x7_1).f2).size : Int) > 100 then (some false) else (impl_GoodValues.l0 k1 l0 l0 (l0.length : Int) (wrap64 (x7_1 + 1)))) else (some false)) else (none)) else (none)) else (if (((rd_T49 l0 x7_1).f2).size : Int) > 100 then (some false) else (impl_GoodValues.l0 k1 l0 l0 (l0.length : Int) (wrap64 (x7_1 + 1))))) else (some false)) = some r := H
      have A5 := Aside0.mk A50
      clear A50
      by_cases c6 : t253 = true
      ·subst c6
       have H1 : (if x7_1 > 0 then (if 0 ≤ (wrap64 (x7_1 - 1)) then (if (wrap64 (x7_1 - 1)) < (l0.length : Int) then (if ((Op.bytesLess (((rd_T49 l0 (wrap64 (x7_1 - 1))).f0).toList) (((rd_T49 l0 x7_1).f0).toList)) = true) then (if (((rd_T49 l0 x7_1).f2).size : Int) > 100 then (some false) else (impl_GoodValues.l0 k1 l0 l0 (l0.length : Int) (wrap64 (x7_1 + 1)))) else (some false)) else (none)) else (none)) else (if (((rd_T49 l0 x7_1).f2).size : Int) > 100 then (some false) else (impl_GoodValues.l0 k1 l0 l0 (l0.length : Int) (wrap64 (x7_1 + 1))))) = some r := by rw [if_pos rfl] at H; exact H
       clear H
       have H := H1
       clear H1
       by_cases c7 : x7_1 > 0
       ·rw [if_pos c7] at H
        have c7b0 : decide (0 < x7_1) = true := decide_eq_true c7
        clear c7
        obtain ⟨ji8, hji8⟩ : ∃ j_ : Int, (wrap64 (x7_1 - 1)) = j_ := ⟨_, rfl⟩
        replace H : (if 0 ≤ (ji8) then (if (ji8) < (l0.length : Int) then (if ((Op.bytesLess (((rd_T49 l0 (ji8)).f0).toList) (((rd_T49 l0 x7_1).f0).toList)) = true) then (if (((rd_T49 l0 x7_1).f2).size : Int) > 100 then (some false) else (impl_GoodValues.l0 k1 l0 l0 (l0.length : Int) (wrap64 (x7_1 + 1)))) else (some false)) else (none)) else (none)) = some r := by first | (rw [hji8] at H; exact H) | (simp only [hji8] at H ⊢; exact H)
        (try rw [hji8] at A5)
        have hji8w : (IntKind.i64.wrap (x7_1 - 1)) = ji8 := (i64_w _).trans hji8
        by_cases c9 : 0 ≤ (ji8)
        ·rw [if_pos c9] at H
         have c9b0 : decide (0 ≤ (ji8)) = true := decide_eq_true c9
         clear c9
         by_cases c10 : (ji8) < (l0.length : Int)
         ·rw [if_pos c10] at H
          have c10b0 : decide ((ji8) < (l0.length : Int)) = true := decide_eq_true c10
          clear c10
          by_cases c11 : ((Op.bytesLess (((rd_T49 l0 (ji8)).f0).toList) (((rd_T49 l0 x7_1).f0).toList)) = true)
          ·rw [if_pos c11] at H
           have c11b0 : (Op.bytesLess (((rd_T49 l0 (ji8)).f0).toList) (((rd_T49 l0 x7_1).f0).toList)) = true := c11
           clear c11
           by_cases c12 : (((rd_T49 l0 x7_1).f2).size : Int) > 100
           ·rw [if_pos c12] at H
            have c12b0 : decide (100 < (((rd_T49 l0 x7_1).f2).size : Int)) = true := decide_eq_true c12
            have c12b1 : decide (100 < ((rd_T49 l0 x7_1).f2).size) = true := decide_eq_true (by omega)
            clear c12
            obtain rfl := Option.some.inj H
            have p251 : 0 ≤ (x7_1 : Int) := of_decide_eq_true hE
            have q251 : x7_1 < (l0.length : Int) := of_decide_eq_true hE
            obtain ⟨ad251, e251, hx251_0, hx251_1, hx251_2⟩ := at_T49 HR0.out x7_1 p251 q251
            cases e251
            replace hx251_0 := (HB.out.cell (World.block_lt_of_cell? w _ hx251_0)).trans hx251_0
            replace hx251_1 := (HB.out.cell (World.block_lt_of_cell? w _ hx251_1)).trans hx251_1
            replace hx251_2 := (HB.out.cell (World.block_lt_of_cell? w _ hx251_2)).trans hx251_2
            replace p251 := eq_true p251
            replace q251 := eq_true q251
            go_wp2_with (first | ((with_reducible refine gate_dst (N := 4) rfl ?_); (try (refine gate_guard (by rfl) ?_; dsimp only)); refine box_event rfl (N := 4) rfl (cs := #[.string (⟨#[]⟩ : ByteArray), .int .i64 0, .string (⟨#[]⟩ : ByteArray)]) (t := 49) sE ?_; intro gb252 hg w13 hbox hb; have BK252 := Aside0.mk hbox; have GW252 := gS w hg (lU); have GE252 := gS w hg (lU); replace HB := bH (lU) hb; clear hb hbox hg; have hcz14_0 := cz BK252 0 (.string (⟨#[]⟩ : ByteArray)); have hcz14_1 := cz BK252 1 (.int .i64 0); have hcz14_2 := cz BK252 2 (.string (⟨#[]⟩ : ByteArray)); have hfz14_0 := fz BK252 0; have hfz14_1 := fz BK252 1; have hfz14_2 := fz BK252 2) | ((with_reducible refine gate_store (t := 49) (p := 4) rfl ?_); (try (rw [drewN_self w13]; generalize hq_ : World.drewN w13 _ = w13; replace BK252 := Aside0.mk (blk_at hq_ BK252.out); replace HB := Aside0.mk (below_at hq_ HB.out); clear hq_)); refine store_event (t := 49) (p := 4) (v := ?vo_w15) (w1 := (((w13.setCell ⟨gb252, 0, none⟩ (.string ((rd_T49 l0 x7_1).f0))).setCell ⟨gb252, 1, none⟩ (.int .i64 ((rd_T49 l0 x7_1).f1))).setCell ⟨gb252, 2, none⟩ (.string ((rd_T49 l0 x7_1).f2)))) ?hg ?ho ?hn ?hr ?_; (case ho => rfl); (case hg => rfl); (case hn => rfl); (case hr => first | (go_simp; done) | (go_simp; rfl) | (have hq0_ := (blk_cell BK252.out 0).trans (show _ = some _ from rfl); have hf0_ := blk_frozen BK252.out 0; have hq1_ := (blk_cell BK252.out 1).trans (show _ = some _ from rfl); have hf1_ := blk_frozen BK252.out 1; have hq2_ := (blk_cell BK252.out 2).trans (show _ = some _ from rfl); have hf2_ := blk_frozen BK252.out 2; first | (go_simp; done) | (go_simp; rfl))); intro w15 hw; replace BK252 : Aside0 (w15.heap[gb252]? = some (.cells #[.string ((rd_T49 l0 x7_1).f0), .int .i64 ((rd_T49 l0 x7_1).f1), .string ((rd_T49 l0 x7_1).f2)] 49 (0, 0))) := ⟨(by rw [hw]; exact (by refine bU ?_; refine blk_put (cs := #[.string ((rd_T49 l0 x7_1).f0), .int .i64 ((rd_T49 l0 x7_1).f1), .string (⟨#[]⟩ : ByteArray)]) ?_ 2 _ rfl; refine bU ?_; refine blk_put (cs := #[.string ((rd_T49 l0 x7_1).f0), .int .i64 0, .string (⟨#[]⟩ : ByteArray)]) ?_ 1 _ rfl; refine bU ?_; refine blk_put (cs := #[.string (⟨#[]⟩ : ByteArray), .int .i64 0, .string (⟨#[]⟩ : ByteArray)]) ?_ 0 _ rfl; refine bU ?_; exact BK252.out))⟩; replace HB : Aside0 (Below w.heap.size w w15) := ⟨(by rw [hw]; exact (lV1 GE252))⟩; clear hw; have hcz16_0 := cz BK252 0 (.string ((rd_T49 l0 x7_1).f0)); have hcz16_1 := cz BK252 1 (.int .i64 ((rd_T49 l0 x7_1).f1)); have hcz16_2 := cz BK252 2 (.string ((rd_T49 l0 x7_1).f2)); have hfz16_0 := fz BK252 0; have hfz16_1 := fz BK252 1; have hfz16_2 := fz BK252 2))
            repeat (go_quiet (first | (go_at_call 49; (with_reducible refine (impl_GoodName.calls k1 ((rd_T49 l0 x7_1).f0) true _ A5.out).mono ?_); rintro e w' ⟨rfl, ⟨nd, rfl⟩⟩; (try first | exact ⟨rfl, _, World.drewN_drewN _ _ _⟩ | exact ⟨rfl, _, Eq.trans (World.drewN_drewN _ _ _) (congrArg (World.drewN _) (Nat.add_assoc _ _ _))⟩); have p254 : 0 ≤ ((ji8) : Int) := of_decide_eq_true hE; have q254 : (ji8) < (l0.length : Int) := of_decide_eq_true hE; obtain ⟨ad254, e254, hx254_0, hx254_1, hx254_2⟩ := at_T49 HR0.out (ji8) p254 q254; obtain rfl : ad251 = ad254 := (by injection e254); replace hx254_0 := (HB.out.cell (World.block_lt_of_cell? w _ hx254_0)).trans hx254_0; replace hx254_1 := (HB.out.cell (World.block_lt_of_cell? w _ hx254_1)).trans hx254_1; replace hx254_2 := (HB.out.cell (World.block_lt_of_cell? w _ hx254_2)).trans hx254_2; replace p254 := eq_true p254; replace q254 := eq_true q254)); try go_wp2)
            go_ret
            exact ⟨by first | rfl | (simp [errW_none, errW_some] <;> rfl) | (simp only [← hji8]; first | rfl | (simp [errW_none, errW_some] <;> rfl)) | (simp [*, errW_none, errW_some] <;> rfl), lV1 GE252⟩
           ·rw [if_neg c12] at H
            have c12b0 : decide (100 < (((rd_T49 l0 x7_1).f2).size : Int)) = false := decide_eq_false c12
            have c12b1 : decide (100 < ((rd_T49 l0 x7_1).f2).size) = false := decide_eq_false (by omega)
            clear c12
            have H' := Aside0.mk H
            clear H
            have p251 : 0 ≤ (x7_1 : Int) := of_decide_eq_true hE
            have q251 : x7_1 < (l0.length : Int) := of_decide_eq_true hE
            obtain ⟨ad251, e251, hx251_0, hx251_1, hx251_2⟩ := at_T49 HR0.out x7_1 p251 q251
            cases e251
            replace hx251_0 := (HB.out.cell (World.block_lt_of_cell? w _ hx251_0)).trans hx251_0
            replace hx251_1 := (HB.out.cell (World.block_lt_of_cell? w _ hx251_1)).trans hx251_1
            replace hx251_2 := (HB.out.cell (World.block_lt_of_cell? w _ hx251_2)).trans hx251_2
            replace p251 := eq_true p251
            replace q251 := eq_true q251
            go_wp2_with (first | ((with_reducible refine gate_dst (N := 4) rfl ?_); (try (refine gate_guard (by rfl) ?_; dsimp only)); refine box_event rfl (N := 4) rfl (cs := #[.string (⟨#[]⟩ : ByteArray), .int .i64 0, .string (⟨#[]⟩ : ByteArray)]) (t := 49) sE ?_; intro gb252 hg w17 hbox hb; have BK252 := Aside0.mk hbox; have GW252 := gS w hg (lU); have GE252 := gS w hg (lU); replace HB := bH (lU) hb; clear hb hbox hg; have hcz18_0 := cz BK252 0 (.string (⟨#[]⟩ : ByteArray)); have hcz18_1 := cz BK252 1 (.int .i64 0); have hcz18_2 := cz BK252 2 (.string (⟨#[]⟩ : ByteArray)); have hfz18_0 := fz BK252 0; have hfz18_1 := fz BK252 1; have hfz18_2 := fz BK252 2) | ((with_reducible refine gate_store (t := 49) (p := 4) rfl ?_); (try (rw [drewN_self w17]; generalize hq_ : World.drewN w17 _ = w17; replace BK252 := Aside0.mk (blk_at hq_ BK252.out); replace HB := Aside0.mk (below_at hq_ HB.out); clear hq_)); refine store_event (t := 49) (p := 4) (v := ?vo_w19) (w1 := (((w17.setCell ⟨gb252, 0, none⟩ (.string ((rd_T49 l0 x7_1).f0))).setCell ⟨gb252, 1, none⟩ (.int .i64 ((rd_T49 l0 x7_1).f1))).setCell ⟨gb252, 2, none⟩ (.string ((rd_T49 l0 x7_1).f2)))) ?hg ?ho ?hn ?hr ?_; (case ho => rfl); (case hg => rfl); (case hn => rfl); (case hr => first | (go_simp; done) | (go_simp; rfl) | (have hq0_ := (blk_cell BK252.out 0).trans (show _ = some _ from rfl); have hf0_ := blk_frozen BK252.out 0; have hq1_ := (blk_cell BK252.out 1).trans (show _ = some _ from rfl); have hf1_ := blk_frozen BK252.out 1; have hq2_ := (blk_cell BK252.out 2).trans (show _ = some _ from rfl); have hf2_ := blk_frozen BK252.out 2; first | (go_simp; done) | (go_simp; rfl))); intro w19 hw; replace BK252 : Aside0 (w19.heap[gb252]? = some (.cells #[.string ((rd_T49 l0 x7_1).f0), .int .i64 ((rd_T49 l0 x7_1).f1), .string ((rd_T49 l0 x7_1).f2)] 49 (0, 0))) := ⟨(by rw [hw]; exact (by refine bU ?_; refine blk_put (cs := #[.string ((rd_T49 l0 x7_1).f0), .int .i64 ((rd_T49 l0 x7_1).f1), .string (⟨#[]⟩ : ByteArray)]) ?_ 2 _ rfl; refine bU ?_; refine blk_put (cs := #[.string ((rd_T49 l0 x7_1).f0), .int .i64 0, .string (⟨#[]⟩ : ByteArray)]) ?_ 1 _ rfl; refine bU ?_; refine blk_put (cs := #[.string (⟨#[]⟩ : ByteArray), .int .i64 0, .string (⟨#[]⟩ : ByteArray)]) ?_ 0 _ rfl; refine bU ?_; exact BK252.out))⟩; replace HB : Aside0 (Below w.heap.size w w19) := ⟨(by rw [hw]; exact (lV1 GE252))⟩; clear hw; have hcz20_0 := cz BK252 0 (.string ((rd_T49 l0 x7_1).f0)); have hcz20_1 := cz BK252 1 (.int .i64 ((rd_T49 l0 x7_1).f1)); have hcz20_2 := cz BK252 2 (.string ((rd_T49 l0 x7_1).f2)); have hfz20_0 := fz BK252 0; have hfz20_1 := fz BK252 1; have hfz20_2 := fz BK252 2))
            repeat (go_quiet (first | (go_at_call 49; (with_reducible refine (impl_GoodName.calls k1 ((rd_T49 l0 x7_1).f0) true _ A5.out).mono ?_); rintro e w' ⟨rfl, ⟨nd, rfl⟩⟩; (try first | exact ⟨rfl, _, World.drewN_drewN _ _ _⟩ | exact ⟨rfl, _, Eq.trans (World.drewN_drewN _ _ _) (congrArg (World.drewN _) (Nat.add_assoc _ _ _))⟩); have p254 : 0 ≤ ((ji8) : Int) := of_decide_eq_true hE; have q254 : (ji8) < (l0.length : Int) := of_decide_eq_true hE; obtain ⟨ad254, e254, hx254_0, hx254_1, hx254_2⟩ := at_T49 HR0.out (ji8) p254 q254; obtain rfl : ad251 = ad254 := (by injection e254); replace hx254_0 := (HB.out.cell (World.block_lt_of_cell? w _ hx254_0)).trans hx254_0; replace hx254_1 := (HB.out.cell (World.block_lt_of_cell? w _ hx254_1)).trans hx254_1; replace hx254_2 := (HB.out.cell (World.block_lt_of_cell? w _ hx254_2)).trans hx254_2; replace p254 := eq_true p254; replace q254 := eq_true q254)); try go_wp2)
            go_roundg k1
            case measure => have := HK1.out; omega
            case rel => exact ⟨(wrap64 (x7_1 + 1)), tE, H', ⟨by have := HK1.out; omega⟩, ⟨by repeat (first | (with_reducible first | exact HB.out | apply below_alloc | apply pw_below_drewN | apply below_drew1 | refine below_set ?_ GE252.out) | exact HB.out)⟩⟩
          ·rw [if_neg c11] at H
           have c11b0 : (Op.bytesLess (((rd_T49 l0 (ji8)).f0).toList) (((rd_T49 l0 x7_1).f0).toList)) = false := by simpa using c11
           clear c11
           obtain rfl := Option.some.inj H
           have p251 : 0 ≤ (x7_1 : Int) := of_decide_eq_true hE
           have q251 : x7_1 < (l0.length : Int) := of_decide_eq_true hE
           obtain ⟨ad251, e251, hx251_0, hx251_1, hx251_2⟩ := at_T49 HR0.out x7_1 p251 q251
           cases e251
           replace hx251_0 := (HB.out.cell (World.block_lt_of_cell? w _ hx251_0)).trans hx251_0
           replace hx251_1 := (HB.out.cell (World.block_lt_of_cell? w _ hx251_1)).trans hx251_1
           replace hx251_2 := (HB.out.cell (World.block_lt_of_cell? w _ hx251_2)).trans hx251_2
           replace p251 := eq_true p251
           replace q251 := eq_true q251
           go_wp2_with (first | ((with_reducible refine gate_dst (N := 4) rfl ?_); (try (refine gate_guard (by rfl) ?_; dsimp only)); refine box_event rfl (N := 4) rfl (cs := #[.string (⟨#[]⟩ : ByteArray), .int .i64 0, .string (⟨#[]⟩ : ByteArray)]) (t := 49) sE ?_; intro gb252 hg w21 hbox hb; have BK252 := Aside0.mk hbox; have GW252 := gS w hg (lU); have GE252 := gS w hg (lU); replace HB := bH (lU) hb; clear hb hbox hg; have hcz22_0 := cz BK252 0 (.string (⟨#[]⟩ : ByteArray)); have hcz22_1 := cz BK252 1 (.int .i64 0); have hcz22_2 := cz BK252 2 (.string (⟨#[]⟩ : ByteArray)); have hfz22_0 := fz BK252 0; have hfz22_1 := fz BK252 1; have hfz22_2 := fz BK252 2) | ((with_reducible refine gate_store (t := 49) (p := 4) rfl ?_); (try (rw [drewN_self w21]; generalize hq_ : World.drewN w21 _ = w21; replace BK252 := Aside0.mk (blk_at hq_ BK252.out); replace HB := Aside0.mk (below_at hq_ HB.out); clear hq_)); refine store_event (t := 49) (p := 4) (v := ?vo_w23) (w1 := (((w21.setCell ⟨gb252, 0, none⟩ (.string ((rd_T49 l0 x7_1).f0))).setCell ⟨gb252, 1, none⟩ (.int .i64 ((rd_T49 l0 x7_1).f1))).setCell ⟨gb252, 2, none⟩ (.string ((rd_T49 l0 x7_1).f2)))) ?hg ?ho ?hn ?hr ?_; (case ho => rfl); (case hg => rfl); (case hn => rfl); (case hr => first | (go_simp; done) | (go_simp; rfl) | (have hq0_ := (blk_cell BK252.out 0).trans (show _ = some _ from rfl); have hf0_ := blk_frozen BK252.out 0; have hq1_ := (blk_cell BK252.out 1).trans (show _ = some _ from rfl); have hf1_ := blk_frozen BK252.out 1; have hq2_ := (blk_cell BK252.out 2).trans (show _ = some _ from rfl); have hf2_ := blk_frozen BK252.out 2; first | (go_simp; done) | (go_simp; rfl))); intro w23 hw; replace BK252 : Aside0 (w23.heap[gb252]? = some (.cells #[.string ((rd_T49 l0 x7_1).f0), .int .i64 ((rd_T49 l0 x7_1).f1), .string ((rd_T49 l0 x7_1).f2)] 49 (0, 0))) := ⟨(by rw [hw]; exact (by refine bU ?_; refine blk_put (cs := #[.string ((rd_T49 l0 x7_1).f0), .int .i64 ((rd_T49 l0 x7_1).f1), .string (⟨#[]⟩ : ByteArray)]) ?_ 2 _ rfl; refine bU ?_; refine blk_put (cs := #[.string ((rd_T49 l0 x7_1).f0), .int .i64 0, .string (⟨#[]⟩ : ByteArray)]) ?_ 1 _ rfl; refine bU ?_; refine blk_put (cs := #[.string (⟨#[]⟩ : ByteArray), .int .i64 0, .string (⟨#[]⟩ : ByteArray)]) ?_ 0 _ rfl; refine bU ?_; exact BK252.out))⟩; replace HB : Aside0 (Below w.heap.size w w23) := ⟨(by rw [hw]; exact (lV1 GE252))⟩; clear hw; have hcz24_0 := cz BK252 0 (.string ((rd_T49 l0 x7_1).f0)); have hcz24_1 := cz BK252 1 (.int .i64 ((rd_T49 l0 x7_1).f1)); have hcz24_2 := cz BK252 2 (.string ((rd_T49 l0 x7_1).f2)); have hfz24_0 := fz BK252 0; have hfz24_1 := fz BK252 1; have hfz24_2 := fz BK252 2))
           repeat (go_quiet (first | (go_at_call 49; (with_reducible refine (impl_GoodName.calls k1 ((rd_T49 l0 x7_1).f0) true _ A5.out).mono ?_); rintro e w' ⟨rfl, ⟨nd, rfl⟩⟩; (try first | exact ⟨rfl, _, World.drewN_drewN _ _ _⟩ | exact ⟨rfl, _, Eq.trans (World.drewN_drewN _ _ _) (congrArg (World.drewN _) (Nat.add_assoc _ _ _))⟩); have p254 : 0 ≤ ((ji8) : Int) := of_decide_eq_true hE; have q254 : (ji8) < (l0.length : Int) := of_decide_eq_true hE; obtain ⟨ad254, e254, hx254_0, hx254_1, hx254_2⟩ := at_T49 HR0.out (ji8) p254 q254; obtain rfl : ad251 = ad254 := (by injection e254); replace hx254_0 := (HB.out.cell (World.block_lt_of_cell? w _ hx254_0)).trans hx254_0; replace hx254_1 := (HB.out.cell (World.block_lt_of_cell? w _ hx254_1)).trans hx254_1; replace hx254_2 := (HB.out.cell (World.block_lt_of_cell? w _ hx254_2)).trans hx254_2; replace p254 := eq_true p254; replace q254 := eq_true q254)); try go_wp2)
           go_ret
           exact ⟨by first | rfl | (simp [errW_none, errW_some] <;> rfl) | (simp only [← hji8]; first | rfl | (simp [errW_none, errW_some] <;> rfl)) | (simp [*, errW_none, errW_some] <;> rfl), lV1 GE252⟩
         ·rw [if_neg c10] at H
          exact absurd H (by simp)
        ·rw [if_neg c9] at H
         exact absurd H (by simp)
       ·rw [if_neg c7] at H
        have c7b0 : decide (0 < x7_1) = false := decide_eq_false c7
        clear c7
        by_cases c25 : (((rd_T49 l0 x7_1).f2).size : Int) > 100
        ·rw [if_pos c25] at H
         have c25b0 : decide (100 < (((rd_T49 l0 x7_1).f2).size : Int)) = true := decide_eq_true c25
         have c25b1 : decide (100 < ((rd_T49 l0 x7_1).f2).size) = true := decide_eq_true (by omega)
         clear c25
         obtain rfl := Option.some.inj H
         have p251 : 0 ≤ (x7_1 : Int) := of_decide_eq_true hE
         have q251 : x7_1 < (l0.length : Int) := of_decide_eq_true hE
         obtain ⟨ad251, e251, hx251_0, hx251_1, hx251_2⟩ := at_T49 HR0.out x7_1 p251 q251
         cases e251
         replace hx251_0 := (HB.out.cell (World.block_lt_of_cell? w _ hx251_0)).trans hx251_0
         replace hx251_1 := (HB.out.cell (World.block_lt_of_cell? w _ hx251_1)).trans hx251_1
         replace hx251_2 := (HB.out.cell (World.block_lt_of_cell? w _ hx251_2)).trans hx251_2
         replace p251 := eq_true p251
         replace q251 := eq_true q251
         go_wp2_with (first | ((with_reducible refine gate_dst (N := 4) rfl ?_); (try (refine gate_guard (by rfl) ?_; dsimp only)); refine box_event rfl (N := 4) rfl (cs := #[.string (⟨#[]⟩ : ByteArray), .int .i64 0, .string (⟨#[]⟩ : ByteArray)]) (t := 49) sE ?_; intro gb252 hg w26 hbox hb; have BK252 := Aside0.mk hbox; have GW252 := gS w hg (lU); have GE252 := gS w hg (lU); replace HB := bH (lU) hb; clear hb hbox hg; have hcz27_0 := cz BK252 0 (.string (⟨#[]⟩ : ByteArray)); have hcz27_1 := cz BK252 1 (.int .i64 0); have hcz27_2 := cz BK252 2 (.string (⟨#[]⟩ : ByteArray)); have hfz27_0 := fz BK252 0; have hfz27_1 := fz BK252 1; have hfz27_2 := fz BK252 2) | ((with_reducible refine gate_store (t := 49) (p := 4) rfl ?_); (try (rw [drewN_self w26]; generalize hq_ : World.drewN w26 _ = w26; replace BK252 := Aside0.mk (blk_at hq_ BK252.out); replace HB := Aside0.mk (below_at hq_ HB.out); clear hq_)); refine store_event (t := 49) (p := 4) (v := ?vo_w28) (w1 := (((w26.setCell ⟨gb252, 0, none⟩ (.string ((rd_T49 l0 x7_1).f0))).setCell ⟨gb252, 1, none⟩ (.int .i64 ((rd_T49 l0 x7_1).f1))).setCell ⟨gb252, 2, none⟩ (.string ((rd_T49 l0 x7_1).f2)))) ?hg ?ho ?hn ?hr ?_; (case ho => rfl); (case hg => rfl); (case hn => rfl); (case hr => first | (go_simp; done) | (go_simp; rfl) | (have hq0_ := (blk_cell BK252.out 0).trans (show _ = some _ from rfl); have hf0_ := blk_frozen BK252.out 0; have hq1_ := (blk_cell BK252.out 1).trans (show _ = some _ from rfl); have hf1_ := blk_frozen BK252.out 1; have hq2_ := (blk_cell BK252.out 2).trans (show _ = some _ from rfl); have hf2_ := blk_frozen BK252.out 2; first | (go_simp; done) | (go_simp; rfl))); intro w28 hw; replace BK252 : Aside0 (w28.heap[gb252]? = some (.cells #[.string ((rd_T49 l0 x7_1).f0), .int .i64 ((rd_T49 l0 x7_1).f1), .string ((rd_T49 l0 x7_1).f2)] 49 (0, 0))) := ⟨(by rw [hw]; exact (by refine bU ?_; refine blk_put (cs := #[.string ((rd_T49 l0 x7_1).f0), .int .i64 ((rd_T49 l0 x7_1).f1), .string (⟨#[]⟩ : ByteArray)]) ?_ 2 _ rfl; refine bU ?_; refine blk_put (cs := #[.string ((rd_T49 l0 x7_1).f0), .int .i64 0, .string (⟨#[]⟩ : ByteArray)]) ?_ 1 _ rfl; refine bU ?_; refine blk_put (cs := #[.string (⟨#[]⟩ : ByteArray), .int .i64 0, .string (⟨#[]⟩ : ByteArray)]) ?_ 0 _ rfl; refine bU ?_; exact BK252.out))⟩; replace HB : Aside0 (Below w.heap.size w w28) := ⟨(by rw [hw]; exact (lV1 GE252))⟩; clear hw; have hcz29_0 := cz BK252 0 (.string ((rd_T49 l0 x7_1).f0)); have hcz29_1 := cz BK252 1 (.int .i64 ((rd_T49 l0 x7_1).f1)); have hcz29_2 := cz BK252 2 (.string ((rd_T49 l0 x7_1).f2)); have hfz29_0 := fz BK252 0; have hfz29_1 := fz BK252 1; have hfz29_2 := fz BK252 2))
         repeat (go_quiet (first | (go_at_call 49; (with_reducible refine (impl_GoodName.calls k1 ((rd_T49 l0 x7_1).f0) true _ A5.out).mono ?_); rintro e w' ⟨rfl, ⟨nd, rfl⟩⟩; (try first | exact ⟨rfl, _, World.drewN_drewN _ _ _⟩ | exact ⟨rfl, _, Eq.trans (World.drewN_drewN _ _ _) (congrArg (World.drewN _) (Nat.add_assoc _ _ _))⟩))); try go_wp2)
         go_ret
         exact ⟨eE, lV1 GE252⟩
        ·rw [if_neg c25] at H
         have c25b0 : decide (100 < (((rd_T49 l0 x7_1).f2).size : Int)) = false := decide_eq_false c25
         have c25b1 : decide (100 < ((rd_T49 l0 x7_1).f2).size) = false := decide_eq_false (by omega)
         clear c25
         have H' := Aside0.mk H
         clear H
         have p251 : 0 ≤ (x7_1 : Int) := of_decide_eq_true hE
         have q251 : x7_1 < (l0.length : Int) := of_decide_eq_true hE
         obtain ⟨ad251, e251, hx251_0, hx251_1, hx251_2⟩ := at_T49 HR0.out x7_1 p251 q251
         cases e251
         replace hx251_0 := (HB.out.cell (World.block_lt_of_cell? w _ hx251_0)).trans hx251_0
         replace hx251_1 := (HB.out.cell (World.block_lt_of_cell? w _ hx251_1)).trans hx251_1
         replace hx251_2 := (HB.out.cell (World.block_lt_of_cell? w _ hx251_2)).trans hx251_2
         replace p251 := eq_true p251
         replace q251 := eq_true q251
         go_wp2_with (first | ((with_reducible refine gate_dst (N := 4) rfl ?_); (try (refine gate_guard (by rfl) ?_; dsimp only)); refine box_event rfl (N := 4) rfl (cs := #[.string (⟨#[]⟩ : ByteArray), .int .i64 0, .string (⟨#[]⟩ : ByteArray)]) (t := 49) sE ?_; intro gb252 hg w30 hbox hb; have BK252 := Aside0.mk hbox; have GW252 := gS w hg (lU); have GE252 := gS w hg (lU); replace HB := bH (lU) hb; clear hb hbox hg; have hcz31_0 := cz BK252 0 (.string (⟨#[]⟩ : ByteArray)); have hcz31_1 := cz BK252 1 (.int .i64 0); have hcz31_2 := cz BK252 2 (.string (⟨#[]⟩ : ByteArray)); have hfz31_0 := fz BK252 0; have hfz31_1 := fz BK252 1; have hfz31_2 := fz BK252 2) | ((with_reducible refine gate_store (t := 49) (p := 4) rfl ?_); (try (rw [drewN_self w30]; generalize hq_ : World.drewN w30 _ = w30; replace BK252 := Aside0.mk (blk_at hq_ BK252.out); replace HB := Aside0.mk (below_at hq_ HB.out); clear hq_)); refine store_event (t := 49) (p := 4) (v := ?vo_w32) (w1 := (((w30.setCell ⟨gb252, 0, none⟩ (.string ((rd_T49 l0 x7_1).f0))).setCell ⟨gb252, 1, none⟩ (.int .i64 ((rd_T49 l0 x7_1).f1))).setCell ⟨gb252, 2, none⟩ (.string ((rd_T49 l0 x7_1).f2)))) ?hg ?ho ?hn ?hr ?_; (case ho => rfl); (case hg => rfl); (case hn => rfl); (case hr => first | (go_simp; done) | (go_simp; rfl) | (have hq0_ := (blk_cell BK252.out 0).trans (show _ = some _ from rfl); have hf0_ := blk_frozen BK252.out 0; have hq1_ := (blk_cell BK252.out 1).trans (show _ = some _ from rfl); have hf1_ := blk_frozen BK252.out 1; have hq2_ := (blk_cell BK252.out 2).trans (show _ = some _ from rfl); have hf2_ := blk_frozen BK252.out 2; first | (go_simp; done) | (go_simp; rfl))); intro w32 hw; replace BK252 : Aside0 (w32.heap[gb252]? = some (.cells #[.string ((rd_T49 l0 x7_1).f0), .int .i64 ((rd_T49 l0 x7_1).f1), .string ((rd_T49 l0 x7_1).f2)] 49 (0, 0))) := ⟨(by rw [hw]; exact (by refine bU ?_; refine blk_put (cs := #[.string ((rd_T49 l0 x7_1).f0), .int .i64 ((rd_T49 l0 x7_1).f1), .string (⟨#[]⟩ : ByteArray)]) ?_ 2 _ rfl; refine bU ?_; refine blk_put (cs := #[.string ((rd_T49 l0 x7_1).f0), .int .i64 0, .string (⟨#[]⟩ : ByteArray)]) ?_ 1 _ rfl; refine bU ?_; refine blk_put (cs := #[.string (⟨#[]⟩ : ByteArray), .int .i64 0, .string (⟨#[]⟩ : ByteArray)]) ?_ 0 _ rfl; refine bU ?_; exact BK252.out))⟩; replace HB : Aside0 (Below w.heap.size w w32) := ⟨(by rw [hw]; exact (lV1 GE252))⟩; clear hw; have hcz33_0 := cz BK252 0 (.string ((rd_T49 l0 x7_1).f0)); have hcz33_1 := cz BK252 1 (.int .i64 ((rd_T49 l0 x7_1).f1)); have hcz33_2 := cz BK252 2 (.string ((rd_T49 l0 x7_1).f2)); have hfz33_0 := fz BK252 0; have hfz33_1 := fz BK252 1; have hfz33_2 := fz BK252 2))
         repeat (go_quiet (first | (go_at_call 49; (with_reducible refine (impl_GoodName.calls k1 ((rd_T49 l0 x7_1).f0) true _ A5.out).mono ?_); rintro e w' ⟨rfl, ⟨nd, rfl⟩⟩; (try first | exact ⟨rfl, _, World.drewN_drewN _ _ _⟩ | exact ⟨rfl, _, Eq.trans (World.drewN_drewN _ _ _) (congrArg (World.drewN _) (Nat.add_assoc _ _ _))⟩))); try go_wp2)
         go_roundg k1
         case measure => have := HK1.out; omega
         case rel => exact ⟨(wrap64 (x7_1 + 1)), tE, H', ⟨by have := HK1.out; omega⟩, ⟨by repeat (first | (with_reducible first | exact HB.out | apply below_alloc | apply pw_below_drewN | apply below_drew1 | refine below_set ?_ GE252.out) | exact HB.out)⟩⟩
      ·replace c6 := Bool.eq_false_iff.mpr c6
       subst c6
       have H1 : (some false) = some r := by rw [if_neg (show ¬ (false = true) by decide)] at H; exact H
       clear H
       have H := H1
       clear H1
       obtain rfl := Option.some.inj H
       have p251 : 0 ≤ (x7_1 : Int) := of_decide_eq_true hE
       have q251 : x7_1 < (l0.length : Int) := of_decide_eq_true hE
       obtain ⟨ad251, e251, hx251_0, hx251_1, hx251_2⟩ := at_T49 HR0.out x7_1 p251 q251
       cases e251
       replace hx251_0 := (HB.out.cell (World.block_lt_of_cell? w _ hx251_0)).trans hx251_0
       replace hx251_1 := (HB.out.cell (World.block_lt_of_cell? w _ hx251_1)).trans hx251_1
       replace hx251_2 := (HB.out.cell (World.block_lt_of_cell? w _ hx251_2)).trans hx251_2
       replace p251 := eq_true p251
       replace q251 := eq_true q251
       go_wp2_with (first | ((with_reducible refine gate_dst (N := 4) rfl ?_); (try (refine gate_guard (by rfl) ?_; dsimp only)); refine box_event rfl (N := 4) rfl (cs := #[.string (⟨#[]⟩ : ByteArray), .int .i64 0, .string (⟨#[]⟩ : ByteArray)]) (t := 49) sE ?_; intro gb252 hg w34 hbox hb; have BK252 := Aside0.mk hbox; have GW252 := gS w hg (lU); have GE252 := gS w hg (lU); replace HB := bH (lU) hb; clear hb hbox hg; have hcz35_0 := cz BK252 0 (.string (⟨#[]⟩ : ByteArray)); have hcz35_1 := cz BK252 1 (.int .i64 0); have hcz35_2 := cz BK252 2 (.string (⟨#[]⟩ : ByteArray)); have hfz35_0 := fz BK252 0; have hfz35_1 := fz BK252 1; have hfz35_2 := fz BK252 2) | ((with_reducible refine gate_store (t := 49) (p := 4) rfl ?_); (try (rw [drewN_self w34]; generalize hq_ : World.drewN w34 _ = w34; replace BK252 := Aside0.mk (blk_at hq_ BK252.out); replace HB := Aside0.mk (below_at hq_ HB.out); clear hq_)); refine store_event (t := 49) (p := 4) (v := ?vo_w36) (w1 := (((w34.setCell ⟨gb252, 0, none⟩ (.string ((rd_T49 l0 x7_1).f0))).setCell ⟨gb252, 1, none⟩ (.int .i64 ((rd_T49 l0 x7_1).f1))).setCell ⟨gb252, 2, none⟩ (.string ((rd_T49 l0 x7_1).f2)))) ?hg ?ho ?hn ?hr ?_; (case ho => rfl); (case hg => rfl); (case hn => rfl); (case hr => first | (go_simp; done) | (go_simp; rfl) | (have hq0_ := (blk_cell BK252.out 0).trans (show _ = some _ from rfl); have hf0_ := blk_frozen BK252.out 0; have hq1_ := (blk_cell BK252.out 1).trans (show _ = some _ from rfl); have hf1_ := blk_frozen BK252.out 1; have hq2_ := (blk_cell BK252.out 2).trans (show _ = some _ from rfl); have hf2_ := blk_frozen BK252.out 2; first | (go_simp; done) | (go_simp; rfl))); intro w36 hw; replace BK252 : Aside0 (w36.heap[gb252]? = some (.cells #[.string ((rd_T49 l0 x7_1).f0), .int .i64 ((rd_T49 l0 x7_1).f1), .string ((rd_T49 l0 x7_1).f2)] 49 (0, 0))) := ⟨(by rw [hw]; exact (by refine bU ?_; refine blk_put (cs := #[.string ((rd_T49 l0 x7_1).f0), .int .i64 ((rd_T49 l0 x7_1).f1), .string (⟨#[]⟩ : ByteArray)]) ?_ 2 _ rfl; refine bU ?_; refine blk_put (cs := #[.string ((rd_T49 l0 x7_1).f0), .int .i64 0, .string (⟨#[]⟩ : ByteArray)]) ?_ 1 _ rfl; refine bU ?_; refine blk_put (cs := #[.string (⟨#[]⟩ : ByteArray), .int .i64 0, .string (⟨#[]⟩ : ByteArray)]) ?_ 0 _ rfl; refine bU ?_; exact BK252.out))⟩; replace HB : Aside0 (Below w.heap.size w w36) := ⟨(by rw [hw]; exact (lV1 GE252))⟩; clear hw; have hcz37_0 := cz BK252 0 (.string ((rd_T49 l0 x7_1).f0)); have hcz37_1 := cz BK252 1 (.int .i64 ((rd_T49 l0 x7_1).f1)); have hcz37_2 := cz BK252 2 (.string ((rd_T49 l0 x7_1).f2)); have hfz37_0 := fz BK252 0; have hfz37_1 := fz BK252 1; have hfz37_2 := fz BK252 2))
       repeat (go_quiet (first | (go_at_call 49; (with_reducible refine (impl_GoodName.calls k1 ((rd_T49 l0 x7_1).f0) false _ A5.out).mono ?_); rintro e w' ⟨rfl, ⟨nd, rfl⟩⟩; (try first | exact ⟨rfl, _, World.drewN_drewN _ _ _⟩ | exact ⟨rfl, _, Eq.trans (World.drewN_drewN _ _ _) (congrArg (World.drewN _) (Nat.add_assoc _ _ _))⟩))); try go_wp2)
       go_ret
       exact ⟨eE, lV1 GE252⟩
     ·rw [if_neg c4] at H
      exact absurd H (by simp)
    ·rw [if_neg c3] at H
     exact absurd H (by simp)
   ·rw [if_neg c2] at H
    have c2b0 : decide (x7_1 < (l0.length : Int)) = false := decide_eq_false c2
    clear c2
    obtain rfl := Option.some.inj H
    go_wp2
    repeat (go_quiet (fail); try go_wp2)
    go_ret
    exact ⟨eE, lU⟩
def Rd.Is (w : World) (g : Nat) (l : List Int) (s : Bool) : Prop := ∃ A c, w.heap[g]? = some (.cells #[.slice A l.length c, .bool s] 72 (0, 0)) ∧ l.length ≤ c ∧ ∀ W' : World, (∀ k, k < g → W'.heap[k]? = w.heap[k]?) → (Kd.int .u8).C W' A l.length l
theorem Rd.Is.lt {w : World} {g : Nat} {l : List Int} {s : Bool} (h : Rd.Is w g l s) : g < w.heap.size := by
 obtain ⟨A, c, h1, _, _⟩ := h
 exact blk_lt h1
theorem Rd.Is.step {w w1 : World} {g : Nat} {l : List Int} {s : Bool} (h : Rd.Is w g l s) (hk : ∀ k, k ≤ g → w1.heap[k]? = w.heap[k]?) : Rd.Is w1 g l s := by
 obtain ⟨A, c, h1, h2, h3⟩ := h
 exact ⟨A, c, (hk g (Nat.le_refl _)).trans h1, h2, fun W' h => h3 W' (fun k hg => (h k hg).trans (hk k (Nat.le_of_lt hg)))⟩
theorem Rd.Is.keep {w w1 : World} {g : Nat} {l : List Int} {s : Bool} (h : Rd.Is w g l s) (hb : Below w.heap.size w w1) : Rd.Is w1 g l s := h.step (fun k hk => hb.block k (Nat.lt_of_le_of_lt hk h.lt))
theorem Rd.Is.far {w : World} {g g' j : Nat} {u : Value} {l : List Int} {s : Bool} (h : Rd.Is w g l s) (hg : g < g') : Rd.Is (w.setCell ⟨g', j, none⟩ u) g l s := h.step (fun k hk => Below.heap_setCell w ⟨g', j, none⟩ u k (by show k ≠ g'; omega))
def impl_take.f (l : List Int) (s : Bool) (n : Nat) : List Int × Bool × List Int := if l.length < n then (l, true, List.replicate n 0) else (l.drop n, s, l.take n)
set_option maxHeartbeats 8000000 in
set_option maxRecDepth 100000 in
theorem impl_take.calls (g n : Nat) (l l2 o : List Int) (s s2 : Bool) (w : World) (hn : n ≤ 1000) (hi : Rd.Is w g l s) (h : impl_take.f l s n = (l2, s2, o)) :
  Calls Try.prog 39 #[.pointer (some ⟨g, 0, none⟩), .int .i64 (n : Nat)] w fun e w' => ∃ Ao co, e = .returned (.slice Ao o.length co) ∧ Rd.Is w' g l2 s2 ∧ o.length ≤ co ∧ (Kd.int .u8).C w' Ao o.length o ∧ Kb w w' g := by
 obtain ⟨A, c, hb0, hc0, hf0⟩ := hi
 have HF := Aside0.mk hf0
 have HC0 := Aside0.mk hc0
 have BK := Aside0.mk hb0
 have hcz0 : w.cell? ⟨g, 0, none⟩ = some (.slice A l.length c) := (blk_cell hb0 0).trans rfl
 have hcz1 : w.cell? ⟨g, 1, none⟩ = some (.bool s) := (blk_cell hb0 1).trans rfl
 have hfz0 := blk_frozen hb0 0
 have hfz1 := blk_frozen hb0 1
 clear hf0 hc0 hb0
 unfold impl_take.f at h
 split at h
 ·rename_i hlt
  obtain ⟨rfl, h2⟩ := Prod.mk.inj h
  obtain ⟨rfl, rfl⟩ := Prod.mk.inj h2
  clear h h2
  have hgt : (n : Int) > (l.length : Int) := by omega
  have hset := Kb.set w g 1 (.bool true)
  go_enter Try.func39, Try.ntmps39
  go_wp2_with (first | ((with_reducible refine gate_dst (N := 17) rfl ?_); refine Kd.R_make (Kd.int .u8) (w0 := w.setCell ⟨g, 1, none⟩ (.bool true)) (w.setCell ⟨g, 1, none⟩ (.bool true)).heap.size 5 rfl (N := 17) rfl 22 (.tmp 16) (.tmp 16) rfl (n : Int) rfl rfl Try.underlying22 (.int .u8 0) 1 info5 rfl (by decide) (by decide) (0 : Int) (ok := fun k => k ≠ g) (okp := fun _ => False) rfl (fun _ hk => hk.elim) ?hfresh (by omega) (by simp; omega) (Below.refl _ _) (Nat.le_refl _) ?_; (case hfresh => have hb_ := blk_lt BK.out; have hb2_ := hset.1.1; intro e_; omega); intro v1 w1 ho hb hg hat; obtain ⟨Ao, co, rfl⟩ := Kd.R_slice ho; have HO := Aside0.mk ho; have HB := Aside0.mk hb; clear ho hb hg hat))
  go_ret
  have hk1 := hset.trans (Kb.of_below HB.out g)
  have hlr : (List.replicate n (0 : Int)).length = n := List.length_replicate
  have hrd := Kd.R_reads' HO.out
  have hsl := rs_low w g 1 (.bool true)
  have hge := blk_lt BK.out
  refine ⟨Ao, co, by rw [hlr]; rfl, ⟨A, c, ?_, HC0.out, fun W' hW => HF.out W' (fun k hk => (hW k hk).trans ((HB.out.block k (by have := hset.1.1; omega)).trans (hsl k hk)))⟩, hrd.2.1, hrd.2.2, hk1⟩
  have h1 := blk_set BK.out 1 (.bool true)
  exact (HB.out.block g (blk_lt h1)).trans h1
 ·rename_i hlt
  have hle : n ≤ l.length := by omega
  have h1 := congrArg Prod.fst h
  have h2 := congrArg (fun x => x.2.1) h
  have h3 := congrArg (fun x => x.2.2) h
  simp only at h1 h2 h3
  subst h2
  have H1 := Aside0.mk h1
  have H3 := Aside0.mk h3
  have hl1 : o.length = n := by rw [← h3, List.length_take]; omega
  have hl2 : l2.length = l.length - n := by rw [← h1, List.length_drop]
  have HL1 := Aside0.mk hl1
  have HL2 := Aside0.mk hl2
  clear h h1 h3 hl1 hl2
  have hgt : ¬ ((n : Int) > (l.length : Int)) := by omega
  obtain ⟨j0, hj0, _, hj1, _⟩ := info_parts info5
  have cutA := cut_to (P := Try.prog) 22 5 .i64 Try.underlying22 hj0 A l.length c (n : Int) (by omega) (by omega) HC0.out
  have cutB := cut_from (P := Try.prog) 22 5 .i64 Try.underlying22 hj0 1 hj1 A l.length c (n : Int) (by omega) (by omega)
  simp only [Int.toNat_natCast] at cutA cutB
  obtain ⟨A2, hA2⟩ : ∃ a, a = (if c = n then A else A.map (·.add (n * 1))) := ⟨_, rfl⟩
  rw [← hA2] at cutB
  have HA2 := Aside0.mk hA2
  clear hA2
  go_enter Try.func39, Try.ntmps39
  go_wp2
  go_ret
  have hset := Kb.set w g 0 (.slice A2 (l.length - n) (c - n))
  refine ⟨A, c, by rw [HL1.out]; rfl, ⟨A2, c - n, ?_, ?_, ?_⟩, ?_, ?_, hset⟩
  ·rw [HL2.out]; exact blk_set BK.out 0 _
  ·rw [HL2.out]; have := HC0.out; omega
  ·intro W' hk
   rw [← H1.out, HA2.out]
   exact Kd.C_drop (HF.out W' (fun k hk2 => (hk k hk2).trans (rs_low w g 0 _ k hk2))) hle HC0.out
  ·rw [HL1.out]; have := HC0.out; omega
  ·rw [← H3.out]
   exact Kd.C_take (HF.out _ (rs_low w g 0 _)) hle
def impl_text.f (l : List Int) (s : Bool) : Option (List Int × Bool × ByteArray) :=
 if 0 ≤ rd (impl_take.f l s 1).2.2 0 ∧ rd (impl_take.f l s 1).2.2 0 < 256 then
  some ((impl_take.f (impl_take.f l s 1).1 (impl_take.f l s 1).2.1 (rd (impl_take.f l s 1).2.2 0).toNat).1, (impl_take.f (impl_take.f l s 1).1 (impl_take.f l s 1).2.1 (rd (impl_take.f l s 1).2.2 0).toNat).2.1, strOfNums (impl_take.f (impl_take.f l s 1).1 (impl_take.f l s 1).2.1 (rd (impl_take.f l s 1).2.2 0).toNat).2.2)
 else none
theorem impl_take.length (l : List Int) (s : Bool) (n : Nat) : (impl_take.f l s n).2.2.length = n := by
 unfold impl_take.f; split
 ·simp
 ·simp; omega
set_option maxHeartbeats 8000000 in
set_option maxRecDepth 100000 in
theorem impl_text.calls (g : Nat) (l l2 : List Int) (s s2 : Bool) (t : ByteArray) (w : World) (hi : Rd.Is w g l s) (h : impl_text.f l s = some (l2, s2, t)) :
  Calls Try.prog 38 #[.pointer (some ⟨g, 0, none⟩)] w fun e w' => e = .returned (.string t) ∧ Rd.Is w' g l2 s2 ∧ Kb w w' g := by
 have HI := Aside0.mk hi
 clear hi
 unfold impl_text.f at h
 obtain ⟨⟨m1, q1, o1⟩, h1⟩ : ∃ x, x = impl_take.f l s 1 := ⟨_, rfl⟩
 rw [← h1] at h
 simp only at h
 have ho1 := congrArg (fun x => x.2.2.length) h1
 simp only [impl_take.length] at ho1
 split at h
 ·rename_i hr
  obtain ⟨⟨m2, q2, o2⟩, h2⟩ : ∃ x, x = impl_take.f m1 q1 (rd o1 0).toNat := ⟨_, rfl⟩
  rw [← h2] at h
  simp only [Option.some.injEq, Prod.mk.injEq] at h
  obtain ⟨rfl, rfl, rfl⟩ := h
  have H1 := Aside0.mk h1.symm
  have H2 := Aside0.mk h2.symm
  have HR := Aside0.mk hr
  have hl1 : (rd o1 0).toNat ≤ 1000 := by omega
  have hcv : ((rd o1 0).toNat : Int) = rd o1 0 := by omega
  have hwr : wrap64 (rd o1 0) = rd o1 0 := by unfold wrap64; omega
  clear h1 h2 hr
  go_enter Try.func38, Try.ntmps38
  go_wp2_with (first
   | (go_at_call 39; refine (impl_take.calls g 1 l _ _ s _ _ (by omega) HI.out H1.out).mono ?_; rintro e w1 ⟨A1, c1, rfl, hi, hlc, hf, hk⟩; have HI1 := Aside0.mk hi; have HK := Aside0.mk hk; obtain ⟨ad, rfl, hx0_⟩ := Kd.at_int (hf) 0 (by omega) (by omega); have hx0 : w1.cell? ad = some (.int .u8 (rd o1 0)) := (by rw [show ad.add (Int.toNat 0) = ad from rfl] at hx0_; exact hx0_); clear hi hlc hf hk hx0_ HI)
   | (go_at_call 39; rw [← hcv]; refine (impl_take.calls g (rd o1 0).toNat m1 _ _ q1 _ _ (by omega) HI1.out H2.out).mono ?_; rintro e w2 ⟨A2, c2, rfl, hi, hlc, hf, hk⟩; have HI2 := Aside0.mk hi; have HK2 := Aside0.mk (HK.out.trans hk); have hst := Kd.C_string (P := Try.prog) (c := c2) Try.underlying22 Try.underlying5 Try.underlying9 (hf); clear hi hlc hf hk))
  go_ret
  exact ⟨rfl, HI2.out, HK2.out⟩
 ·cases h
def impl_num : Nat → Int → List Int → Int
 | _, u, [] => u
 | j, u, c :: r => impl_num (j + 1) (Go.bits .or .u64 u (IntKind.u64.wrap (IntKind.u64.wrap c * 2 ^ (8 * j)))) r
def impl_ReadSave.go : Nat → List Int → Bool → List S49 → Option (Option (List S49 × List Int))
 | 0, l, _, d => some (some (d, l))
 | n + 1, l, s, d => (impl_text.f l s).bind fun x => (impl_text.f (impl_take.f x.1 x.2.1 8).1 (impl_take.f x.1 x.2.1 8).2.1).bind fun y => if y.2.1 = true then some none else impl_ReadSave.go n y.1 y.2.1 (d ++ [⟨x.2.2, wrap64 (impl_num 0 0 (impl_take.f x.1 x.2.1 8).2.2), y.2.2⟩])
def impl_ReadSave.f (k : Nat) (l0 : List Int) : Option (Int × List S49 × Int) :=
 if 4000 < l0.length then some (0, [], 5) else if l0.length < 10 then some (0, [], 1) else
 if ¬ (strOfNums (l0.take 4)).toList = [83, 65, 86, 69] then some (0, [], 2) else
 (impl_digest.f k (l0.take (l0.length - 4))).bind fun dg => (impl_four.f dg).bind fun q => (slices_Equal_byte_byte.f k (l0.drop (l0.length - 4)) q).bind fun e => if e = false then some (0, [], 3) else
 if 0 ≤ rd l0 5 ∧ rd l0 5 < 256 ∧ 0 ≤ rd l0 4 ∧ rd l0 4 < 256 then
  (impl_ReadSave.go (rd l0 5).toNat ((l0.take (l0.length - 4)).drop 6) false []).bind fun z => match z with
   | none => some (0, [], 1)
   | some (vs, left) => (impl_inRange.f (rd l0 4) 1 250).bind fun b => if b = true then (if 0 < left.length then some (0, [], 5) else (impl_GoodValues.f k vs).bind fun g => if g = true then some (rd l0 4, vs, 0) else some (0, [], 5)) else some (0, [], 5)
 else none
theorem impl_ReadSave.mono : ∀ a0 k, LeO (impl_ReadSave.f k a0) (impl_ReadSave.f (k + 1) a0) := by
 intro a0 k
 unfold impl_ReadSave.f
 refine LeO.ite (LeO.refl _) (LeO.ite (LeO.refl _) (LeO.ite (LeO.refl _) (LeO.bind (impl_digest.mono _ _) (fun dg => LeO.bind (LeO.refl _) (fun q => LeO.bind (slices_Equal_byte_byte.mono _ _ _) (fun e => LeO.ite (LeO.refl _) (LeO.ite (LeO.bind (LeO.refl _) (fun z => ?_)) (LeO.refl _))))))))
 cases z with
 | none => exact LeO.refl _
 | some z => exact LeO.bind (LeO.refl _) (fun b => LeO.ite (LeO.ite (LeO.refl _) (LeO.bind (impl_GoodValues.mono _ _) (fun g => LeO.ite (LeO.refl _) (LeO.refl _)))) (LeO.refl _))
set_option maxHeartbeats 16000000 in
set_option maxRecDepth 100000 in
theorem impl_ReadSave.calls (k : Nat) (A0 : Option Addr) (c0 : Nat) (l0 : List Int) (r1 : Int) (r2 : List S49) (r3 : Int) (w : World) (hr0 : Kd.C (Kd.int .u8) w A0 l0.length l0) (hc0 : l0.length ≤ c0) (h : impl_ReadSave.f k l0 = some (r1, r2, r3)) :
  Calls Try.prog 20 #[.slice A0 l0.length c0] w fun e w' => ∃ v1_ : Value, e = .returned (.tuple #[.int .i64 r1, v1_, .int .i64 r3]) ∧ Kd.R k49 49 w' w.heap.size (fun _ => True) v1_ r2 ∧ Below w.heap.size w w' := by
 have hu49 := Try.underlying49
 have HR0 := Aside0.mk hr0
 have HC0 := Aside0.mk hc0
 clear hr0 hc0
 unfold impl_ReadSave.f at h
 split at h
 ·rename_i hl
  obtain ⟨rfl, h2⟩ := Prod.mk.inj (Option.some.inj h)
  obtain ⟨rfl, rfl⟩ := Prod.mk.inj h2
  clear h h2
  have hgt : (l0.length : Int) > 4000 := by omega
  go_enter Try.func20, Try.ntmps20
  go_wp2
  go_ret3
  exact ⟨_, rfl, Kd.R_nil _ _ _ _ _, Below.refl _ _⟩
 rename_i hl
 have hgt : ¬ (l0.length : Int) > 4000 := by omega
 split at h
 ·rename_i hl2
  obtain ⟨rfl, h2⟩ := Prod.mk.inj (Option.some.inj h)
  obtain ⟨rfl, rfl⟩ := Prod.mk.inj h2
  clear h h2
  have hlt : (l0.length : Int) < 10 := by omega
  go_enter Try.func20, Try.ntmps20
  go_wp2
  go_ret3
  exact ⟨_, rfl, Kd.R_nil _ _ _ _ _, Below.refl _ _⟩
 rename_i hl2
 have hlt : ¬ (l0.length : Int) < 10 := by omega
 obtain ⟨j0, hj0, _, hj1, _⟩ := info_parts info5
 have cut4 := cut_to (P := Try.prog) 22 5 .i64 Try.underlying22 hj0 A0 l0.length c0 4 (by omega) (by omega) HC0.out
 have htk := Kd.C_take (m := 4) HR0.out (by omega)
 have hl4 : (l0.take 4).length = 4 := by rw [List.length_take]; omega
 have hst := Kd.C_string (P := Try.prog) (c := c0) Try.underlying22 Try.underlying5 Try.underlying9 htk
 rw [hl4] at hst
 rw [show (4 : Int).toNat = 4 from rfl] at cut4
 clear htk hl4
 split at h
 ·rename_i hm
  obtain ⟨rfl, h2⟩ := Prod.mk.inj (Option.some.inj h)
  obtain ⟨rfl, rfl⟩ := Prod.mk.inj h2
  clear h h2
  have hne : ((strOfNums (l0.take 4)).toList == [83, 65, 86, 69]) = false := beq_eq_false_iff_ne.mpr hm
  go_enter Try.func20, Try.ntmps20
  go_wp2
  go_ret3
  exact ⟨_, rfl, Kd.R_nil _ _ _ _ _, Below.refl _ _⟩
 rename_i hm
 have hm2 := Classical.not_not.mp hm
 have heq : ((strOfNums (l0.take 4)).toList == [83, 65, 86, 69]) = true := beq_iff_eq.mpr hm2
 clear hm hm2
 obtain ⟨dg, hdg, h⟩ := Option.bind_eq_some_iff.mp h
 obtain ⟨q, hq, h⟩ := Option.bind_eq_some_iff.mp h
 obtain ⟨e, he, h⟩ := Option.bind_eq_some_iff.mp h
 have HDG := Aside0.mk hdg
 have HQ := Aside0.mk hq
 have HE := Aside0.mk he
 clear hdg hq he
 have hw4 : wrap64 ((l0.length : Int) - 4) = (l0.length : Int) - 4 := by unfold wrap64; omega
 have htn : ((l0.length : Int) - 4).toNat = l0.length - 4 := by omega
 have cutE := cut_from (P := Try.prog) 22 5 .i64 Try.underlying22 hj0 1 hj1 A0 l0.length c0 ((l0.length : Int) - 4) (by omega) (by omega)
 have cutB := cut_to (P := Try.prog) 22 5 .i64 Try.underlying22 hj0 A0 l0.length c0 ((l0.length : Int) - 4) (by omega) (by omega) HC0.out
 rw [htn] at cutE cutB
 rw [show l0.length - (l0.length - 4) = 4 by omega] at cutE
 obtain ⟨AE, hAE⟩ : ∃ a, a = (if c0 = l0.length - 4 then A0 else A0.map (·.add ((l0.length - 4) * 1))) := ⟨_, rfl⟩
 rw [← hAE] at cutE
 have HCE := Aside0.mk (show Kd.C (Kd.int .u8) w AE (l0.drop (l0.length - 4)).length (l0.drop (l0.length - 4)) by rw [hAE]; exact Kd.C_drop HR0.out (by omega) HC0.out)
 have HCB := Aside0.mk (Kd.C_take (m := l0.length - 4) HR0.out (by omega))
 have HLE := Aside0.mk (show (l0.drop (l0.length - 4)).length = 4 by rw [List.length_drop]; omega)
 have HLB := Aside0.mk (show (l0.take (l0.length - 4)).length = l0.length - 4 by rw [List.length_take]; omega)
 have HC4 := Aside0.mk (show 4 ≤ c0 - (l0.length - 4) by have := HC0.out; omega)
 have HCb := Aside0.mk (show l0.length - 4 ≤ c0 by have := HC0.out; omega)
 clear hAE htn
 have hdig : ∀ W, Below w.heap.size w W → Calls Try.prog 37 #[.slice A0 (l0.length - 4) c0] W (fun e w' => e = .returned (.int .u32 dg) ∧ Below W.heap.size W w') := fun W hW => by
  have h_ := impl_digest.calls k A0 c0 _ dg W (Kd.C_below HCB.out hW) (by rw [HLB.out]; exact HCb.out) HDG.out
  rw [HLB.out] at h_
  exact h_.mono (fun e w' h2_ => ⟨h2_.1, h2_.2.below⟩)
 have hequ : ∀ W A2 c2, Below w.heap.size w W → q.length ≤ c2 → Kd.C (Kd.int .u8) W A2 q.length q → Calls Try.prog 35 #[.slice AE 4 (c0 - (l0.length - 4)), .slice A2 q.length c2] W (fun e_ w' => e_ = .returned (.bool e) ∧ Below W.heap.size W w') := fun W A2 c2 hW hc hq => by
  have h_ := slices_Equal_byte_byte.calls k AE (c0 - (l0.length - 4)) _ A2 c2 q e W (Kd.C_below HCE.out hW) (by rw [HLE.out]; exact HC4.out) hq hc HE.out
  rw [HLE.out] at h_
  exact h_.mono (fun e w' h2_ => ⟨h2_.1, h2_.2.below⟩)
 split at h
 ·rename_i hE
  subst hE
  obtain ⟨rfl, h2⟩ := Prod.mk.inj (Option.some.inj h)
  obtain ⟨rfl, rfl⟩ := Prod.mk.inj h2
  clear h h2
  go_enter Try.func20, Try.ntmps20
  go_wp2
  go_region_with (first
   | (go_at_call 37; refine (hdig _ (by repeat (first | exact Below.refl _ _ | apply below_alloc | apply pw_below_drewN | apply below_drew1))).mono ?_; rintro e w1 ⟨rfl, hb⟩; have HB := Aside0.mk (show Below w.heap.size w w1 from below_step (show Below w.heap.size w _ from by repeat (first | exact Below.refl _ _ | apply below_alloc | apply pw_below_drewN | apply below_drew1)) hb); clear hb)
   | (go_at_call 36; refine (impl_four.calls dg q _ HQ.out).mono ?_; rintro e w2 ⟨v2, rfl, ho, hb⟩; replace HB := Aside0.mk (below_step HB.out hb); obtain ⟨A2, c2, rfl⟩ := Kd.R_slice ho; have HO := Aside0.mk (Kd.R_reads' ho); clear ho hb)
   | (go_at_call 35; refine (hequ _ A2 c2 HB.out HO.out.2.1 HO.out.2.2).mono ?_; rintro e w3 ⟨rfl, hb⟩; replace HB := Aside0.mk (below_step HB.out hb); clear hb))
  go_wp2
  go_ret3
  exact ⟨_, rfl, Kd.R_nil _ _ _ _ _, HB.out⟩
 rename_i hE
 have hE2 : e = true := by cases e <;> simp_all
 subst hE2
 clear hE
 split at h
 case isFalse => cases h
 rename_i hrng
 obtain ⟨z, hz, h⟩ := Option.bind_eq_some_iff.mp h
 have HZ := Aside0.mk hz
 obtain ⟨n, hn⟩ : ∃ n, n = (rd l0 5).toNat := ⟨_, rfl⟩
 have h5 : rd l0 5 = (n : Int) := by omega
 rw [← hn] at HZ
 have HNB := Aside0.mk (show n < 256 by omega)
 have HV4 := Aside0.mk (show 0 ≤ rd l0 4 ∧ rd l0 4 < 256 by omega)
 obtain ⟨a0, rfl, hb5⟩ := Kd.at_int HR0.out 5 (by omega) (by omega)
 obtain ⟨a1, ha1, hb4⟩ := Kd.at_int HR0.out 4 (by omega) (by omega)
 obtain rfl := Option.some.inj ha1
 rw [h5] at hb5
 have hw4b : wrap64 (rd l0 4) = rd l0 4 := by unfold wrap64; omega
 have hwn : wrap64 (n : Int) = (n : Int) := by unfold wrap64; omega
 have cutM := cut_mid (P := Try.prog) 22 5 .i64 .i64 Try.underlying22 hj0 1 hj1 (some a0) l0.length c0 6 ((l0.length : Int) - 4) (by omega) (by omega) (by omega) HC0.out
 rw [show (6 : Int).toNat = 6 from rfl, show ((l0.length : Int) - 4).toNat = l0.length - 4 by omega] at cutM
 obtain ⟨AM, hAM⟩ : ∃ a, a = (if c0 = 6 then some a0 else (some a0).map (·.add (6 * 1))) := ⟨_, rfl⟩
 rw [← hAM] at cutM
 have HCM0 := Aside0.mk (show Kd.C (Kd.int .u8) w AM ((l0.take (l0.length - 4)).drop 6).length ((l0.take (l0.length - 4)).drop 6) by rw [hAM]; exact Kd.C_mid (lo := 6) (hi := l0.length - 4) HR0.out (by omega) (by omega) HC0.out)
 have HLM := Aside0.mk (show ((l0.take (l0.length - 4)).drop 6).length = l0.length - 4 - 6 by rw [List.length_drop, List.length_take]; omega)
 have HCm := Aside0.mk (show l0.length - 4 - 6 ≤ c0 - 6 by have := HC0.out; omega)
 have hb5' : ∀ W, Below w.heap.size w W → W.cell? ⟨a0.block, a0.off + 5, none⟩ = some (.int .u8 (n : Int)) := fun W hW => (hW.cell (World.block_lt_of_cell? _ _ hb5)).trans hb5
 have hb4' : ∀ W, Below w.heap.size w W → W.cell? ⟨a0.block, a0.off + 4, none⟩ = some (.int .u8 (rd l0 4)) := fun W hW => (hW.cell (World.block_lt_of_cell? _ _ hb4)).trans hb4
 have HB5 := Aside0.mk hb5'
 have HB4 := Aside0.mk hb4'
 have H := Aside0.mk h
 have hi5 : (5 : Int) < (l0.length : Int) := by omega
 have hi4 : (4 : Int) < (l0.length : Int) := by omega
 clear hb5 hb4 hb5' hb4' hAM hrng hn h h5 hz
 go_enter Try.func20, Try.ntmps20
 go_wp2
 go_region_with (first
  | (go_at_call 37; refine (hdig _ (by repeat (first | exact Below.refl _ _ | apply below_alloc | apply pw_below_drewN | apply below_drew1))).mono ?_; rintro e w1 ⟨rfl, hb⟩; have HB := Aside0.mk (show Below w.heap.size w w1 from below_step (show Below w.heap.size w _ from by repeat (first | exact Below.refl _ _ | apply below_alloc | apply pw_below_drewN | apply below_drew1)) hb); clear hb)
  | (go_at_call 36; refine (impl_four.calls dg q _ HQ.out).mono ?_; rintro e w2 ⟨v2, rfl, ho, hb⟩; replace HB := Aside0.mk (below_step HB.out hb); obtain ⟨A2, c2, rfl⟩ := Kd.R_slice ho; have HO := Aside0.mk (Kd.R_reads' ho); clear ho hb)
  | (go_at_call 35; refine (hequ _ A2 c2 HB.out HO.out.2.1 HO.out.2.2).mono ?_; rintro e w3 ⟨rfl, hb⟩; replace HB := Aside0.mk (below_step HB.out hb); clear hb))
 clear hdig hequ cutE cutB cut4 hst heq HO
 have HCW := HB.out
 have hb5 := HB5.out _ HB.out
 have hb4 := HB4.out _ HB.out
 go_wp2_with (first
  | ((with_reducible refine gate_dst (N := 44) rfl ?_); refine box_event rfl (N := 44) rfl (cs := #[.slice AM (l0.length - 4 - 6) (c0 - 6), .bool false]) (t := 72) sE ?_; intro gR hg w4 hbox hb; have hlg_ := HB.out.size; have HGR := Aside0.mk (show w.heap.size ≤ gR by rw [hg]; exact HB.out.size); have HB2 := Aside0.mk (below_step HB.out hb); have HI := Aside0.mk (show Rd.Is w4 gR ((l0.take (l0.length - 4)).drop 6) false from ⟨AM, c0 - 6, by rw [HLM.out]; exact hbox, by rw [HLM.out]; exact HCm.out, fun W' hW => (Kd.heap_int _).C (fun k hk => (hW k (by have := HGR.out; omega)).trans (HB2.out.block k hk)) HCM0.out⟩); replace HB := HB2; replace hb5 := HB5.out _ HB.out; clear HB2 hb hbox hg hlg_)
  | ((with_reducible refine gate_dst (N := 45) rfl ?_); have hgl_ := HI.out.lt; refine Kd.R_lit k49 _ 49 ?hg (N := 45) ?hd (xs := ([] : List S49)) (inner := []) (ok := fun k => gR < k) (okp := fun _ => False) ?hr ?hp (fun _ hk => hk.elim) (by omega) (Below.refl _ _) (Nat.le_refl _) (by simp) ?_; (case hd => rfl); (case hg => rfl); (case hr => exact sE); (case hp => exact (Reps.none _ _)); intro v0 w5 ho hb hg_ hnew_; have HO := Aside0.mk (show Kd.R k49 49 w5 w.heap.size (fun k => gR < k) v0 [] from Kd.R_lower ho (below_size HB.out)); replace HI := Aside0.mk (HI.out.keep hb); replace HB := Aside0.mk (below_step HB.out hb); replace hb5 := HB5.out _ HB.out; clear ho hb hg_ hnew_ hgl_))
 simp only [hwn]
 go_loopg [7, 50] n (fun gk v7 v50 wx => ∃ (i : Nat) (left : List Int) (s : Bool) (d : List S49), i + gk = n ∧ d.length = i ∧ v50 = .int .i64 (i : Nat) ∧ Aside0 (Rd.Is wx gR left s) ∧ Aside0 (Kd.R k49 49 wx w.heap.size (fun k => gR < k) v7 d) ∧ Aside0 (Below w.heap.size w wx) ∧ Aside0 (impl_ReadSave.go gk left s d = some z))
 case atStart => exact ⟨0, _, _, [], by omega, rfl, rfl, HI, HO, HB, HZ⟩
 case round =>
  clear HI HO HB HZ hb5 hb4 HCW
  obtain ⟨i, left, s, d, hig, hdi, rfl, HI, HO, HB, HZ⟩ := hrel
  have HDi := Aside0.mk hdi
  clear hdi
  obtain ⟨Ad, cd, rfl⟩ := Kd.R_slice HO.out
  obtain ⟨wo, rfl⟩ : ∃ x, x = wr := ⟨_, rfl⟩
  cases gk with
  | zero =>
   obtain rfl : i = n := by omega
   have hn : ¬ ((i : Int) < (i : Int)) := by omega
   have hb4 := HB4.out _ HB.out
   obtain ⟨AL, cL, hbk, hlc, hfo⟩ := HI.out
   have hcz0 : wo.cell? ⟨gR, 0, none⟩ = some (.slice AL left.length cL) := (blk_cell hbk 0).trans rfl
   have hz : some (some (d, left)) = some z := HZ.out
   obtain rfl := Option.some.inj hz
   have h := H.out
   simp only at h
   obtain ⟨b, hbb, h⟩ := Option.bind_eq_some_iff.mp h
   have HIN := Aside0.mk hbb
   clear hz hbb H HZ
   have hrr := Kd.R_reads' HO.out
   have HRR := Aside0.mk hrr
   clear hrr
   cases b with
   | false =>
    rw [if_neg (by decide)] at h
    obtain ⟨rfl, h2⟩ := Prod.mk.inj (Option.some.inj h)
    obtain ⟨rfl, rfl⟩ := Prod.mk.inj h2
    clear h h2
    go_wp2_with (first
     | (go_at_call 40; refine (impl_inRange.calls (rd l0 4) 1 250 false _ HIN.out).mono ?_; rintro e w6 ⟨rfl, hb⟩; replace HB := Aside0.mk (below_step HB.out hb.below); clear hb))
    go_ret3
    exact ⟨_, rfl, Kd.R_nil _ _ _ _ _, HB.out⟩
   | true =>
    rw [if_pos rfl] at h
    split at h
    ·rename_i hlp
     have hlp2 : (0 : Int) < (left.length : Int) := by omega
     obtain ⟨rfl, h2⟩ := Prod.mk.inj (Option.some.inj h)
     obtain ⟨rfl, rfl⟩ := Prod.mk.inj h2
     clear h h2
     go_wp2_with (first
      | (go_at_call 40; refine (impl_inRange.calls (rd l0 4) 1 250 true _ HIN.out).mono ?_; rintro e w6 ⟨rfl, hb⟩; replace HB := Aside0.mk (below_step HB.out hb.below); replace hcz0 : w6.cell? ⟨gR, 0, none⟩ = some (.slice AL left.length cL) := (blk_cell (blk_below hbk hb.below) 0).trans rfl; clear hb))
     go_ret3
     exact ⟨_, rfl, Kd.R_nil _ _ _ _ _, HB.out⟩
    ·rename_i hlp
     have hlp2 : ¬ ((0 : Int) < (left.length : Int)) := by omega
     obtain ⟨gg, hgg, h⟩ := Option.bind_eq_some_iff.mp h
     have HGG := Aside0.mk hgg
     clear hgg
     cases gg with
     | true =>
      rw [if_pos rfl] at h
      obtain ⟨rfl, h2⟩ := Prod.mk.inj (Option.some.inj h)
      obtain ⟨rfl, rfl⟩ := Prod.mk.inj h2
      clear h h2
      go_wp2_with (first
       | (go_at_call 40; refine (impl_inRange.calls (rd l0 4) 1 250 true _ HIN.out).mono ?_; rintro e w6 ⟨rfl, hb⟩; replace HB := Aside0.mk (below_step HB.out hb.below); replace HO := Aside0.mk (Kd.R_below HO.out hb.below); replace HRR := Aside0.mk (Kd.R_reads' HO.out); replace hcz0 : w6.cell? ⟨gR, 0, none⟩ = some (.slice AL left.length cL) := (blk_cell (blk_below hbk hb.below) 0).trans rfl; clear hb)
       | (go_at_call 41; refine (impl_GoodValues.calls k Ad cd d true _ HRR.out.2.2 HRR.out.2.1 HGG.out).mono ?_; rintro e w7 ⟨rfl, hb⟩; replace HB := Aside0.mk (below_step HB.out hb); replace HO := Aside0.mk (Kd.R_below HO.out hb); clear hb))
      go_ret3
      exact ⟨_, rfl, Kd.R_mono HO.out (fun _ _ => trivial), HB.out⟩
     | false =>
      rw [if_neg (by decide)] at h
      obtain ⟨rfl, h2⟩ := Prod.mk.inj (Option.some.inj h)
      obtain ⟨rfl, rfl⟩ := Prod.mk.inj h2
      clear h h2
      go_wp2_with (first
       | (go_at_call 40; refine (impl_inRange.calls (rd l0 4) 1 250 true _ HIN.out).mono ?_; rintro e w6 ⟨rfl, hb⟩; replace HB := Aside0.mk (below_step HB.out hb.below); replace HO := Aside0.mk (Kd.R_below HO.out hb.below); replace HRR := Aside0.mk (Kd.R_reads' HO.out); replace hcz0 : w6.cell? ⟨gR, 0, none⟩ = some (.slice AL left.length cL) := (blk_cell (blk_below hbk hb.below) 0).trans rfl; clear hb)
       | (go_at_call 41; refine (impl_GoodValues.calls k Ad cd d false _ HRR.out.2.2 HRR.out.2.1 HGG.out).mono ?_; rintro e w7 ⟨rfl, hb⟩; replace HB := Aside0.mk (below_step HB.out hb); clear hb))
      go_ret3
      exact ⟨_, rfl, Kd.R_nil _ _ _ _ _, HB.out⟩
  | succ go =>
   have hlt : (i : Int) < (n : Int) := by omega
   have hi256 : i < 256 := by have := HNB.out; omega
   have hZ : ((impl_text.f left s).bind fun x => (impl_text.f (impl_take.f x.1 x.2.1 8).1 (impl_take.f x.1 x.2.1 8).2.1).bind fun y => if y.2.1 = true then some none else impl_ReadSave.go go y.1 y.2.1 (d ++ [⟨x.2.2, wrap64 (impl_num 0 0 (impl_take.f x.1 x.2.1 8).2.2), y.2.2⟩])) = some z := HZ.out
   obtain ⟨⟨l1, s1, t1⟩, hx, hZ⟩ := Option.bind_eq_some_iff.mp hZ
   simp only at hZ
   obtain ⟨⟨l2, s2, o2⟩, h2⟩ : ∃ x, x = impl_take.f l1 s1 8 := ⟨_, rfl⟩
   rw [← h2] at hZ
   obtain ⟨⟨l3, s3, t3⟩, hy, hZ⟩ := Option.bind_eq_some_iff.mp hZ
   simp only at hZ hy
   have ho2 := congrArg (fun x => x.2.2.length) h2
   simp only [impl_take.length] at ho2
   have HX := Aside0.mk hx
   have H2 := Aside0.mk h2.symm
   have HY := Aside0.mk hy
   have HZ2 := Aside0.mk hZ
   have HDI := Aside0.mk (show d.length < 256 by have := HNB.out; have := HDi.out; omega)
   clear hx h2 hy hZ HZ
   go_wp2_with (first
    | (go_at_call 38; refine (impl_text.calls gR left l1 s s1 t1 _ HI.out HX.out).mono ?_; rintro e w6 ⟨rfl, hi, hk⟩; have HI1 := Aside0.mk hi; have HO1 := Aside0.mk (Kd.R_keep HO.out hk.1 (fun _ h => Nat.ne_of_gt h)); have HB1 := Aside0.mk (Kb.below HB.out hk HGR.out); clear hi hk HI HO HB HX)
    | ((with_reducible refine gate_dst (N := 8) rfl ?_); refine box_event rfl (N := 8) rfl (cs := #[.string ⟨#[]⟩, .int .i64 0, .string ⟨#[]⟩]) (t := 49) sE ?_; intro gV hg w7 hbox hb; have hgl_ := HI1.out.lt; have HVR := Aside0.mk (show gV ≠ gR by omega); have HRV := Aside0.mk (show gR < gV by omega); have HGV := Aside0.mk (show w.heap.size ≤ gV by rw [hg]; exact HB1.out.size); have HO2 := Aside0.mk (show Kd.R k49 49 w7 w.heap.size (fun k => gR < k ∧ k ≠ gV) (.slice Ad d.length cd) d from Kd.R_below (Kd.R_elderB HO1.out gV (by omega)) hb); have HI2 := Aside0.mk (HI1.out.keep hb); have HB2 := Aside0.mk (below_step HB1.out hb); have BK := Aside0.mk hbox; have hcz0 : w7.cell? ⟨gV, 0, none⟩ = some (.string ⟨#[]⟩) := (blk_cell hbox 0).trans rfl; have hcz1 : w7.cell? ⟨gV, 1, none⟩ = some (.int .i64 0) := (blk_cell hbox 1).trans rfl; have hcz2 : w7.cell? ⟨gV, 2, none⟩ = some (.string ⟨#[]⟩) := (blk_cell hbox 2).trans rfl; have hfz0 := blk_frozen hbox 0; have hfz1 := blk_frozen hbox 1; have hfz2 := blk_frozen hbox 2; clear hbox hb hg hgl_ HI1 HO1 HB1)
    | ((with_reducible refine gate_store (t := 49) (p := 8) rfl ?_); refine store_event (t := 49) (p := 8) (v := ?vo) (w1 := (((w7.setCell ⟨gV, 0, none⟩ (.string t1)).setCell ⟨gV, 1, none⟩ (.int .i64 0)).setCell ⟨gV, 2, none⟩ (.string ⟨#[]⟩))) ?hg ?ho ?hn ?hr ?_; (case ho => rfl); (case hg => rfl); (case hn => rfl); (case hr => exact sE); intro w8 hw; have hlt_ := HI2.out.lt; have HI3 := Aside0.mk (show Rd.Is w8 gR l1 s1 by rw [hw]; exact ((HI2.out.far (by have := HRV.out; omega)).far (by have := HRV.out; omega)).far (by have := HRV.out; omega)); have HO3 := Aside0.mk (show Kd.R k49 49 w8 w.heap.size (fun k => gR < k ∧ k ≠ gV) (.slice Ad d.length cd) d by rw [hw]; exact Kd.R_far (Kd.R_far (Kd.R_far HO2.out (fun k hk => hk.2) _) (fun k hk => hk.2) _) (fun k hk => hk.2) _); have HB3 := Aside0.mk (show Below w.heap.size w w8 by rw [hw]; exact below_set (below_set (below_set HB2.out HGV.out) HGV.out) HGV.out); have BK3 := Aside0.mk (show w8.heap[gV]? = some (.cells #[.string t1, .int .i64 0, .string ⟨#[]⟩] 49 (0, 0)) by rw [hw]; exact blk_put (cs := #[.string t1, .int .i64 0, .string ⟨#[]⟩]) (blk_put (cs := #[.string t1, .int .i64 0, .string ⟨#[]⟩]) (blk_put (cs := #[.string ⟨#[]⟩, .int .i64 0, .string ⟨#[]⟩]) BK.out 0 _ rfl) 1 _ rfl) 2 _ rfl); clear hw hlt_ HI2 HO2 HB2 BK hcz0 hcz1 hcz2 hfz0 hfz1 hfz2)
    | (go_at_call 39; refine (impl_take.calls gR 8 l1 l2 o2 s1 s2 _ (by omega) HI3.out H2.out).mono ?_; rintro e w9 ⟨A2, c2, rfl, hi, hlc, hf, hk⟩; have HI4 := Aside0.mk hi; have HO4 := Aside0.mk (Kd.R_keep HO3.out hk.1 (fun _ h => Nat.ne_of_gt h.1)); have HB4_ := Aside0.mk (Kb.below HB3.out hk HGR.out); have BK4 := Aside0.mk (hk.blk BK3.out HVR.out); have HF := Aside0.mk hf; clear hi hlc hf hk HI3 HO3 HB3 BK3))
   obtain ⟨wi, hwi⟩ : ∃ x : World, x = w9 := ⟨_, rfl⟩
   go_loopg [9, 58] 8 (fun gj v9 v58 wx => ∃ (j : Nat) (u : Int), j + gj = 8 ∧ v58 = .int .i64 (j : Nat) ∧ v9 = .int .u64 u ∧ Aside0 (impl_num j u (o2.drop j) = impl_num 0 0 o2) ∧ w9 = wx)
   case atStart => exact ⟨0, 0, by omega, rfl, rfl, ⟨rfl⟩, rfl⟩
   case round =>
    obtain ⟨j, u, hjg, rfl, rfl, HN, rfl⟩ := hrel
    cases gk with
    | zero =>
     obtain rfl : j = 8 := by omega
     have hn8 : ¬ (((8 : Nat) : Int) < 8) := by omega
     have hu : u = impl_num 0 0 o2 := by
      have h_ := HN.out
      rw [List.drop_eq_nil_of_le (by omega)] at h_
      exact h_
     rw [← hu] at HZ2
     clear hu HN
     cases s3 with
     | true =>
      rw [if_pos rfl] at HZ2
      obtain rfl := Option.some.inj HZ2.out
      have h := H.out
      simp only at h
      obtain ⟨rfl, h2⟩ := Prod.mk.inj (Option.some.inj h)
      obtain ⟨rfl, rfl⟩ := Prod.mk.inj h2
      clear h h2 H HZ2
      go_wp2_with (first
       | (go_at_call 38; refine (impl_text.calls gR l2 l3 s2 true t3 _ HI4.out HY.out).mono ?_; rintro e w10 ⟨rfl, hi, hk⟩; have HO5 := Aside0.mk (Kd.R_keep HO4.out hk.1 (fun _ h => Nat.ne_of_gt h.1)); have HB5_ := Aside0.mk (Kb.below HB4_.out hk HGR.out); have hb_ := hk.blk BK4.out HVR.out; have hcz1 : w10.cell? ⟨gV, 1, none⟩ = some (.int .i64 0) := (blk_cell hb_ 1).trans rfl; have hcz2 : w10.cell? ⟨gV, 2, none⟩ = some (.string ⟨#[]⟩) := (blk_cell hb_ 2).trans rfl; have hfz1 := blk_frozen hb_ 1; have hfz2 := blk_frozen hb_ 2; have hb2_ := blk_put (cs' := #[.string t1, .int .i64 (wrap64 u), .string t3]) (blk_put (cs' := #[.string t1, .int .i64 (wrap64 u), .string ⟨#[]⟩]) hb_ 1 (.int .i64 (wrap64 u)) rfl) 2 (.string t3) rfl; have hcv0 : ((w10.setCell ⟨gV, 1, none⟩ (.int .i64 (wrap64 u))).setCell ⟨gV, 2, none⟩ (.string t3)).cell? ⟨gV, 0, none⟩ = some (.string t1) := (blk_cell hb2_ 0).trans rfl; have hcv1 : ((w10.setCell ⟨gV, 1, none⟩ (.int .i64 (wrap64 u))).setCell ⟨gV, 2, none⟩ (.string t3)).cell? ⟨gV, 1, none⟩ = some (.int .i64 (wrap64 u)) := (blk_cell hb2_ 1).trans rfl; have hcv2 : ((w10.setCell ⟨gV, 1, none⟩ (.int .i64 (wrap64 u))).setCell ⟨gV, 2, none⟩ (.string t3)).cell? ⟨gV, 2, none⟩ = some (.string t3) := (blk_cell hb2_ 2).trans rfl; have HI5 := Aside0.mk (show Rd.Is ((w10.setCell ⟨gV, 1, none⟩ (.int .i64 (wrap64 u))).setCell ⟨gV, 2, none⟩ (.string t3)) gR l3 true from (hi.far HRV.out).far HRV.out); have hss := HI5.out; obtain ⟨AS, cS, hbkS, hlcS, _⟩ := hss; have hczS : ((w10.setCell ⟨gV, 1, none⟩ (.int .i64 (wrap64 u))).setCell ⟨gV, 2, none⟩ (.string t3)).cell? ⟨gR, 1, none⟩ = some (.bool true) := (blk_cell hbkS 1).trans rfl; have HO6 := Aside0.mk (show Kd.R k49 49 ((w10.setCell ⟨gV, 1, none⟩ (.int .i64 (wrap64 u))).setCell ⟨gV, 2, none⟩ (.string t3)) w.heap.size (fun k => gR < k ∧ k ≠ gV) (.slice Ad d.length cd) d from Kd.R_far (Kd.R_far HO5.out (fun k hk => hk.2) _) (fun k hk => hk.2) _); have HB6 := Aside0.mk (show Below w.heap.size w ((w10.setCell ⟨gV, 1, none⟩ (.int .i64 (wrap64 u))).setCell ⟨gV, 2, none⟩ (.string t3)) from below_set (below_set HB5_.out HGV.out) HGV.out); clear hi hk hb_ hb2_ hbkS hlcS HI4 HO4 HO5 HB4_ HB5_ BK4))
      go_ret3
      exact ⟨_, rfl, Kd.R_nil _ _ _ _ _, HB6.out⟩
     | false =>
      rw [if_neg (by decide)] at HZ2
      go_wp2_with (first
       | (go_at_call 38; refine (impl_text.calls gR l2 l3 s2 false t3 _ HI4.out HY.out).mono ?_; rintro e w10 ⟨rfl, hi, hk⟩; have HO5 := Aside0.mk (Kd.R_keep HO4.out hk.1 (fun _ h => Nat.ne_of_gt h.1)); have HB5_ := Aside0.mk (Kb.below HB4_.out hk HGR.out); have hb_ := hk.blk BK4.out HVR.out; have hcz1 : w10.cell? ⟨gV, 1, none⟩ = some (.int .i64 0) := (blk_cell hb_ 1).trans rfl; have hcz2 : w10.cell? ⟨gV, 2, none⟩ = some (.string ⟨#[]⟩) := (blk_cell hb_ 2).trans rfl; have hfz1 := blk_frozen hb_ 1; have hfz2 := blk_frozen hb_ 2; have hb2_ := blk_put (cs' := #[.string t1, .int .i64 (wrap64 u), .string t3]) (blk_put (cs' := #[.string t1, .int .i64 (wrap64 u), .string ⟨#[]⟩]) hb_ 1 (.int .i64 (wrap64 u)) rfl) 2 (.string t3) rfl; have hcv0 : ((w10.setCell ⟨gV, 1, none⟩ (.int .i64 (wrap64 u))).setCell ⟨gV, 2, none⟩ (.string t3)).cell? ⟨gV, 0, none⟩ = some (.string t1) := (blk_cell hb2_ 0).trans rfl; have hcv1 : ((w10.setCell ⟨gV, 1, none⟩ (.int .i64 (wrap64 u))).setCell ⟨gV, 2, none⟩ (.string t3)).cell? ⟨gV, 1, none⟩ = some (.int .i64 (wrap64 u)) := (blk_cell hb2_ 1).trans rfl; have hcv2 : ((w10.setCell ⟨gV, 1, none⟩ (.int .i64 (wrap64 u))).setCell ⟨gV, 2, none⟩ (.string t3)).cell? ⟨gV, 2, none⟩ = some (.string t3) := (blk_cell hb2_ 2).trans rfl; have HI5 := Aside0.mk (show Rd.Is ((w10.setCell ⟨gV, 1, none⟩ (.int .i64 (wrap64 u))).setCell ⟨gV, 2, none⟩ (.string t3)) gR l3 false from (hi.far HRV.out).far HRV.out); have hss := HI5.out; obtain ⟨AS, cS, hbkS, hlcS, _⟩ := hss; have hczS : ((w10.setCell ⟨gV, 1, none⟩ (.int .i64 (wrap64 u))).setCell ⟨gV, 2, none⟩ (.string t3)).cell? ⟨gR, 1, none⟩ = some (.bool false) := (blk_cell hbkS 1).trans rfl; have HO6 := Aside0.mk (show Kd.R k49 49 ((w10.setCell ⟨gV, 1, none⟩ (.int .i64 (wrap64 u))).setCell ⟨gV, 2, none⟩ (.string t3)) w.heap.size (fun k => gR < k ∧ k ≠ gV) (.slice Ad d.length cd) d from Kd.R_far (Kd.R_far HO5.out (fun k hk => hk.2) _) (fun k hk => hk.2) _); have HB6 := Aside0.mk (show Below w.heap.size w ((w10.setCell ⟨gV, 1, none⟩ (.int .i64 (wrap64 u))).setCell ⟨gV, 2, none⟩ (.string t3)) from below_set (below_set HB5_.out HGV.out) HGV.out); clear hi hk hb_ hb2_ hbkS hlcS HI4 HO4 HO5 HB4_ HB5_ BK4)
       | ((with_reducible refine gate_builtin (b := .append) (xs := #[.tmp 81, .tmp 83]) rfl ?_); at_builtin; have hgl_ := HI5.out.lt; refine Kd.R_append k49 (w0 := w) w.heap.size rfl (.tmp 81) (.tmp 83) 25 49 (.agg #[.string ⟨#[]⟩, .int .i64 0, .string ⟨#[]⟩]) 40 rfl Try.underlying25 info49 rfl (by decide) (by omega) (.slice Ad d.length cd) d (⟨t1, wrap64 u, t3⟩ : S49) [.string t1, .int .i64 (wrap64 u), .string t3] (fun k => gR < k) (fun _ => False) rfl ?aX ?aP (fun _ hk => hk.elim) ?aF ?aO ?aB ?aS ?aL ?_; (case aX => first | rfl | (go_simp; done) | (go_simp; rfl)); (case aP => exact k49_mkM _ _ _ (⟨t1, wrap64 u, t3⟩ : S49)); (case aB => exact HB6.out); (case aF => intro k_ hk_; omega); (case aO => exact Kd.R_mono HO6.out (fun _ h => h.1)); (case aS => exact below_size HB6.out); (case aL => have := HDI.out; omega); intro v1 w11 ho hb hg hat; have HO7 := Aside0.mk ho; have HB7 := Aside0.mk hb; have HI7 := Aside0.mk (HI5.out.step (fun k_ hk_ => hg.block k_ (by omega) (fun e_ => by have ho_ := (HO6.out.1 k_ e_.symm).1; omega))); clear ho hb hg hat))
      go_roundg go
      case measure => omega
      case rel => exact ⟨i + 1, l3, false, _, by omega, by rw [List.length_append, HDi.out]; rfl, by go_num, HI7, HO7, HB7, HZ2⟩
    | succ gj2 =>
     have hj8 : (j : Int) < 8 := by omega
     have hj0' : (0 : Int) ≤ (j : Int) := by omega
     have hj2 : (j : Int) < (o2.length : Int) := by omega
     obtain ⟨a2, rfl, hxj⟩ := Kd.at_int HF.out (j : Int) hj0' hj2
     rw [Int.toNat_natCast] at hxj
     have h8j : wrap64 (8 * (j : Int)) = 8 * (j : Int) := by unfold wrap64; omega
     have h8n : ¬ (8 * (j : Int) < 0) := by omega
     go_wp2
     go_roundg gj2
     case measure => omega
     case rel =>
      refine ⟨j + 1, _, by omega, by go_num, rfl, ⟨?_⟩, rfl⟩
      have h_ := HN.out
      have hjl : j < o2.length := by omega
      rw [List.drop_eq_getElem_cons hjl] at h_
      rw [← h_]
      have hrd : rd o2 (j : Int) = o2[j] := by simp [rd, List.getD_eq_getElem?_getD, hjl]
      rw [hrd]
      rfl
def impl_isFar.f (a0 : Int) : Option (Bool) := (impl_inRange.f a0 (-1000000) 1000000).bind fun t255 => (some t255)
set_option maxHeartbeats 8000000 in
set_option maxRecDepth 100000 in
theorem impl_isFar.calls (a0 : Int) (r : Bool) (w : World) (h : impl_isFar.f a0 = some r) :
  Calls Try.prog 59 #[.int .i64 a0] w fun e w' => e = .returned (.bool r) ∧ Drawn0 w w' := by
 have H : ((impl_inRange.f a0 (-1000000) 1000000).bind fun t255 => (some t255)) = some r := h
 clear h
 replace H := Option.bind_eq_some_iff.mp H
 obtain ⟨t255, A20, H⟩ := H
 replace H : (some t255) = some r := H
 have A2 := Aside0.mk A20
 clear A20
 obtain rfl := Option.some.inj H
 go_enter Try.func59, Try.ntmps59
 go_wp2_with (first | ((with_reducible refine gate_callee (f := 40) rfl ?_); refine goesL_ (some 4) rfl rfl Try.func40 (by kernel_rfl) rfl #[.int .i64 a0, .int .i64 (-1000000), .int .i64 1000000] rfl aE ?_; (with_reducible refine (impl_inRange.calls a0 (-1000000) 1000000 t255 _ A2.out).mono ?_); rintro e w' ⟨rfl, ⟨nd, rfl⟩⟩; refine ⟨_, rfl, ?_⟩))
 go_ret
 exact ⟨tE, by repeat (first | exact Drawn0.refl _ | apply Drawn0.step)⟩
end Go.Proofs.Ytjjbkebodkjnkaa.PFnExactLoadSave
namespace Go.Proofs.Ytjjbkebodkjnkaa.PFnExactLoadSave
open Go.RowKit Go.Proofs.YtjjbkebodkjnkaaW.PrintWords Go.Proofs.YtjjbkebodkjnkaaW.PrintLast Go.Proofs.YtjjbkebodkjnkaaW.PrintMore
attribute [local go_sem] max2_int min2_int max_two min_two max_three min_three max_four min_four
set_option linter.unusedVariables false
set_option linter.unusedSimpArgs false
mutual
def impl_isChange.j0 : Nat → Bool → Int → Int → ByteArray → ByteArray → Int → Option (Bool)
 | 0, _, _, _, _, _, _ => none
 | k + 1, x3, x257000, x257001, x257002, x257003, x257004 => if x257001 = 1 then ((impl_GoodName.f k x257003).bind fun t257 => (if t257 = true then (if x3 = true then (impl_isChange.j1 k false x257000 x257001 x257002 x257003 x257004) else (impl_isChange.j1 k (x257004 != 0) x257000 x257001 x257002 x257003 x257004)) else (impl_isChange.j1 k true x257000 x257001 x257002 x257003 x257004))) else (if x257003.toList = ([] : List UInt8) then (if x3 = true then (impl_isChange.j1 k false x257000 x257001 x257002 x257003 x257004) else (impl_isChange.j1 k (x257004 != 0) x257000 x257001 x257002 x257003 x257004)) else (impl_isChange.j1 k true x257000 x257001 x257002 x257003 x257004))
def impl_isChange.j1 : Nat → Bool → Int → Int → ByteArray → ByteArray → Int → Option (Bool)
 | 0, _, _, _, _, _, _ => none
 | k + 1, x44, x257000, x257001, x257002, x257003, x257004 => if x44 = true then (some false) else ((impl_inRange.f x257000 1 2).bind fun t258 => (if t258 = true then ((impl_inRange.f x257001 1 5).bind fun t259 => (if t259 = true then ((impl_GoodName.f k x257002).bind fun t260 => (if t260 = true then ((impl_isFar.f x257004).bind fun t261 => (some t261)) else (some false))) else (some false))) else (some false)))
end
def impl_isChange.f (k : Nat) (a0_0 : Int) (a0_1 : Int) (a0_2 : ByteArray) (a0_3 : ByteArray) (a0_4 : Int) : Option (Bool) := if a0_1 = 2 then (impl_isChange.j0 k true a0_0 a0_1 a0_2 a0_3 a0_4) else (if a0_1 = 3 then (impl_isChange.j0 k true a0_0 a0_1 a0_2 a0_3 a0_4) else (impl_isChange.j0 k (a0_1 == 5) a0_0 a0_1 a0_2 a0_3 a0_4))
theorem impl_isChange.mono_l : ∀ k, (∀ y0 y1 y2 y3 y4 y5, LeO (impl_isChange.j0 k y0 y1 y2 y3 y4 y5) (impl_isChange.j0 (k + 1) y0 y1 y2 y3 y4 y5)) ∧ (∀ y0 y1 y2 y3 y4 y5, LeO (impl_isChange.j1 k y0 y1 y2 y3 y4 y5) (impl_isChange.j1 (k + 1) y0 y1 y2 y3 y4 y5))
 | 0 => ⟨fun _ _ _ _ _ _ r h => by simp [impl_isChange.j0] at h, fun _ _ _ _ _ _ r h => by simp [impl_isChange.j1] at h⟩
 | k + 1 => by
  obtain ⟨ih0, ih1⟩ := impl_isChange.mono_l k
  refine ⟨?_, ?_⟩
  ·intro y0 y1 y2 y3 y4 y5
   unfold impl_isChange.j0
   repeat' first
   | (with_reducible exact ih0 _ _ _ _ _ _)
   | (with_reducible exact ih1 _ _ _ _ _ _)
   | (with_reducible exact impl_GoodName.mono _ _)
   | (with_reducible first | exact LeO.refl _ | exact LeO.none _ | refine LeO.ite ?_ ?_ | refine LeO.bind ?_ (fun _ => ?_))
   | exact ih0 _ _ _ _ _ _
   | exact ih1 _ _ _ _ _ _
   | exact impl_GoodName.mono _ _ | exact LeO.none _ | refine LeO.ite ?_ ?_ | refine LeO.bind ?_ (fun _ => ?_)
  ·intro y0 y1 y2 y3 y4 y5
   unfold impl_isChange.j1
   repeat' first
   | (with_reducible exact ih0 _ _ _ _ _ _)
   | (with_reducible exact ih1 _ _ _ _ _ _)
   | (with_reducible exact impl_GoodName.mono _ _)
   | (with_reducible first | exact LeO.refl _ | exact LeO.none _ | refine LeO.ite ?_ ?_ | refine LeO.bind ?_ (fun _ => ?_))
   | exact ih0 _ _ _ _ _ _
   | exact ih1 _ _ _ _ _ _
   | exact impl_GoodName.mono _ _ | exact LeO.none _ | refine LeO.ite ?_ ?_ | refine LeO.bind ?_ (fun _ => ?_)
theorem impl_isChange.mono : ∀ a0 a1 a2 a3 a4 k, LeO (impl_isChange.f k a0 a1 a2 a3 a4) (impl_isChange.f (k + 1) a0 a1 a2 a3 a4) := by
 intro a0 a1 a2 a3 a4 k
 obtain ⟨ih0, ih1⟩ := impl_isChange.mono_l k
 unfold impl_isChange.f
 repeat' first
   | (with_reducible exact ih0 _ _ _ _ _ _)
   | (with_reducible exact ih1 _ _ _ _ _ _)
   | (with_reducible exact impl_GoodName.mono _ _)
   | (with_reducible first | exact LeO.refl _ | exact LeO.none _ | refine LeO.ite ?_ ?_ | refine LeO.bind ?_ (fun _ => ?_))
   | exact ih0 _ _ _ _ _ _
   | exact ih1 _ _ _ _ _ _
   | exact impl_GoodName.mono _ _ | exact LeO.none _ | refine LeO.ite ?_ ?_ | refine LeO.bind ?_ (fun _ => ?_)
set_option maxHeartbeats 8000000 in
set_option maxRecDepth 100000 in
theorem impl_isChange.calls (k : Nat) (a0_0 : Int) (a0_1 : Int) (a0_2 : ByteArray) (a0_3 : ByteArray) (a0_4 : Int) (r : Bool) (w : World) (h : impl_isChange.f k a0_0 a0_1 a0_2 a0_3 a0_4 = some r) :
  Calls Try.prog 50 #[.agg #[.int .i64 a0_0, .int .i64 a0_1, .string a0_2, .string a0_3, .int .i64 a0_4]] w fun e w' => e = .returned (.bool r) ∧ Below w.heap.size w w' := by
 have hu45 := Try.underlying45
 have HB := Aside0.mk (Below.refl w.heap.size w)
 have H : (if a0_1 = 2 then (impl_isChange.j0 k true a0_0 a0_1 a0_2 a0_3 a0_4) else (if a0_1 = 3 then (impl_isChange.j0 k true a0_0 a0_1 a0_2 a0_3 a0_4) else (impl_isChange.j0 k (a0_1 == 5) a0_0 a0_1 a0_2 a0_3 a0_4))) = some r := h
 clear h
 have HC2 := Aside0.mk H
 clear H
 go_enter Try.func50, Try.ntmps50
 go_upto_region 1 with (first | ((with_reducible refine gate_dst (N := 1) rfl ?_); refine box_event rfl (N := 1) rfl (cs := #[.int .i64 a0_0, .int .i64 a0_1, .string a0_2, .string a0_3, .int .i64 a0_4]) (t := 45) sE ?_; intro gb256 hg w3 hbox hb; have BK256 := Aside0.mk hbox; have GW256 := gS w hg (lU); have GE256 := gS w hg (lU); replace HB := bH (lU) hb; clear hb hbox hg))
 (try simp only [Act.put, List.setIfInBounds_toArray, List.set_cons_zero, List.set_cons_succ])
 go_cut [3] (fun v3 wc => ∃ (kq : Nat) (x3_1 : Bool), v3 = .bool x3_1 ∧ Aside0 (impl_isChange.j0 kq x3_1 a0_0 a0_1 a0_2 a0_3 a0_4 = some r) ∧ Aside0 (kq ≤ k) ∧ Aside0 (wc.heap[gb256]? = some (.cells #[.int .i64 a0_0, .int .i64 a0_1, .string a0_2, .string a0_3, .int .i64 a0_4] 45 (0, 0))) ∧ Aside0 (Below w.heap.size w wc))
 case first =>
  have H := HC2.out
  clear HC2
  by_cases c4 : a0_1 = 2
  ·rw [if_pos c4] at H
   have c4b0 : (a0_1 == 2) = true := beq_iff_eq.mpr c4
   have c4b1 : (a0_1 != 2) = false := bne_eq_false_iff_eq.mpr c4
   clear c4
   (first | rw [c4b0] | (simp only [i64_w, i32_w]; rw [c4b0]) | (rw [c4b2]; simp only [Bool.not_false, Bool.not_true]) | skip)
   have H' := Aside0.mk H
   clear H
   have hcz5_0 := cz BK256 0 (.int .i64 a0_0)
   have hcz5_1 := cz BK256 1 (.int .i64 a0_1)
   have hcz5_2 := cz BK256 2 (.string a0_2)
   have hcz5_3 := cz BK256 3 (.string a0_3)
   have hcz5_4 := cz BK256 4 (.int .i64 a0_4)
   have hfz5_0 := fz BK256 0
   have hfz5_1 := fz BK256 1
   have hfz5_2 := fz BK256 2
   have hfz5_3 := fz BK256 3
   have hfz5_4 := fz BK256 4
   go_wp2
   go_meet
   case rel => exact ⟨_, (true), tE, H', ⟨by first | omega | exact Nat.le_refl _⟩, ⟨by refine bU ?_; exact BK256.out⟩, ⟨by repeat (first | (with_reducible first | exact HB.out | apply below_alloc | apply pw_below_drewN | apply below_drew1 | refine below_set ?_ GE256.out) | exact HB.out)⟩⟩
  ·rw [if_neg c4] at H
   have c4b0 : (a0_1 == 2) = false := beq_eq_false_iff_ne.mpr c4
   have c4b1 : (a0_1 != 2) = true := bne_iff_ne.mpr c4
   (first | rw [c4b0] | (simp only [i64_w, i32_w]; rw [c4b0]) | (rw [c4b2]; simp only [Bool.not_false, Bool.not_true]) | skip)
   by_cases c6 : a0_1 = 3
   ·rw [if_pos c6] at H
    have c6b0 : (a0_1 == 3) = true := beq_iff_eq.mpr c6
    have c6b1 : (a0_1 != 3) = false := bne_eq_false_iff_eq.mpr c6
    clear c6
    have H' := Aside0.mk H
    clear H
    have hcz7_0 := cz BK256 0 (.int .i64 a0_0)
    have hcz7_1 := cz BK256 1 (.int .i64 a0_1)
    have hcz7_2 := cz BK256 2 (.string a0_2)
    have hcz7_3 := cz BK256 3 (.string a0_3)
    have hcz7_4 := cz BK256 4 (.int .i64 a0_4)
    have hfz7_0 := fz BK256 0
    have hfz7_1 := fz BK256 1
    have hfz7_2 := fz BK256 2
    have hfz7_3 := fz BK256 3
    have hfz7_4 := fz BK256 4
    go_wp2
    go_meet
    case rel => exact ⟨_, (true), tE, H', ⟨by first | omega | exact Nat.le_refl _⟩, ⟨by refine bU ?_; exact BK256.out⟩, ⟨by repeat (first | (with_reducible first | exact HB.out | apply below_alloc | apply pw_below_drewN | apply below_drew1 | refine below_set ?_ GE256.out) | exact HB.out)⟩⟩
   ·rw [if_neg c6] at H
    have c6b0 : (a0_1 == 3) = false := beq_eq_false_iff_ne.mpr c6
    have c6b1 : (a0_1 != 3) = true := bne_iff_ne.mpr c6
    have H' := Aside0.mk H
    clear H
    have hcz8_0 := cz BK256 0 (.int .i64 a0_0)
    have hcz8_1 := cz BK256 1 (.int .i64 a0_1)
    have hcz8_2 := cz BK256 2 (.string a0_2)
    have hcz8_3 := cz BK256 3 (.string a0_3)
    have hcz8_4 := cz BK256 4 (.int .i64 a0_4)
    have hfz8_0 := fz BK256 0
    have hfz8_1 := fz BK256 1
    have hfz8_2 := fz BK256 2
    have hfz8_3 := fz BK256 3
    have hfz8_4 := fz BK256 4
    go_wp2
    go_meet
    case rel => exact ⟨_, ((a0_1 == 5)), tE, H', ⟨by first | omega | exact Nat.le_refl _⟩, ⟨by refine bU ?_; exact BK256.out⟩, ⟨by repeat (first | (with_reducible first | exact HB.out | apply below_alloc | apply pw_below_drewN | apply below_drew1 | refine below_set ?_ GE256.out) | exact HB.out)⟩⟩
 case rest =>
  clear HC2
  obtain ⟨kq, x3_1, rfl, HA, HJ1, BK256, HB⟩ := hcut
  cases kq with
  | zero => exact absurd HA.out (by simp [impl_isChange.j0])
  | succ kj1 =>
   have H := HA.out
   clear HA
   simp only [impl_isChange.j0] at H
   have HC9 := Aside0.mk H
   clear H
   go_upto_region 2 with (fail)
   go_cut [44] (fun v44 wc => ∃ (kq : Nat) (x44_8 : Bool), v44 = .bool x44_8 ∧ Aside0 (impl_isChange.j1 kq x44_8 a0_0 a0_1 a0_2 a0_3 a0_4 = some r) ∧ Aside0 (kq ≤ kj1) ∧ Aside0 (wc.heap[gb256]? = some (.cells #[.int .i64 a0_0, .int .i64 a0_1, .string a0_2, .string a0_3, .int .i64 a0_4] 45 (0, 0))) ∧ Aside0 (Below w.heap.size w wc))
   case first =>
    have H := HC9.out
    clear HC9
    by_cases c10 : a0_1 = 1
    ·rw [if_pos c10] at H
     have c10b0 : (a0_1 == 1) = true := beq_iff_eq.mpr c10
     have c10b1 : (a0_1 != 1) = false := bne_eq_false_iff_eq.mpr c10
     clear c10
     (first | rw [c10b0] | (simp only [i64_w, i32_w]; rw [c10b0]) | (rw [c10b2]; simp only [Bool.not_false, Bool.not_true]) | skip)
     replace H := Option.bind_eq_some_iff.mp H
     obtain ⟨t257, A110, H⟩ := H
     replace H : (if t257 = true then (if x3_1 = true then (impl_isChange.j1 kj1 false a0_0 a0_1 a0_2 a0_3 a0_4) else (impl_isChange.j1 kj1 (a0_4 != 0) a0_0 a0_1 a0_2 a0_3 a0_4)) else (impl_isChange.j1 kj1 true a0_0 a0_1 a0_2 a0_3 a0_4)) = some r := H
     have A11 := Aside0.mk A110
     clear A110
     by_cases c12 : t257 = true
     ·subst c12
      have H1 : (if x3_1 = true then (impl_isChange.j1 kj1 false a0_0 a0_1 a0_2 a0_3 a0_4) else (impl_isChange.j1 kj1 (a0_4 != 0) a0_0 a0_1 a0_2 a0_3 a0_4)) = some r := by rw [if_pos rfl] at H; exact H
      clear H
      have H := H1
      clear H1
      by_cases c13 : x3_1 = true
      ·subst c13
       have H1 : (impl_isChange.j1 kj1 false a0_0 a0_1 a0_2 a0_3 a0_4) = some r := by rw [if_pos rfl] at H; exact H
       clear H
       have H := H1
       clear H1
       have H' := Aside0.mk H
       clear H
       have hcz14_0 := cz BK256 0 (.int .i64 a0_0)
       have hcz14_1 := cz BK256 1 (.int .i64 a0_1)
       have hcz14_2 := cz BK256 2 (.string a0_2)
       have hcz14_3 := cz BK256 3 (.string a0_3)
       have hcz14_4 := cz BK256 4 (.int .i64 a0_4)
       have hfz14_0 := fz BK256 0
       have hfz14_1 := fz BK256 1
       have hfz14_2 := fz BK256 2
       have hfz14_3 := fz BK256 3
       have hfz14_4 := fz BK256 4
       go_wp2_with (first | (go_at_call 49; (with_reducible refine (impl_GoodName.calls kj1 a0_3 true _ A11.out).mono ?_); rintro e w' ⟨rfl, ⟨nd, rfl⟩⟩))
       go_meet
       case rel => exact ⟨_, (false), tE, H', ⟨by have := HJ1.out; first | omega | exact Nat.le_refl _⟩, ⟨by refine bU ?_; exact BK256.out⟩, ⟨by repeat (first | (with_reducible first | exact HB.out | apply below_alloc | apply pw_below_drewN | apply below_drew1 | refine below_set ?_ GE256.out) | exact HB.out)⟩⟩
      ·replace c13 := Bool.eq_false_iff.mpr c13
       subst c13
       have H1 : (impl_isChange.j1 kj1 (a0_4 != 0) a0_0 a0_1 a0_2 a0_3 a0_4) = some r := by rw [if_neg (show ¬ (false = true) by decide)] at H; exact H
       clear H
       have H := H1
       clear H1
       have H' := Aside0.mk H
       clear H
       have hcz15_0 := cz BK256 0 (.int .i64 a0_0)
       have hcz15_1 := cz BK256 1 (.int .i64 a0_1)
       have hcz15_2 := cz BK256 2 (.string a0_2)
       have hcz15_3 := cz BK256 3 (.string a0_3)
       have hcz15_4 := cz BK256 4 (.int .i64 a0_4)
       have hfz15_0 := fz BK256 0
       have hfz15_1 := fz BK256 1
       have hfz15_2 := fz BK256 2
       have hfz15_3 := fz BK256 3
       have hfz15_4 := fz BK256 4
       go_wp2_with (first | (go_at_call 49; (with_reducible refine (impl_GoodName.calls kj1 a0_3 true _ A11.out).mono ?_); rintro e w' ⟨rfl, ⟨nd, rfl⟩⟩))
       go_meet
       case rel => exact ⟨_, ((a0_4 != 0)), tE, H', ⟨by have := HJ1.out; first | omega | exact Nat.le_refl _⟩, ⟨by refine bU ?_; exact BK256.out⟩, ⟨by repeat (first | (with_reducible first | exact HB.out | apply below_alloc | apply pw_below_drewN | apply below_drew1 | refine below_set ?_ GE256.out) | exact HB.out)⟩⟩
     ·replace c12 := Bool.eq_false_iff.mpr c12
      subst c12
      have H1 : (impl_isChange.j1 kj1 true a0_0 a0_1 a0_2 a0_3 a0_4) = some r := by rw [if_neg (show ¬ (false = true) by decide)] at H; exact H
      clear H
      have H := H1
      clear H1
      have H' := Aside0.mk H
      clear H
      have hcz16_0 := cz BK256 0 (.int .i64 a0_0)
      have hcz16_1 := cz BK256 1 (.int .i64 a0_1)
      have hcz16_2 := cz BK256 2 (.string a0_2)
      have hcz16_3 := cz BK256 3 (.string a0_3)
      have hcz16_4 := cz BK256 4 (.int .i64 a0_4)
      have hfz16_0 := fz BK256 0
      have hfz16_1 := fz BK256 1
      have hfz16_2 := fz BK256 2
      have hfz16_3 := fz BK256 3
      have hfz16_4 := fz BK256 4
      go_wp2_with (first | (go_at_call 49; (with_reducible refine (impl_GoodName.calls kj1 a0_3 false _ A11.out).mono ?_); rintro e w' ⟨rfl, ⟨nd, rfl⟩⟩))
      go_meet
      case rel => exact ⟨_, (true), tE, H', ⟨by have := HJ1.out; first | omega | exact Nat.le_refl _⟩, ⟨by refine bU ?_; exact BK256.out⟩, ⟨by repeat (first | (with_reducible first | exact HB.out | apply below_alloc | apply pw_below_drewN | apply below_drew1 | refine below_set ?_ GE256.out) | exact HB.out)⟩⟩
    ·rw [if_neg c10] at H
     have c10b0 : (a0_1 == 1) = false := beq_eq_false_iff_ne.mpr c10
     have c10b1 : (a0_1 != 1) = true := bne_iff_ne.mpr c10
     (first | rw [c10b0] | (simp only [i64_w, i32_w]; rw [c10b0]) | (rw [c10b2]; simp only [Bool.not_false, Bool.not_true]) | skip)
     by_cases c17 : a0_3.toList = ([] : List UInt8)
     ·rw [if_pos c17] at H
      have c17b0 : (a0_3.toList == ([] : List UInt8)) = true := beq_iff_eq.mpr c17
      have c17b1 : (a0_3.toList != ([] : List UInt8)) = false := bne_eq_false_iff_eq.mpr c17
      clear c17
      by_cases c18 : x3_1 = true
      ·subst c18
       have H1 : (impl_isChange.j1 kj1 false a0_0 a0_1 a0_2 a0_3 a0_4) = some r := by rw [if_pos rfl] at H; exact H
       clear H
       have H := H1
       clear H1
       have H' := Aside0.mk H
       clear H
       have hcz19_0 := cz BK256 0 (.int .i64 a0_0)
       have hcz19_1 := cz BK256 1 (.int .i64 a0_1)
       have hcz19_2 := cz BK256 2 (.string a0_2)
       have hcz19_3 := cz BK256 3 (.string a0_3)
       have hcz19_4 := cz BK256 4 (.int .i64 a0_4)
       have hfz19_0 := fz BK256 0
       have hfz19_1 := fz BK256 1
       have hfz19_2 := fz BK256 2
       have hfz19_3 := fz BK256 3
       have hfz19_4 := fz BK256 4
       go_wp2
       go_meet
       case rel => exact ⟨_, (false), tE, H', ⟨by have := HJ1.out; first | omega | exact Nat.le_refl _⟩, ⟨by refine bU ?_; exact BK256.out⟩, ⟨by repeat (first | (with_reducible first | exact HB.out | apply below_alloc | apply pw_below_drewN | apply below_drew1 | refine below_set ?_ GE256.out) | exact HB.out)⟩⟩
      ·replace c18 := Bool.eq_false_iff.mpr c18
       subst c18
       have H1 : (impl_isChange.j1 kj1 (a0_4 != 0) a0_0 a0_1 a0_2 a0_3 a0_4) = some r := by rw [if_neg (show ¬ (false = true) by decide)] at H; exact H
       clear H
       have H := H1
       clear H1
       have H' := Aside0.mk H
       clear H
       have hcz20_0 := cz BK256 0 (.int .i64 a0_0)
       have hcz20_1 := cz BK256 1 (.int .i64 a0_1)
       have hcz20_2 := cz BK256 2 (.string a0_2)
       have hcz20_3 := cz BK256 3 (.string a0_3)
       have hcz20_4 := cz BK256 4 (.int .i64 a0_4)
       have hfz20_0 := fz BK256 0
       have hfz20_1 := fz BK256 1
       have hfz20_2 := fz BK256 2
       have hfz20_3 := fz BK256 3
       have hfz20_4 := fz BK256 4
       go_wp2
       go_meet
       case rel => exact ⟨_, ((a0_4 != 0)), tE, H', ⟨by have := HJ1.out; first | omega | exact Nat.le_refl _⟩, ⟨by refine bU ?_; exact BK256.out⟩, ⟨by repeat (first | (with_reducible first | exact HB.out | apply below_alloc | apply pw_below_drewN | apply below_drew1 | refine below_set ?_ GE256.out) | exact HB.out)⟩⟩
     ·rw [if_neg c17] at H
      have c17b0 : (a0_3.toList == ([] : List UInt8)) = false := beq_eq_false_iff_ne.mpr c17
      have c17b1 : (a0_3.toList != ([] : List UInt8)) = true := bne_iff_ne.mpr c17
      have H' := Aside0.mk H
      clear H
      have hcz21_0 := cz BK256 0 (.int .i64 a0_0)
      have hcz21_1 := cz BK256 1 (.int .i64 a0_1)
      have hcz21_2 := cz BK256 2 (.string a0_2)
      have hcz21_3 := cz BK256 3 (.string a0_3)
      have hcz21_4 := cz BK256 4 (.int .i64 a0_4)
      have hfz21_0 := fz BK256 0
      have hfz21_1 := fz BK256 1
      have hfz21_2 := fz BK256 2
      have hfz21_3 := fz BK256 3
      have hfz21_4 := fz BK256 4
      go_wp2
      go_meet
      case rel => exact ⟨_, (true), tE, H', ⟨by have := HJ1.out; first | omega | exact Nat.le_refl _⟩, ⟨by refine bU ?_; exact BK256.out⟩, ⟨by repeat (first | (with_reducible first | exact HB.out | apply below_alloc | apply pw_below_drewN | apply below_drew1 | refine below_set ?_ GE256.out) | exact HB.out)⟩⟩
   case rest =>
    clear HC9
    obtain ⟨kq, x44_8, rfl, HA, HJ8, BK256, HB⟩ := hcut
    cases kq with
    | zero => exact absurd HA.out (by simp [impl_isChange.j1])
    | succ kj8 =>
     have H := HA.out
     clear HA
     simp only [impl_isChange.j1] at H
     by_cases c22 : x44_8 = true
     ·subst c22
      have H1 : (some false) = some r := by rw [if_pos rfl] at H; exact H
      clear H
      have H := H1
      clear H1
      obtain rfl := Option.some.inj H
      go_wp2
      go_ret
      exact ⟨eE, lV1 GE256⟩
     ·replace c22 := Bool.eq_false_iff.mpr c22
      subst c22
      have H1 : ((impl_inRange.f a0_0 1 2).bind fun t258 => (if t258 = true then ((impl_inRange.f a0_1 1 5).bind fun t259 => (if t259 = true then ((impl_GoodName.f kj8 a0_2).bind fun t260 => (if t260 = true then ((impl_isFar.f a0_4).bind fun t261 => (some t261)) else (some false))) else (some false))) else (some false))) = some r := by rw [if_neg (show ¬ (false = true) by decide)] at H; exact H
      clear H
      have H := H1
      clear H1
      replace H := Option.bind_eq_some_iff.mp H
      obtain ⟨t258, A230, H⟩ := H
      replace H : (if t258 = true then ((impl_inRange.f a0_1 1 5).bind fun t259 => (if t259 = true then ((impl_GoodName.f kj8 a0_2).bind fun t260 => (if t260 = true then ((impl_isFar.f a0_4).bind fun t261 => (some t261)) else (some false))) else (some false))) else (some false)) = some r := H
      have A23 := Aside0.mk A230
      clear A230
      by_cases c24 : t258 = true
      ·subst c24
       have H1 : ((impl_inRange.f a0_1 1 5).bind fun t259 => (if t259 = true then ((impl_GoodName.f kj8 a0_2).bind fun t260 => (if t260 = true then ((impl_isFar.f a0_4).bind fun t261 => (some t261)) else (some false))) else (some false))) = some r := by rw [if_pos rfl] at H; exact H
       clear H
       have H := H1
       clear H1
       replace H := Option.bind_eq_some_iff.mp H
       obtain ⟨t259, A250, H⟩ := H
       replace H : (if t259 = true then ((impl_GoodName.f kj8 a0_2).bind fun t260 => (if t260 = true then ((impl_isFar.f a0_4).bind fun t261 => (some t261)) else (some false))) else (some false)) = some r := H
       have A25 := Aside0.mk A250
       clear A250
       by_cases c26 : t259 = true
       ·subst c26
        have H1 : ((impl_GoodName.f kj8 a0_2).bind fun t260 => (if t260 = true then ((impl_isFar.f a0_4).bind fun t261 => (some t261)) else (some false))) = some r := by rw [if_pos rfl] at H; exact H
        clear H
        have H := H1
        clear H1
        replace H := Option.bind_eq_some_iff.mp H
        obtain ⟨t260, A270, H⟩ := H
        replace H : (if t260 = true then ((impl_isFar.f a0_4).bind fun t261 => (some t261)) else (some false)) = some r := H
        have A27 := Aside0.mk A270
        clear A270
        by_cases c28 : t260 = true
        ·subst c28
         have H1 : ((impl_isFar.f a0_4).bind fun t261 => (some t261)) = some r := by rw [if_pos rfl] at H; exact H
         clear H
         have H := H1
         clear H1
         replace H := Option.bind_eq_some_iff.mp H
         obtain ⟨t261, A290, H⟩ := H
         replace H : (some t261) = some r := H
         have A29 := Aside0.mk A290
         clear A290
         obtain rfl := Option.some.inj H
         have hcz30_0 := cz BK256 0 (.int .i64 a0_0)
         have hcz30_1 := cz BK256 1 (.int .i64 a0_1)
         have hcz30_2 := cz BK256 2 (.string a0_2)
         have hcz30_3 := cz BK256 3 (.string a0_3)
         have hcz30_4 := cz BK256 4 (.int .i64 a0_4)
         have hfz30_0 := fz BK256 0
         have hfz30_1 := fz BK256 1
         have hfz30_2 := fz BK256 2
         have hfz30_3 := fz BK256 3
         have hfz30_4 := fz BK256 4
         go_wp2_with (first | ((with_reducible refine gate_callee (f := 40) rfl ?_); refine goesL_ (some 47) rfl rfl Try.func40 (by kernel_rfl) rfl #[.int .i64 a0_0, .int .i64 1, .int .i64 2] rfl aE ?_; (with_reducible refine (impl_inRange.calls a0_0 1 2 true _ A23.out).mono ?_); rintro e w' ⟨rfl, ⟨nd, rfl⟩⟩; refine ⟨_, rfl, ?_⟩) | (go_at_call 40; (with_reducible refine (impl_inRange.calls a0_1 1 5 true _ A25.out).mono ?_); rintro e w' ⟨rfl, ⟨nd, rfl⟩⟩) | (go_at_call 49; (with_reducible refine (impl_GoodName.calls kj8 a0_2 true _ A27.out).mono ?_); rintro e w' ⟨rfl, ⟨nd, rfl⟩⟩) | (go_at_call 59; (with_reducible refine (impl_isFar.calls a0_4 t261 _ A29.out).mono ?_); rintro e w' ⟨rfl, ⟨nd, rfl⟩⟩))
         go_ret
         exact ⟨eE, lV1 GE256⟩
        ·replace c28 := Bool.eq_false_iff.mpr c28
         subst c28
         have H1 : (some false) = some r := by rw [if_neg (show ¬ (false = true) by decide)] at H; exact H
         clear H
         have H := H1
         clear H1
         obtain rfl := Option.some.inj H
         have hcz31_0 := cz BK256 0 (.int .i64 a0_0)
         have hcz31_1 := cz BK256 1 (.int .i64 a0_1)
         have hcz31_2 := cz BK256 2 (.string a0_2)
         have hcz31_3 := cz BK256 3 (.string a0_3)
         have hcz31_4 := cz BK256 4 (.int .i64 a0_4)
         have hfz31_0 := fz BK256 0
         have hfz31_1 := fz BK256 1
         have hfz31_2 := fz BK256 2
         have hfz31_3 := fz BK256 3
         have hfz31_4 := fz BK256 4
         go_wp2_with (first | ((with_reducible refine gate_callee (f := 40) rfl ?_); refine goesL_ (some 47) rfl rfl Try.func40 (by kernel_rfl) rfl #[.int .i64 a0_0, .int .i64 1, .int .i64 2] rfl aE ?_; (with_reducible refine (impl_inRange.calls a0_0 1 2 true _ A23.out).mono ?_); rintro e w' ⟨rfl, ⟨nd, rfl⟩⟩; refine ⟨_, rfl, ?_⟩) | (go_at_call 40; (with_reducible refine (impl_inRange.calls a0_1 1 5 true _ A25.out).mono ?_); rintro e w' ⟨rfl, ⟨nd, rfl⟩⟩) | (go_at_call 49; (with_reducible refine (impl_GoodName.calls kj8 a0_2 false _ A27.out).mono ?_); rintro e w' ⟨rfl, ⟨nd, rfl⟩⟩))
         go_ret
         exact ⟨eE, lV1 GE256⟩
       ·replace c26 := Bool.eq_false_iff.mpr c26
        subst c26
        have H1 : (some false) = some r := by rw [if_neg (show ¬ (false = true) by decide)] at H; exact H
        clear H
        have H := H1
        clear H1
        obtain rfl := Option.some.inj H
        have hcz32_0 := cz BK256 0 (.int .i64 a0_0)
        have hcz32_1 := cz BK256 1 (.int .i64 a0_1)
        have hcz32_2 := cz BK256 2 (.string a0_2)
        have hcz32_3 := cz BK256 3 (.string a0_3)
        have hcz32_4 := cz BK256 4 (.int .i64 a0_4)
        have hfz32_0 := fz BK256 0
        have hfz32_1 := fz BK256 1
        have hfz32_2 := fz BK256 2
        have hfz32_3 := fz BK256 3
        have hfz32_4 := fz BK256 4
        go_wp2_with (first | ((with_reducible refine gate_callee (f := 40) rfl ?_); refine goesL_ (some 47) rfl rfl Try.func40 (by kernel_rfl) rfl #[.int .i64 a0_0, .int .i64 1, .int .i64 2] rfl aE ?_; (with_reducible refine (impl_inRange.calls a0_0 1 2 true _ A23.out).mono ?_); rintro e w' ⟨rfl, ⟨nd, rfl⟩⟩; refine ⟨_, rfl, ?_⟩) | (go_at_call 40; (with_reducible refine (impl_inRange.calls a0_1 1 5 false _ A25.out).mono ?_); rintro e w' ⟨rfl, ⟨nd, rfl⟩⟩))
        go_ret
        exact ⟨eE, lV1 GE256⟩
      ·replace c24 := Bool.eq_false_iff.mpr c24
       subst c24
       have H1 : (some false) = some r := by rw [if_neg (show ¬ (false = true) by decide)] at H; exact H
       clear H
       have H := H1
       clear H1
       obtain rfl := Option.some.inj H
       have hcz33_0 := cz BK256 0 (.int .i64 a0_0)
       have hcz33_1 := cz BK256 1 (.int .i64 a0_1)
       have hcz33_2 := cz BK256 2 (.string a0_2)
       have hcz33_3 := cz BK256 3 (.string a0_3)
       have hcz33_4 := cz BK256 4 (.int .i64 a0_4)
       have hfz33_0 := fz BK256 0
       have hfz33_1 := fz BK256 1
       have hfz33_2 := fz BK256 2
       have hfz33_3 := fz BK256 3
       have hfz33_4 := fz BK256 4
       go_wp2_with (first | ((with_reducible refine gate_callee (f := 40) rfl ?_); refine goesL_ (some 47) rfl rfl Try.func40 (by kernel_rfl) rfl #[.int .i64 a0_0, .int .i64 1, .int .i64 2] rfl aE ?_; (with_reducible refine (impl_inRange.calls a0_0 1 2 false _ A23.out).mono ?_); rintro e w' ⟨rfl, ⟨nd, rfl⟩⟩; refine ⟨_, rfl, ?_⟩))
       go_ret
       exact ⟨eE, lV1 GE256⟩
end Go.Proofs.Ytjjbkebodkjnkaa.PFnExactLoadSave
namespace Go.Proofs.Ytjjbkebodkjnkaa.PFnExactLoadSave
open Go.RowKit Go.Proofs.YtjjbkebodkjnkaaW.PrintWords Go.Proofs.YtjjbkebodkjnkaaW.PrintLast Go.Proofs.YtjjbkebodkjnkaaW.PrintMore
attribute [local go_sem] max2_int min2_int max_two min_two max_three min_three max_four min_four
set_option linter.unusedVariables false
set_option linter.unusedSimpArgs false
def impl_GoodChanges.l0 : Nat → List (S45) → List (S45) → Int → Int → Option (Bool)
 | 0, _, _, _, _ => none
 | k + 1, x0, x5, x6, x7 => if x7 < x6 then (if 0 ≤ x7 then (if x7 < (x5.length : Int) then ((impl_isChange.f k ((rd_T45 x5 x7).f0) ((rd_T45 x5 x7).f1) ((rd_T45 x5 x7).f2) ((rd_T45 x5 x7).f3) ((rd_T45 x5 x7).f4)).bind fun t264 => (if t264 = true then (if x7 > 0 then (if 0 ≤ (wrap64 (x7 - 1)) then (if (wrap64 (x7 - 1)) < (x0.length : Int) then (if ((rd_T45 x0 (wrap64 (x7 - 1))).f0) > ((rd_T45 x5 x7).f0) then (some false) else (impl_GoodChanges.l0 k x0 x5 x6 (wrap64 (x7 + 1)))) else (none)) else (none)) else (impl_GoodChanges.l0 k x0 x5 x6 (wrap64 (x7 + 1)))) else (some false))) else (none)) else (none)) else (some (decide ((x0.length : Int) ≤ 30)))
def impl_GoodChanges.f (k : Nat) (l0 : List (S45)) : Option (Bool) := impl_GoodChanges.l0 k l0 l0 (l0.length : Int) 0
theorem impl_GoodChanges.mono_l : ∀ k, (∀ y0 y1 y2 y3, LeO (impl_GoodChanges.l0 k y0 y1 y2 y3) (impl_GoodChanges.l0 (k + 1) y0 y1 y2 y3))
 | 0 => fun _ _ _ _ r h => by simp [impl_GoodChanges.l0] at h
 | k + 1 => by
  have ih0 := impl_GoodChanges.mono_l k
  ·intro y0 y1 y2 y3
   unfold impl_GoodChanges.l0
   repeat' first
   | (with_reducible exact ih0 _ _ _ _)
   | (with_reducible exact impl_isChange.mono _ _ _ _ _ _)
   | (with_reducible first | exact LeO.refl _ | exact LeO.none _ | refine LeO.ite ?_ ?_ | refine LeO.bind ?_ (fun _ => ?_))
   | exact ih0 _ _ _ _
   | exact impl_isChange.mono _ _ _ _ _ _ | exact LeO.none _ | refine LeO.ite ?_ ?_ | refine LeO.bind ?_ (fun _ => ?_)
theorem impl_GoodChanges.mono : ∀ a0 k, LeO (impl_GoodChanges.f k a0) (impl_GoodChanges.f (k + 1) a0) := by
 intro a0 k
 have ih0 := impl_GoodChanges.mono_l k
 unfold impl_GoodChanges.f
 repeat' first
   | (with_reducible exact ih0 _ _ _ _)
   | (with_reducible exact impl_isChange.mono _ _ _ _ _ _)
   | (with_reducible first | exact LeO.refl _ | exact LeO.none _ | refine LeO.ite ?_ ?_ | refine LeO.bind ?_ (fun _ => ?_))
   | exact ih0 _ _ _ _
   | exact impl_isChange.mono _ _ _ _ _ _ | exact LeO.none _ | refine LeO.ite ?_ ?_ | refine LeO.bind ?_ (fun _ => ?_)
def impl_GoodChanges.T4 : Bool × List (List Nat × List Nat) := (true, [([], []), ([0], [0]), ([1], [1]), ([2, 1], [2]), ([3], [3]), ([4, 3], [3, 4]), ([5, 3, 3], [3, 5]), ([6], [6]), ([6], [6]), ([8, 6], [6, 8]), ([7, 9, 6], [6, 7, 9]), ([10, 6], [6, 10]), ([11, 6], [6, 11]), ([6], [6]), ([13, 6], [6, 13]), ([12, 14, 6], [6, 12, 14]), ([6, 15, 3], [3, 6, 15]), ([3, 16], [3, 16])])
def impl_GoodChanges.B4 : List Nat := [0, 1, 3, 7, 15, 31, 63, 127, 127, 383, 1023, 2047, 4095, 127, 8319, 32767, 65535, 131071]
theorem impl_GoodChanges.tab4 : rtab .any (opsOf Try.f42 4) = impl_GoodChanges.T4 := by kernel_rfl
theorem impl_GoodChanges.bits4 : waitsOk impl_GoodChanges.T4.2 impl_GoodChanges.B4 = true := by kernel_rfl
set_option maxHeartbeats 8000000 in
set_option maxRecDepth 100000 in
theorem impl_GoodChanges.calls (k : Nat) (A0 : Option Addr) (c0 : Nat) (l0 : List (S45)) (r : Bool) (w : World) (hr0 : Kd.C k45 w A0 l0.length l0) (hc0 : l0.length ≤ c0) (h : impl_GoodChanges.f k l0 = some r) :
  Calls Try.prog 42 #[.slice A0 l0.length c0] w fun e w' => e = .returned (.bool r) ∧ Below w.heap.size w w' := by
 have hu45 := Try.underlying45
 have HR0 := Aside0.mk hr0
 have HC0 := Aside0.mk hc0
 clear hr0 hc0
 have HB := Aside0.mk (Below.refl w.heap.size w)
 have H : (impl_GoodChanges.l0 k l0 l0 (l0.length : Int) 0) = some r := h
 clear h
 have H' := Aside0.mk H
 clear H
 go_enter Try.func42, Try.ntmps42
 go_wp2
 go_loopg [7] k (fun kq v7 w' => ∃ (x7_1 : Int), v7 = .int .i64 x7_1 ∧ Aside0 (impl_GoodChanges.l0 kq l0 l0 (l0.length : Int) x7_1 = some r) ∧ Aside0 (kq ≤ k) ∧ Aside0 (Below w.heap.size w w'))
 case atStart => exact ⟨(0), tE, H', ⟨Nat.le_refl _⟩, ⟨by repeat (first | (with_reducible first | exact HB.out | apply below_alloc | apply pw_below_drewN | apply below_drew1) | exact HB.out)⟩⟩
 case round =>
  clear H'
  obtain ⟨x7_1, rfl, HA, HK1, HB⟩ := hrel
  cases gk with
  | zero => exact absurd HA.out (by simp [impl_GoodChanges.l0])
  | succ k1 =>
   have H := HA.out
   clear HA
   simp only [impl_GoodChanges.l0] at H
   by_cases c2 : x7_1 < (l0.length : Int)
   ·rw [if_pos c2] at H
    have c2b0 : decide (x7_1 < (l0.length : Int)) = true := decide_eq_true c2
    clear c2
    by_cases c3 : 0 ≤ x7_1
    ·rw [if_pos c3] at H
     have c3b0 : decide (0 ≤ x7_1) = true := decide_eq_true c3
     clear c3
     by_cases c4 : x7_1 < (l0.length : Int)
     ·rw [if_pos c4] at H
      have c4b0 : decide (x7_1 < (l0.length : Int)) = true := decide_eq_true c4
      clear c4
      replace H := Option.bind_eq_some_iff.mp H
      obtain ⟨t264, A50, H⟩ := H
      replace H : (if t264 = true then (if x7_1 > 0 then (if 0 ≤ (wrap64 (x7_1 - 1)) then (if (wrap64 (x7_1 - 1)) < (l0.length : Int) then (if ((rd_T45 l0 (wrap64 (x7_1 - 1))).f0) > ((rd_T45 l0 x7_1).f0) then (some false) else (impl_GoodChanges.l0 k1 l0 l0 (l0.length : Int) (wrap64 (x7_1 + 1)))) else (none)) else (none)) else (impl_GoodChanges.l0 k1 l0 l0 (l0.length : Int) (wrap64 (x7_1 + 1)))) else (some false)) = some r := H
      have A5 := Aside0.mk A50
      clear A50
      by_cases c6 : t264 = true
      ·subst c6
       have H1 : (if x7_1 > 0 then (if 0 ≤ (wrap64 (x7_1 - 1)) then (if (wrap64 (x7_1 - 1)) < (l0.length : Int) then (if ((rd_T45 l0 (wrap64 (x7_1 - 1))).f0) > ((rd_T45 l0 x7_1).f0) then (some false) else (impl_GoodChanges.l0 k1 l0 l0 (l0.length : Int) (wrap64 (x7_1 + 1)))) else (none)) else (none)) else (impl_GoodChanges.l0 k1 l0 l0 (l0.length : Int) (wrap64 (x7_1 + 1)))) = some r := by rw [if_pos rfl] at H; exact H
       clear H
       have H := H1
       clear H1
       by_cases c7 : x7_1 > 0
       ·rw [if_pos c7] at H
        have c7b0 : decide (0 < x7_1) = true := decide_eq_true c7
        clear c7
        obtain ⟨ji8, hji8⟩ : ∃ j_ : Int, (wrap64 (x7_1 - 1)) = j_ := ⟨_, rfl⟩
        replace H : (if 0 ≤ (ji8) then (if (ji8) < (l0.length : Int) then (if ((rd_T45 l0 (ji8)).f0) > ((rd_T45 l0 x7_1).f0) then (some false) else (impl_GoodChanges.l0 k1 l0 l0 (l0.length : Int) (wrap64 (x7_1 + 1)))) else (none)) else (none)) = some r := by first | (rw [hji8] at H; exact H) | (simp only [hji8] at H ⊢; exact H)
        (try rw [hji8] at A5)
        have hji8w : (IntKind.i64.wrap (x7_1 - 1)) = ji8 := (i64_w _).trans hji8
        by_cases c9 : 0 ≤ (ji8)
        ·rw [if_pos c9] at H
         have c9b0 : decide (0 ≤ (ji8)) = true := decide_eq_true c9
         clear c9
         by_cases c10 : (ji8) < (l0.length : Int)
         ·rw [if_pos c10] at H
          have c10b0 : decide ((ji8) < (l0.length : Int)) = true := decide_eq_true c10
          clear c10
          by_cases c11 : ((rd_T45 l0 (ji8)).f0) > ((rd_T45 l0 x7_1).f0)
          ·rw [if_pos c11] at H
           have c11b0 : decide (((rd_T45 l0 x7_1).f0) < ((rd_T45 l0 (ji8)).f0)) = true := decide_eq_true c11
           clear c11
           obtain rfl := Option.some.inj H
           have p262 : 0 ≤ (x7_1 : Int) := of_decide_eq_true hE
           have q262 : x7_1 < (l0.length : Int) := of_decide_eq_true hE
           obtain ⟨ad262, e262, hx262_0, hx262_1, hx262_2, hx262_3, hx262_4⟩ := at_T45 HR0.out x7_1 p262 q262
           cases e262
           replace hx262_0 := (HB.out.cell (World.block_lt_of_cell? w _ hx262_0)).trans hx262_0
           replace hx262_1 := (HB.out.cell (World.block_lt_of_cell? w _ hx262_1)).trans hx262_1
           replace hx262_2 := (HB.out.cell (World.block_lt_of_cell? w _ hx262_2)).trans hx262_2
           replace hx262_3 := (HB.out.cell (World.block_lt_of_cell? w _ hx262_3)).trans hx262_3
           replace hx262_4 := (HB.out.cell (World.block_lt_of_cell? w _ hx262_4)).trans hx262_4
           replace p262 := eq_true p262
           replace q262 := eq_true q262
           try go_wp2_with (first | ((with_reducible refine gate_dst (N := 4) rfl ?_); refine box_event rfl (N := 4) rfl (cs := #[.int .i64 0, .int .i64 0, .string (⟨#[]⟩ : ByteArray), .string (⟨#[]⟩ : ByteArray), .int .i64 0]) (t := 45) sE ?_; intro gb263 hg w12 hbox hb; have BK263 := Aside0.mk hbox; have GW263 := gS w hg (lU); have GE263 := gS w hg (lU); replace HB := bH (lU) hb; clear hb hbox hg; have hcz13_0 := cz BK263 0 (.int .i64 0); have hcz13_1 := cz BK263 1 (.int .i64 0); have hcz13_2 := cz BK263 2 (.string (⟨#[]⟩ : ByteArray)); have hcz13_3 := cz BK263 3 (.string (⟨#[]⟩ : ByteArray)); have hcz13_4 := cz BK263 4 (.int .i64 0); have hfz13_0 := fz BK263 0; have hfz13_1 := fz BK263 1; have hfz13_2 := fz BK263 2; have hfz13_3 := fz BK263 3; have hfz13_4 := fz BK263 4) | ((with_reducible refine gate_store (t := 45) (p := 4) rfl ?_); refine store_event (t := 45) (p := 4) (v := ?vo_w14) (w1 := (((((w12.setCell ⟨gb263, 0, none⟩ (.int .i64 ((rd_T45 l0 x7_1).f0))).setCell ⟨gb263, 1, none⟩ (.int .i64 ((rd_T45 l0 x7_1).f1))).setCell ⟨gb263, 2, none⟩ (.string ((rd_T45 l0 x7_1).f2))).setCell ⟨gb263, 3, none⟩ (.string ((rd_T45 l0 x7_1).f3))).setCell ⟨gb263, 4, none⟩ (.int .i64 ((rd_T45 l0 x7_1).f4)))) ?hg ?ho ?hn ?hr ?_; (case ho => rfl); (case hg => rfl); (case hn => rfl); (case hr => first | (go_simp; done) | (go_simp; rfl) | (have hq0_ := (blk_cell BK263.out 0).trans (show _ = some _ from rfl); have hf0_ := blk_frozen BK263.out 0; have hq1_ := (blk_cell BK263.out 1).trans (show _ = some _ from rfl); have hf1_ := blk_frozen BK263.out 1; have hq2_ := (blk_cell BK263.out 2).trans (show _ = some _ from rfl); have hf2_ := blk_frozen BK263.out 2; have hq3_ := (blk_cell BK263.out 3).trans (show _ = some _ from rfl); have hf3_ := blk_frozen BK263.out 3; have hq4_ := (blk_cell BK263.out 4).trans (show _ = some _ from rfl); have hf4_ := blk_frozen BK263.out 4; first | (go_simp; done) | (go_simp; rfl))); intro w14 hw; replace BK263 : Aside0 (w14.heap[gb263]? = some (.cells #[.int .i64 ((rd_T45 l0 x7_1).f0), .int .i64 ((rd_T45 l0 x7_1).f1), .string ((rd_T45 l0 x7_1).f2), .string ((rd_T45 l0 x7_1).f3), .int .i64 ((rd_T45 l0 x7_1).f4)] 45 (0, 0))) := ⟨(by rw [hw]; exact (by refine bU ?_; refine blk_put (cs := #[.int .i64 ((rd_T45 l0 x7_1).f0), .int .i64 ((rd_T45 l0 x7_1).f1), .string ((rd_T45 l0 x7_1).f2), .string ((rd_T45 l0 x7_1).f3), .int .i64 0]) ?_ 4 _ rfl; refine bU ?_; refine blk_put (cs := #[.int .i64 ((rd_T45 l0 x7_1).f0), .int .i64 ((rd_T45 l0 x7_1).f1), .string ((rd_T45 l0 x7_1).f2), .string (⟨#[]⟩ : ByteArray), .int .i64 0]) ?_ 3 _ rfl; refine bU ?_; refine blk_put (cs := #[.int .i64 ((rd_T45 l0 x7_1).f0), .int .i64 ((rd_T45 l0 x7_1).f1), .string (⟨#[]⟩ : ByteArray), .string (⟨#[]⟩ : ByteArray), .int .i64 0]) ?_ 2 _ rfl; refine bU ?_; refine blk_put (cs := #[.int .i64 ((rd_T45 l0 x7_1).f0), .int .i64 0, .string (⟨#[]⟩ : ByteArray), .string (⟨#[]⟩ : ByteArray), .int .i64 0]) ?_ 1 _ rfl; refine bU ?_; refine blk_put (cs := #[.int .i64 0, .int .i64 0, .string (⟨#[]⟩ : ByteArray), .string (⟨#[]⟩ : ByteArray), .int .i64 0]) ?_ 0 _ rfl; refine bU ?_; exact BK263.out))⟩; replace HB : Aside0 (Below w.heap.size w w14) := ⟨(by rw [hw]; exact (lV1 GE263))⟩; clear hw))
           replace BK263 := Aside0.mk (blk_drew BK263.out)
           replace HB := Aside0.mk (below_drew1 HB.out)
           have p265 : 0 ≤ ((ji8) : Int) := of_decide_eq_true hE
           have q265 : (ji8) < (l0.length : Int) := of_decide_eq_true hE
           obtain ⟨ad265, e265, hx265_0, hx265_1, hx265_2, hx265_3, hx265_4⟩ := at_T45 HR0.out (ji8) p265 q265
           have hw265_4 := hx265_4
           have hw265_3 := hx265_3
           have hw265_2 := hx265_2
           have hw265_1 := hx265_1
           have hw265_0 := hx265_0
           obtain rfl : ad262 = ad265 := (by injection e265)
           replace hx265_0 := (HB.out.cell (World.block_lt_of_cell? w _ hx265_0)).trans hx265_0
           replace hx265_1 := (HB.out.cell (World.block_lt_of_cell? w _ hx265_1)).trans hx265_1
           replace hx265_2 := (HB.out.cell (World.block_lt_of_cell? w _ hx265_2)).trans hx265_2
           replace hx265_3 := (HB.out.cell (World.block_lt_of_cell? w _ hx265_3)).trans hx265_3
           replace hx265_4 := (HB.out.cell (World.block_lt_of_cell? w _ hx265_4)).trans hx265_4
           replace p265 := eq_true p265
           replace q265 := eq_true q265
           refine start_ (n := 18) (S := fun w' => w'.cell? ⟨gb263, 0, none⟩ = some (.int .i64 ((rd_T45 l0 x7_1).f0)) ∧ w'.cell? ⟨gb263, 1, none⟩ = some (.int .i64 ((rd_T45 l0 x7_1).f1)) ∧ w'.cell? ⟨gb263, 2, none⟩ = some (.string ((rd_T45 l0 x7_1).f2)) ∧ w'.cell? ⟨gb263, 3, none⟩ = some (.string ((rd_T45 l0 x7_1).f3)) ∧ w'.cell? ⟨gb263, 4, none⟩ = some (.int .i64 ((rd_T45 l0 x7_1).f4)) ∧ w'.cell? (ad262.add (((ji8)).toNat * 5)) = some (.int .i64 ((rd_T45 l0 (ji8)).f0)) ∧ w'.cell? ⟨(ad262.add (((ji8)).toNat * 5)).block, (ad262.add (((ji8)).toNat * 5)).off + 1, none⟩ = some (.int .i64 ((rd_T45 l0 (ji8)).f1)) ∧ w'.cell? ⟨(ad262.add (((ji8)).toNat * 5)).block, (ad262.add (((ji8)).toNat * 5)).off + 2, none⟩ = some (.string ((rd_T45 l0 (ji8)).f2)) ∧ w'.cell? ⟨(ad262.add (((ji8)).toNat * 5)).block, (ad262.add (((ji8)).toNat * 5)).off + 3, none⟩ = some (.string ((rd_T45 l0 (ji8)).f3)) ∧ w'.cell? ⟨(ad262.add (((ji8)).toNat * 5)).block, (ad262.add (((ji8)).toNat * 5)).off + 4, none⟩ = some (.int .i64 ((rd_T45 l0 (ji8)).f4))) (ds := []) #[false, false, false, false, false, false, false, false, false, false, false, false, false, false, false, false, false, false] (by kernel_rfl) rfl rfl ⟨cz BK263 0 _, cz BK263 1 _, cz BK263 2 _, cz BK263 3 _, cz BK263 4 _, ((HB.out.cell (World.block_lt_of_cell? w _ hw265_0)).trans hw265_0), ((HB.out.cell (World.block_lt_of_cell? w _ hw265_1)).trans hw265_1), ((HB.out.cell (World.block_lt_of_cell? w _ hw265_2)).trans hw265_2), ((HB.out.cell (World.block_lt_of_cell? w _ hw265_3)).trans hw265_3), ((HB.out.cell (World.block_lt_of_cell? w _ hw265_4)).trans hw265_4)⟩ (fun hHeld => ?_); refine with_tabW impl_GoodChanges.tab4 impl_GoodChanges.bits4 (fun HT_ HW_ => ?_)
           generalize w14.drew = w15 at BK263 HB hx265_0 hx265_1 hx265_2 hx265_3 hx265_4 hHeld ⊢
           refine takeA 0 12 (bz 18 1) rfl rfl (take_ofW HT_.out HW_.out (by kernel_rfl)) hHeld (by rintro w' ⟨s0, s1, s2, s3, s4, s5, s6, s7, s8, s9⟩; go_simp; with_reducible rfl) ?_
           refine one_ (i := 1) (N := some 13) (bz 18 3) rfl rfl (one_of HT_.out (by kernel_rfl)) (by decide) (fun K hK => ?_)
           refine goes_ Try.func50 (by kernel_rfl) rfl #[.agg #[.int .i64 ((rd_T45 l0 x7_1).f0), .int .i64 ((rd_T45 l0 x7_1).f1), .string ((rd_T45 l0 x7_1).f2), .string ((rd_T45 l0 x7_1).f3), .int .i64 ((rd_T45 l0 x7_1).f4)]] (by rfl) rfl rfl aE ?_
           with_reducible refine (impl_isChange.calls k1 ((rd_T45 l0 x7_1).f0) ((rd_T45 l0 x7_1).f1) ((rd_T45 l0 x7_1).f2) ((rd_T45 l0 x7_1).f3) ((rd_T45 l0 x7_1).f4) true _ A5.out).mono ?_
           rintro e w16 ⟨rfl, hb⟩
           refine ⟨_, rfl, ?_⟩
           replace BK263 := bB (bV BK263) hb
           replace HB := bH (lV1 GE263) hb
           (try clear hb)
           (try clear hb2)
           (try clear hk)
           (try clear hi)
           refine hK.out _ _ ⟨cz BK263 0 _, cz BK263 1 _, cz BK263 2 _, cz BK263 3 _, cz BK263 4 _, ((HB.out.cell (World.block_lt_of_cell? w _ hw265_0)).trans hw265_0), ((HB.out.cell (World.block_lt_of_cell? w _ hw265_1)).trans hw265_1), ((HB.out.cell (World.block_lt_of_cell? w _ hw265_2)).trans hw265_2), ((HB.out.cell (World.block_lt_of_cell? w _ hw265_3)).trans hw265_3), ((HB.out.cell (World.block_lt_of_cell? w _ hw265_4)).trans hw265_4)⟩ (fun hHeld => ?_)
           clear hK K
           refine norm_ (a' := ?_) ?_ ?_
           rotate_left
           ·show Act.put _ (some 13) _ = _
            simp only [Act.put, List.setIfInBounds_toArray, List.set_cons_zero, List.set_cons_succ, i64_w, i32_w]
            rfl
           refine pureA 2 14 (bz 18 7) rfl rfl (any_of HT_.out (by kernel_rfl)) ?_
           refine pureA 3 15 (bz 18 15) rfl rfl (any_of HT_.out (by kernel_rfl)) ?_
           refine pureA 4 16 (bz 18 31) rfl rfl (any_of HT_.out (by kernel_rfl)) ?_
           refine pureA 5 17 (bz 18 63) rfl rfl (any_of HT_.out (by kernel_rfl)) ?_
           refine pureA 6 18 (bz 18 127) rfl rfl (any_of HT_.out (by kernel_rfl)) ?_
           refine pureA 7 19 (bz 18 255) rfl rfl (any_of HT_.out (by kernel_rfl)) ?_
           refine pureA 8 20 (bz 18 511) rfl rfl (any_of HT_.out (by kernel_rfl)) ?_
           refine pureA 9 21 (bz 18 1023) rfl rfl (any_of HT_.out (by kernel_rfl)) ?_
           refine pureA 10 22 (bz 18 2047) rfl rfl (any_of HT_.out (by kernel_rfl)) ?_
           refine pureA 11 23 (bz 18 4095) rfl rfl (any_of HT_.out (by kernel_rfl)) ?_
           refine pureA 13 25 (bz 18 12287) rfl rfl (any_of HT_.out (by kernel_rfl)) ?_
           refine takeA 12 24 (bz 18 16383) rfl rfl (take_ofW HT_.out HW_.out (by kernel_rfl)) hHeld (by rintro w' ⟨s0, s1, s2, s3, s4, s5, s6, s7, s8, s9⟩; go_simp; with_reducible rfl) ?_
           refine takeA 14 26 (bz 18 32767) rfl rfl (take_ofW HT_.out HW_.out (by kernel_rfl)) hHeld (by rintro w' ⟨s0, s1, s2, s3, s4, s5, s6, s7, s8, s9⟩; go_simp; with_reducible rfl) ?_
           refine pureA 15 27 (bz 18 65535) rfl rfl (any_of HT_.out (by kernel_rfl)) ?_
           refine pureA 16 28 (bz 18 131071) rfl rfl (any_of HT_.out (by kernel_rfl)) ?_
           refine pureA 17 29 (bz 18 262143) rfl rfl (any_of HT_.out (by kernel_rfl)) ?_
           refine done_ (done_of HT_.out (by kernel_rfl)) ?_
           try go_wp2
           go_ret
           exact ⟨by first | rfl | (simp [errW_none, errW_some] <;> rfl) | (simp only [← hji8]; first | rfl | (simp [errW_none, errW_some] <;> rfl)) | (simp [*, errW_none, errW_some] <;> rfl), lV1 GE263⟩
          ·rw [if_neg c11] at H
           have c11b0 : decide (((rd_T45 l0 x7_1).f0) < ((rd_T45 l0 (ji8)).f0)) = false := decide_eq_false c11
           clear c11
           have H' := Aside0.mk H
           clear H
           have p262 : 0 ≤ (x7_1 : Int) := of_decide_eq_true hE
           have q262 : x7_1 < (l0.length : Int) := of_decide_eq_true hE
           obtain ⟨ad262, e262, hx262_0, hx262_1, hx262_2, hx262_3, hx262_4⟩ := at_T45 HR0.out x7_1 p262 q262
           cases e262
           replace hx262_0 := (HB.out.cell (World.block_lt_of_cell? w _ hx262_0)).trans hx262_0
           replace hx262_1 := (HB.out.cell (World.block_lt_of_cell? w _ hx262_1)).trans hx262_1
           replace hx262_2 := (HB.out.cell (World.block_lt_of_cell? w _ hx262_2)).trans hx262_2
           replace hx262_3 := (HB.out.cell (World.block_lt_of_cell? w _ hx262_3)).trans hx262_3
           replace hx262_4 := (HB.out.cell (World.block_lt_of_cell? w _ hx262_4)).trans hx262_4
           replace p262 := eq_true p262
           replace q262 := eq_true q262
           try go_wp2_with (first | ((with_reducible refine gate_dst (N := 4) rfl ?_); refine box_event rfl (N := 4) rfl (cs := #[.int .i64 0, .int .i64 0, .string (⟨#[]⟩ : ByteArray), .string (⟨#[]⟩ : ByteArray), .int .i64 0]) (t := 45) sE ?_; intro gb263 hg w17 hbox hb; have BK263 := Aside0.mk hbox; have GW263 := gS w hg (lU); have GE263 := gS w hg (lU); replace HB := bH (lU) hb; clear hb hbox hg; have hcz18_0 := cz BK263 0 (.int .i64 0); have hcz18_1 := cz BK263 1 (.int .i64 0); have hcz18_2 := cz BK263 2 (.string (⟨#[]⟩ : ByteArray)); have hcz18_3 := cz BK263 3 (.string (⟨#[]⟩ : ByteArray)); have hcz18_4 := cz BK263 4 (.int .i64 0); have hfz18_0 := fz BK263 0; have hfz18_1 := fz BK263 1; have hfz18_2 := fz BK263 2; have hfz18_3 := fz BK263 3; have hfz18_4 := fz BK263 4) | ((with_reducible refine gate_store (t := 45) (p := 4) rfl ?_); refine store_event (t := 45) (p := 4) (v := ?vo_w19) (w1 := (((((w17.setCell ⟨gb263, 0, none⟩ (.int .i64 ((rd_T45 l0 x7_1).f0))).setCell ⟨gb263, 1, none⟩ (.int .i64 ((rd_T45 l0 x7_1).f1))).setCell ⟨gb263, 2, none⟩ (.string ((rd_T45 l0 x7_1).f2))).setCell ⟨gb263, 3, none⟩ (.string ((rd_T45 l0 x7_1).f3))).setCell ⟨gb263, 4, none⟩ (.int .i64 ((rd_T45 l0 x7_1).f4)))) ?hg ?ho ?hn ?hr ?_; (case ho => rfl); (case hg => rfl); (case hn => rfl); (case hr => first | (go_simp; done) | (go_simp; rfl) | (have hq0_ := (blk_cell BK263.out 0).trans (show _ = some _ from rfl); have hf0_ := blk_frozen BK263.out 0; have hq1_ := (blk_cell BK263.out 1).trans (show _ = some _ from rfl); have hf1_ := blk_frozen BK263.out 1; have hq2_ := (blk_cell BK263.out 2).trans (show _ = some _ from rfl); have hf2_ := blk_frozen BK263.out 2; have hq3_ := (blk_cell BK263.out 3).trans (show _ = some _ from rfl); have hf3_ := blk_frozen BK263.out 3; have hq4_ := (blk_cell BK263.out 4).trans (show _ = some _ from rfl); have hf4_ := blk_frozen BK263.out 4; first | (go_simp; done) | (go_simp; rfl))); intro w19 hw; replace BK263 : Aside0 (w19.heap[gb263]? = some (.cells #[.int .i64 ((rd_T45 l0 x7_1).f0), .int .i64 ((rd_T45 l0 x7_1).f1), .string ((rd_T45 l0 x7_1).f2), .string ((rd_T45 l0 x7_1).f3), .int .i64 ((rd_T45 l0 x7_1).f4)] 45 (0, 0))) := ⟨(by rw [hw]; exact (by refine bU ?_; refine blk_put (cs := #[.int .i64 ((rd_T45 l0 x7_1).f0), .int .i64 ((rd_T45 l0 x7_1).f1), .string ((rd_T45 l0 x7_1).f2), .string ((rd_T45 l0 x7_1).f3), .int .i64 0]) ?_ 4 _ rfl; refine bU ?_; refine blk_put (cs := #[.int .i64 ((rd_T45 l0 x7_1).f0), .int .i64 ((rd_T45 l0 x7_1).f1), .string ((rd_T45 l0 x7_1).f2), .string (⟨#[]⟩ : ByteArray), .int .i64 0]) ?_ 3 _ rfl; refine bU ?_; refine blk_put (cs := #[.int .i64 ((rd_T45 l0 x7_1).f0), .int .i64 ((rd_T45 l0 x7_1).f1), .string (⟨#[]⟩ : ByteArray), .string (⟨#[]⟩ : ByteArray), .int .i64 0]) ?_ 2 _ rfl; refine bU ?_; refine blk_put (cs := #[.int .i64 ((rd_T45 l0 x7_1).f0), .int .i64 0, .string (⟨#[]⟩ : ByteArray), .string (⟨#[]⟩ : ByteArray), .int .i64 0]) ?_ 1 _ rfl; refine bU ?_; refine blk_put (cs := #[.int .i64 0, .int .i64 0, .string (⟨#[]⟩ : ByteArray), .string (⟨#[]⟩ : ByteArray), .int .i64 0]) ?_ 0 _ rfl; refine bU ?_; exact BK263.out))⟩; replace HB : Aside0 (Below w.heap.size w w19) := ⟨(by rw [hw]; exact (lV1 GE263))⟩; clear hw))
           replace BK263 := Aside0.mk (blk_drew BK263.out)
           replace HB := Aside0.mk (below_drew1 HB.out)
           have p265 : 0 ≤ ((ji8) : Int) := of_decide_eq_true hE
           have q265 : (ji8) < (l0.length : Int) := of_decide_eq_true hE
           obtain ⟨ad265, e265, hx265_0, hx265_1, hx265_2, hx265_3, hx265_4⟩ := at_T45 HR0.out (ji8) p265 q265
           have hw265_4 := hx265_4
           have hw265_3 := hx265_3
           have hw265_2 := hx265_2
           have hw265_1 := hx265_1
           have hw265_0 := hx265_0
           obtain rfl : ad262 = ad265 := (by injection e265)
           replace hx265_0 := (HB.out.cell (World.block_lt_of_cell? w _ hx265_0)).trans hx265_0
           replace hx265_1 := (HB.out.cell (World.block_lt_of_cell? w _ hx265_1)).trans hx265_1
           replace hx265_2 := (HB.out.cell (World.block_lt_of_cell? w _ hx265_2)).trans hx265_2
           replace hx265_3 := (HB.out.cell (World.block_lt_of_cell? w _ hx265_3)).trans hx265_3
           replace hx265_4 := (HB.out.cell (World.block_lt_of_cell? w _ hx265_4)).trans hx265_4
           replace p265 := eq_true p265
           replace q265 := eq_true q265
           refine start_ (n := 18) (S := fun w' => w'.cell? ⟨gb263, 0, none⟩ = some (.int .i64 ((rd_T45 l0 x7_1).f0)) ∧ w'.cell? ⟨gb263, 1, none⟩ = some (.int .i64 ((rd_T45 l0 x7_1).f1)) ∧ w'.cell? ⟨gb263, 2, none⟩ = some (.string ((rd_T45 l0 x7_1).f2)) ∧ w'.cell? ⟨gb263, 3, none⟩ = some (.string ((rd_T45 l0 x7_1).f3)) ∧ w'.cell? ⟨gb263, 4, none⟩ = some (.int .i64 ((rd_T45 l0 x7_1).f4)) ∧ w'.cell? (ad262.add (((ji8)).toNat * 5)) = some (.int .i64 ((rd_T45 l0 (ji8)).f0)) ∧ w'.cell? ⟨(ad262.add (((ji8)).toNat * 5)).block, (ad262.add (((ji8)).toNat * 5)).off + 1, none⟩ = some (.int .i64 ((rd_T45 l0 (ji8)).f1)) ∧ w'.cell? ⟨(ad262.add (((ji8)).toNat * 5)).block, (ad262.add (((ji8)).toNat * 5)).off + 2, none⟩ = some (.string ((rd_T45 l0 (ji8)).f2)) ∧ w'.cell? ⟨(ad262.add (((ji8)).toNat * 5)).block, (ad262.add (((ji8)).toNat * 5)).off + 3, none⟩ = some (.string ((rd_T45 l0 (ji8)).f3)) ∧ w'.cell? ⟨(ad262.add (((ji8)).toNat * 5)).block, (ad262.add (((ji8)).toNat * 5)).off + 4, none⟩ = some (.int .i64 ((rd_T45 l0 (ji8)).f4))) (ds := []) #[false, false, false, false, false, false, false, false, false, false, false, false, false, false, false, false, false, false] (by kernel_rfl) rfl rfl ⟨cz BK263 0 _, cz BK263 1 _, cz BK263 2 _, cz BK263 3 _, cz BK263 4 _, ((HB.out.cell (World.block_lt_of_cell? w _ hw265_0)).trans hw265_0), ((HB.out.cell (World.block_lt_of_cell? w _ hw265_1)).trans hw265_1), ((HB.out.cell (World.block_lt_of_cell? w _ hw265_2)).trans hw265_2), ((HB.out.cell (World.block_lt_of_cell? w _ hw265_3)).trans hw265_3), ((HB.out.cell (World.block_lt_of_cell? w _ hw265_4)).trans hw265_4)⟩ (fun hHeld => ?_); refine with_tabW impl_GoodChanges.tab4 impl_GoodChanges.bits4 (fun HT_ HW_ => ?_)
           generalize w19.drew = w20 at BK263 HB hx265_0 hx265_1 hx265_2 hx265_3 hx265_4 hHeld ⊢
           refine takeA 0 12 (bz 18 1) rfl rfl (take_ofW HT_.out HW_.out (by kernel_rfl)) hHeld (by rintro w' ⟨s0, s1, s2, s3, s4, s5, s6, s7, s8, s9⟩; go_simp; with_reducible rfl) ?_
           refine one_ (i := 1) (N := some 13) (bz 18 3) rfl rfl (one_of HT_.out (by kernel_rfl)) (by decide) (fun K hK => ?_)
           refine goes_ Try.func50 (by kernel_rfl) rfl #[.agg #[.int .i64 ((rd_T45 l0 x7_1).f0), .int .i64 ((rd_T45 l0 x7_1).f1), .string ((rd_T45 l0 x7_1).f2), .string ((rd_T45 l0 x7_1).f3), .int .i64 ((rd_T45 l0 x7_1).f4)]] (by rfl) rfl rfl aE ?_
           with_reducible refine (impl_isChange.calls k1 ((rd_T45 l0 x7_1).f0) ((rd_T45 l0 x7_1).f1) ((rd_T45 l0 x7_1).f2) ((rd_T45 l0 x7_1).f3) ((rd_T45 l0 x7_1).f4) true _ A5.out).mono ?_
           rintro e w21 ⟨rfl, hb⟩
           refine ⟨_, rfl, ?_⟩
           replace BK263 := bB (bV BK263) hb
           replace HB := bH (lV1 GE263) hb
           (try clear hb)
           (try clear hb2)
           (try clear hk)
           (try clear hi)
           refine hK.out _ _ ⟨cz BK263 0 _, cz BK263 1 _, cz BK263 2 _, cz BK263 3 _, cz BK263 4 _, ((HB.out.cell (World.block_lt_of_cell? w _ hw265_0)).trans hw265_0), ((HB.out.cell (World.block_lt_of_cell? w _ hw265_1)).trans hw265_1), ((HB.out.cell (World.block_lt_of_cell? w _ hw265_2)).trans hw265_2), ((HB.out.cell (World.block_lt_of_cell? w _ hw265_3)).trans hw265_3), ((HB.out.cell (World.block_lt_of_cell? w _ hw265_4)).trans hw265_4)⟩ (fun hHeld => ?_)
           clear hK K
           refine norm_ (a' := ?_) ?_ ?_
           rotate_left
           ·show Act.put _ (some 13) _ = _
            simp only [Act.put, List.setIfInBounds_toArray, List.set_cons_zero, List.set_cons_succ, i64_w, i32_w]
            rfl
           refine pureA 2 14 (bz 18 7) rfl rfl (any_of HT_.out (by kernel_rfl)) ?_
           refine pureA 3 15 (bz 18 15) rfl rfl (any_of HT_.out (by kernel_rfl)) ?_
           refine pureA 4 16 (bz 18 31) rfl rfl (any_of HT_.out (by kernel_rfl)) ?_
           refine pureA 5 17 (bz 18 63) rfl rfl (any_of HT_.out (by kernel_rfl)) ?_
           refine pureA 6 18 (bz 18 127) rfl rfl (any_of HT_.out (by kernel_rfl)) ?_
           refine pureA 7 19 (bz 18 255) rfl rfl (any_of HT_.out (by kernel_rfl)) ?_
           refine pureA 8 20 (bz 18 511) rfl rfl (any_of HT_.out (by kernel_rfl)) ?_
           refine pureA 9 21 (bz 18 1023) rfl rfl (any_of HT_.out (by kernel_rfl)) ?_
           refine pureA 10 22 (bz 18 2047) rfl rfl (any_of HT_.out (by kernel_rfl)) ?_
           refine pureA 11 23 (bz 18 4095) rfl rfl (any_of HT_.out (by kernel_rfl)) ?_
           refine pureA 13 25 (bz 18 12287) rfl rfl (any_of HT_.out (by kernel_rfl)) ?_
           refine takeA 12 24 (bz 18 16383) rfl rfl (take_ofW HT_.out HW_.out (by kernel_rfl)) hHeld (by rintro w' ⟨s0, s1, s2, s3, s4, s5, s6, s7, s8, s9⟩; go_simp; with_reducible rfl) ?_
           refine takeA 14 26 (bz 18 32767) rfl rfl (take_ofW HT_.out HW_.out (by kernel_rfl)) hHeld (by rintro w' ⟨s0, s1, s2, s3, s4, s5, s6, s7, s8, s9⟩; go_simp; with_reducible rfl) ?_
           refine pureA 15 27 (bz 18 65535) rfl rfl (any_of HT_.out (by kernel_rfl)) ?_
           refine pureA 16 28 (bz 18 131071) rfl rfl (any_of HT_.out (by kernel_rfl)) ?_
           refine pureA 17 29 (bz 18 262143) rfl rfl (any_of HT_.out (by kernel_rfl)) ?_
           refine done_ (done_of HT_.out (by kernel_rfl)) ?_
           try go_wp2
           go_roundg k1
           case measure => have := HK1.out; omega
           case rel => exact ⟨(wrap64 (x7_1 + 1)), tE, H', ⟨by have := HK1.out; omega⟩, ⟨by repeat (first | (with_reducible first | exact HB.out | apply below_alloc | apply pw_below_drewN | apply below_drew1 | refine below_set ?_ GE263.out) | exact HB.out)⟩⟩
         ·rw [if_neg c10] at H
          exact absurd H (by simp)
        ·rw [if_neg c9] at H
         exact absurd H (by simp)
       ·rw [if_neg c7] at H
        have c7b0 : decide (0 < x7_1) = false := decide_eq_false c7
        clear c7
        have H' := Aside0.mk H
        clear H
        have p262 : 0 ≤ (x7_1 : Int) := of_decide_eq_true hE
        have q262 : x7_1 < (l0.length : Int) := of_decide_eq_true hE
        obtain ⟨ad262, e262, hx262_0, hx262_1, hx262_2, hx262_3, hx262_4⟩ := at_T45 HR0.out x7_1 p262 q262
        cases e262
        replace hx262_0 := (HB.out.cell (World.block_lt_of_cell? w _ hx262_0)).trans hx262_0
        replace hx262_1 := (HB.out.cell (World.block_lt_of_cell? w _ hx262_1)).trans hx262_1
        replace hx262_2 := (HB.out.cell (World.block_lt_of_cell? w _ hx262_2)).trans hx262_2
        replace hx262_3 := (HB.out.cell (World.block_lt_of_cell? w _ hx262_3)).trans hx262_3
        replace hx262_4 := (HB.out.cell (World.block_lt_of_cell? w _ hx262_4)).trans hx262_4
        replace p262 := eq_true p262
        replace q262 := eq_true q262
        try go_wp2_with (first | ((with_reducible refine gate_dst (N := 4) rfl ?_); refine box_event rfl (N := 4) rfl (cs := #[.int .i64 0, .int .i64 0, .string (⟨#[]⟩ : ByteArray), .string (⟨#[]⟩ : ByteArray), .int .i64 0]) (t := 45) sE ?_; intro gb263 hg w22 hbox hb; have BK263 := Aside0.mk hbox; have GW263 := gS w hg (lU); have GE263 := gS w hg (lU); replace HB := bH (lU) hb; clear hb hbox hg; have hcz23_0 := cz BK263 0 (.int .i64 0); have hcz23_1 := cz BK263 1 (.int .i64 0); have hcz23_2 := cz BK263 2 (.string (⟨#[]⟩ : ByteArray)); have hcz23_3 := cz BK263 3 (.string (⟨#[]⟩ : ByteArray)); have hcz23_4 := cz BK263 4 (.int .i64 0); have hfz23_0 := fz BK263 0; have hfz23_1 := fz BK263 1; have hfz23_2 := fz BK263 2; have hfz23_3 := fz BK263 3; have hfz23_4 := fz BK263 4) | ((with_reducible refine gate_store (t := 45) (p := 4) rfl ?_); refine store_event (t := 45) (p := 4) (v := ?vo_w24) (w1 := (((((w22.setCell ⟨gb263, 0, none⟩ (.int .i64 ((rd_T45 l0 x7_1).f0))).setCell ⟨gb263, 1, none⟩ (.int .i64 ((rd_T45 l0 x7_1).f1))).setCell ⟨gb263, 2, none⟩ (.string ((rd_T45 l0 x7_1).f2))).setCell ⟨gb263, 3, none⟩ (.string ((rd_T45 l0 x7_1).f3))).setCell ⟨gb263, 4, none⟩ (.int .i64 ((rd_T45 l0 x7_1).f4)))) ?hg ?ho ?hn ?hr ?_; (case ho => rfl); (case hg => rfl); (case hn => rfl); (case hr => first | (go_simp; done) | (go_simp; rfl) | (have hq0_ := (blk_cell BK263.out 0).trans (show _ = some _ from rfl); have hf0_ := blk_frozen BK263.out 0; have hq1_ := (blk_cell BK263.out 1).trans (show _ = some _ from rfl); have hf1_ := blk_frozen BK263.out 1; have hq2_ := (blk_cell BK263.out 2).trans (show _ = some _ from rfl); have hf2_ := blk_frozen BK263.out 2; have hq3_ := (blk_cell BK263.out 3).trans (show _ = some _ from rfl); have hf3_ := blk_frozen BK263.out 3; have hq4_ := (blk_cell BK263.out 4).trans (show _ = some _ from rfl); have hf4_ := blk_frozen BK263.out 4; first | (go_simp; done) | (go_simp; rfl))); intro w24 hw; replace BK263 : Aside0 (w24.heap[gb263]? = some (.cells #[.int .i64 ((rd_T45 l0 x7_1).f0), .int .i64 ((rd_T45 l0 x7_1).f1), .string ((rd_T45 l0 x7_1).f2), .string ((rd_T45 l0 x7_1).f3), .int .i64 ((rd_T45 l0 x7_1).f4)] 45 (0, 0))) := ⟨(by rw [hw]; exact (by refine bU ?_; refine blk_put (cs := #[.int .i64 ((rd_T45 l0 x7_1).f0), .int .i64 ((rd_T45 l0 x7_1).f1), .string ((rd_T45 l0 x7_1).f2), .string ((rd_T45 l0 x7_1).f3), .int .i64 0]) ?_ 4 _ rfl; refine bU ?_; refine blk_put (cs := #[.int .i64 ((rd_T45 l0 x7_1).f0), .int .i64 ((rd_T45 l0 x7_1).f1), .string ((rd_T45 l0 x7_1).f2), .string (⟨#[]⟩ : ByteArray), .int .i64 0]) ?_ 3 _ rfl; refine bU ?_; refine blk_put (cs := #[.int .i64 ((rd_T45 l0 x7_1).f0), .int .i64 ((rd_T45 l0 x7_1).f1), .string (⟨#[]⟩ : ByteArray), .string (⟨#[]⟩ : ByteArray), .int .i64 0]) ?_ 2 _ rfl; refine bU ?_; refine blk_put (cs := #[.int .i64 ((rd_T45 l0 x7_1).f0), .int .i64 0, .string (⟨#[]⟩ : ByteArray), .string (⟨#[]⟩ : ByteArray), .int .i64 0]) ?_ 1 _ rfl; refine bU ?_; refine blk_put (cs := #[.int .i64 0, .int .i64 0, .string (⟨#[]⟩ : ByteArray), .string (⟨#[]⟩ : ByteArray), .int .i64 0]) ?_ 0 _ rfl; refine bU ?_; exact BK263.out))⟩; replace HB : Aside0 (Below w.heap.size w w24) := ⟨(by rw [hw]; exact (lV1 GE263))⟩; clear hw))
        replace BK263 := Aside0.mk (blk_drew BK263.out)
        replace HB := Aside0.mk (below_drew1 HB.out)
        refine start_ (n := 18) (S := fun w' => w'.cell? ⟨gb263, 0, none⟩ = some (.int .i64 ((rd_T45 l0 x7_1).f0)) ∧ w'.cell? ⟨gb263, 1, none⟩ = some (.int .i64 ((rd_T45 l0 x7_1).f1)) ∧ w'.cell? ⟨gb263, 2, none⟩ = some (.string ((rd_T45 l0 x7_1).f2)) ∧ w'.cell? ⟨gb263, 3, none⟩ = some (.string ((rd_T45 l0 x7_1).f3)) ∧ w'.cell? ⟨gb263, 4, none⟩ = some (.int .i64 ((rd_T45 l0 x7_1).f4))) (ds := []) #[false, false, false, false, false, false, false, false, false, false, false, false, false, false, false, false, false, false] (by kernel_rfl) rfl rfl ⟨cz BK263 0 _, cz BK263 1 _, cz BK263 2 _, cz BK263 3 _, cz BK263 4 _⟩ (fun hHeld => ?_); refine with_tabW impl_GoodChanges.tab4 impl_GoodChanges.bits4 (fun HT_ HW_ => ?_)
        generalize w24.drew = w25 at BK263 HB hHeld ⊢
        refine takeA 0 12 (bz 18 1) rfl rfl (take_ofW HT_.out HW_.out (by kernel_rfl)) hHeld (by rintro w' ⟨s0, s1, s2, s3, s4⟩; go_simp; with_reducible rfl) ?_
        refine one_ (i := 1) (N := some 13) (bz 18 3) rfl rfl (one_of HT_.out (by kernel_rfl)) (by decide) (fun K hK => ?_)
        refine goes_ Try.func50 (by kernel_rfl) rfl #[.agg #[.int .i64 ((rd_T45 l0 x7_1).f0), .int .i64 ((rd_T45 l0 x7_1).f1), .string ((rd_T45 l0 x7_1).f2), .string ((rd_T45 l0 x7_1).f3), .int .i64 ((rd_T45 l0 x7_1).f4)]] (by rfl) rfl rfl aE ?_
        with_reducible refine (impl_isChange.calls k1 ((rd_T45 l0 x7_1).f0) ((rd_T45 l0 x7_1).f1) ((rd_T45 l0 x7_1).f2) ((rd_T45 l0 x7_1).f3) ((rd_T45 l0 x7_1).f4) true _ A5.out).mono ?_
        rintro e w26 ⟨rfl, hb⟩
        refine ⟨_, rfl, ?_⟩
        replace BK263 := bB (bV BK263) hb
        replace HB := bH (lV1 GE263) hb
        (try clear hb)
        (try clear hb2)
        (try clear hk)
        (try clear hi)
        refine hK.out _ _ ⟨cz BK263 0 _, cz BK263 1 _, cz BK263 2 _, cz BK263 3 _, cz BK263 4 _⟩ (fun hHeld => ?_)
        clear hK K
        refine norm_ (a' := ?_) ?_ ?_
        rotate_left
        ·show Act.put _ (some 13) _ = _
         simp only [Act.put, List.setIfInBounds_toArray, List.set_cons_zero, List.set_cons_succ, i64_w, i32_w]
         rfl
        refine pureA 2 14 (bz 18 7) rfl rfl (any_of HT_.out (by kernel_rfl)) ?_
        refine pureA 3 15 (bz 18 15) rfl rfl (any_of HT_.out (by kernel_rfl)) ?_
        refine pureA 4 16 (bz 18 31) rfl rfl (any_of HT_.out (by kernel_rfl)) ?_
        refine pureA 5 17 (bz 18 63) rfl rfl (any_of HT_.out (by kernel_rfl)) ?_
        refine pureA 6 18 (bz 18 127) rfl rfl (any_of HT_.out (by kernel_rfl)) ?_
        refine pureU 7 19 (bz 18 255) rfl rfl (any_of HT_.out (by kernel_rfl)) ?_
        refine pureU 8 20 (bz 18 511) rfl rfl (any_of HT_.out (by kernel_rfl)) ?_
        refine pureU 9 21 (bz 18 1023) rfl rfl (any_of HT_.out (by kernel_rfl)) ?_
        refine pureU 10 22 (bz 18 2047) rfl rfl (any_of HT_.out (by kernel_rfl)) ?_
        refine pureU 11 23 (bz 18 4095) rfl rfl (any_of HT_.out (by kernel_rfl)) ?_
        refine pureU 12 24 (bz 18 8191) rfl rfl (any_of HT_.out (by kernel_rfl)) ?_
        refine pureU 13 25 (bz 18 16383) rfl rfl (any_of HT_.out (by kernel_rfl)) ?_
        refine pureU 14 26 (bz 18 32767) rfl rfl (any_of HT_.out (by kernel_rfl)) ?_
        refine pureU 15 27 (bz 18 65535) rfl rfl (any_of HT_.out (by kernel_rfl)) ?_
        refine pureA 16 28 (bz 18 131071) rfl rfl (any_of HT_.out (by kernel_rfl)) ?_
        refine pureA 17 29 (bz 18 262143) rfl rfl (any_of HT_.out (by kernel_rfl)) ?_
        refine done_ (done_of HT_.out (by kernel_rfl)) ?_
        try go_wp2
        go_roundg k1
        case measure => have := HK1.out; omega
        case rel => exact ⟨(wrap64 (x7_1 + 1)), tE, H', ⟨by have := HK1.out; omega⟩, ⟨by repeat (first | (with_reducible first | exact HB.out | apply below_alloc | apply pw_below_drewN | apply below_drew1 | refine below_set ?_ GE263.out) | exact HB.out)⟩⟩
      ·replace c6 := Bool.eq_false_iff.mpr c6
       subst c6
       have H1 : (some false) = some r := by rw [if_neg (show ¬ (false = true) by decide)] at H; exact H
       clear H
       have H := H1
       clear H1
       obtain rfl := Option.some.inj H
       have p262 : 0 ≤ (x7_1 : Int) := of_decide_eq_true hE
       have q262 : x7_1 < (l0.length : Int) := of_decide_eq_true hE
       obtain ⟨ad262, e262, hx262_0, hx262_1, hx262_2, hx262_3, hx262_4⟩ := at_T45 HR0.out x7_1 p262 q262
       cases e262
       replace hx262_0 := (HB.out.cell (World.block_lt_of_cell? w _ hx262_0)).trans hx262_0
       replace hx262_1 := (HB.out.cell (World.block_lt_of_cell? w _ hx262_1)).trans hx262_1
       replace hx262_2 := (HB.out.cell (World.block_lt_of_cell? w _ hx262_2)).trans hx262_2
       replace hx262_3 := (HB.out.cell (World.block_lt_of_cell? w _ hx262_3)).trans hx262_3
       replace hx262_4 := (HB.out.cell (World.block_lt_of_cell? w _ hx262_4)).trans hx262_4
       replace p262 := eq_true p262
       replace q262 := eq_true q262
       try go_wp2_with (first | ((with_reducible refine gate_dst (N := 4) rfl ?_); refine box_event rfl (N := 4) rfl (cs := #[.int .i64 0, .int .i64 0, .string (⟨#[]⟩ : ByteArray), .string (⟨#[]⟩ : ByteArray), .int .i64 0]) (t := 45) sE ?_; intro gb263 hg w27 hbox hb; have BK263 := Aside0.mk hbox; have GW263 := gS w hg (lU); have GE263 := gS w hg (lU); replace HB := bH (lU) hb; clear hb hbox hg; have hcz28_0 := cz BK263 0 (.int .i64 0); have hcz28_1 := cz BK263 1 (.int .i64 0); have hcz28_2 := cz BK263 2 (.string (⟨#[]⟩ : ByteArray)); have hcz28_3 := cz BK263 3 (.string (⟨#[]⟩ : ByteArray)); have hcz28_4 := cz BK263 4 (.int .i64 0); have hfz28_0 := fz BK263 0; have hfz28_1 := fz BK263 1; have hfz28_2 := fz BK263 2; have hfz28_3 := fz BK263 3; have hfz28_4 := fz BK263 4) | ((with_reducible refine gate_store (t := 45) (p := 4) rfl ?_); refine store_event (t := 45) (p := 4) (v := ?vo_w29) (w1 := (((((w27.setCell ⟨gb263, 0, none⟩ (.int .i64 ((rd_T45 l0 x7_1).f0))).setCell ⟨gb263, 1, none⟩ (.int .i64 ((rd_T45 l0 x7_1).f1))).setCell ⟨gb263, 2, none⟩ (.string ((rd_T45 l0 x7_1).f2))).setCell ⟨gb263, 3, none⟩ (.string ((rd_T45 l0 x7_1).f3))).setCell ⟨gb263, 4, none⟩ (.int .i64 ((rd_T45 l0 x7_1).f4)))) ?hg ?ho ?hn ?hr ?_; (case ho => rfl); (case hg => rfl); (case hn => rfl); (case hr => first | (go_simp; done) | (go_simp; rfl) | (have hq0_ := (blk_cell BK263.out 0).trans (show _ = some _ from rfl); have hf0_ := blk_frozen BK263.out 0; have hq1_ := (blk_cell BK263.out 1).trans (show _ = some _ from rfl); have hf1_ := blk_frozen BK263.out 1; have hq2_ := (blk_cell BK263.out 2).trans (show _ = some _ from rfl); have hf2_ := blk_frozen BK263.out 2; have hq3_ := (blk_cell BK263.out 3).trans (show _ = some _ from rfl); have hf3_ := blk_frozen BK263.out 3; have hq4_ := (blk_cell BK263.out 4).trans (show _ = some _ from rfl); have hf4_ := blk_frozen BK263.out 4; first | (go_simp; done) | (go_simp; rfl))); intro w29 hw; replace BK263 : Aside0 (w29.heap[gb263]? = some (.cells #[.int .i64 ((rd_T45 l0 x7_1).f0), .int .i64 ((rd_T45 l0 x7_1).f1), .string ((rd_T45 l0 x7_1).f2), .string ((rd_T45 l0 x7_1).f3), .int .i64 ((rd_T45 l0 x7_1).f4)] 45 (0, 0))) := ⟨(by rw [hw]; exact (by refine bU ?_; refine blk_put (cs := #[.int .i64 ((rd_T45 l0 x7_1).f0), .int .i64 ((rd_T45 l0 x7_1).f1), .string ((rd_T45 l0 x7_1).f2), .string ((rd_T45 l0 x7_1).f3), .int .i64 0]) ?_ 4 _ rfl; refine bU ?_; refine blk_put (cs := #[.int .i64 ((rd_T45 l0 x7_1).f0), .int .i64 ((rd_T45 l0 x7_1).f1), .string ((rd_T45 l0 x7_1).f2), .string (⟨#[]⟩ : ByteArray), .int .i64 0]) ?_ 3 _ rfl; refine bU ?_; refine blk_put (cs := #[.int .i64 ((rd_T45 l0 x7_1).f0), .int .i64 ((rd_T45 l0 x7_1).f1), .string (⟨#[]⟩ : ByteArray), .string (⟨#[]⟩ : ByteArray), .int .i64 0]) ?_ 2 _ rfl; refine bU ?_; refine blk_put (cs := #[.int .i64 ((rd_T45 l0 x7_1).f0), .int .i64 0, .string (⟨#[]⟩ : ByteArray), .string (⟨#[]⟩ : ByteArray), .int .i64 0]) ?_ 1 _ rfl; refine bU ?_; refine blk_put (cs := #[.int .i64 0, .int .i64 0, .string (⟨#[]⟩ : ByteArray), .string (⟨#[]⟩ : ByteArray), .int .i64 0]) ?_ 0 _ rfl; refine bU ?_; exact BK263.out))⟩; replace HB : Aside0 (Below w.heap.size w w29) := ⟨(by rw [hw]; exact (lV1 GE263))⟩; clear hw))
       replace BK263 := Aside0.mk (blk_drew BK263.out)
       replace HB := Aside0.mk (below_drew1 HB.out)
       refine start_ (n := 18) (S := fun w' => w'.cell? ⟨gb263, 0, none⟩ = some (.int .i64 ((rd_T45 l0 x7_1).f0)) ∧ w'.cell? ⟨gb263, 1, none⟩ = some (.int .i64 ((rd_T45 l0 x7_1).f1)) ∧ w'.cell? ⟨gb263, 2, none⟩ = some (.string ((rd_T45 l0 x7_1).f2)) ∧ w'.cell? ⟨gb263, 3, none⟩ = some (.string ((rd_T45 l0 x7_1).f3)) ∧ w'.cell? ⟨gb263, 4, none⟩ = some (.int .i64 ((rd_T45 l0 x7_1).f4))) (ds := []) #[false, false, false, false, false, false, false, false, false, false, false, false, false, false, false, false, false, false] (by kernel_rfl) rfl rfl ⟨cz BK263 0 _, cz BK263 1 _, cz BK263 2 _, cz BK263 3 _, cz BK263 4 _⟩ (fun hHeld => ?_); refine with_tabW impl_GoodChanges.tab4 impl_GoodChanges.bits4 (fun HT_ HW_ => ?_)
       generalize w29.drew = w30 at BK263 HB hHeld ⊢
       refine takeA 0 12 (bz 18 1) rfl rfl (take_ofW HT_.out HW_.out (by kernel_rfl)) hHeld (by rintro w' ⟨s0, s1, s2, s3, s4⟩; go_simp; with_reducible rfl) ?_
       refine one_ (i := 1) (N := some 13) (bz 18 3) rfl rfl (one_of HT_.out (by kernel_rfl)) (by decide) (fun K hK => ?_)
       refine goes_ Try.func50 (by kernel_rfl) rfl #[.agg #[.int .i64 ((rd_T45 l0 x7_1).f0), .int .i64 ((rd_T45 l0 x7_1).f1), .string ((rd_T45 l0 x7_1).f2), .string ((rd_T45 l0 x7_1).f3), .int .i64 ((rd_T45 l0 x7_1).f4)]] (by rfl) rfl rfl aE ?_
       with_reducible refine (impl_isChange.calls k1 ((rd_T45 l0 x7_1).f0) ((rd_T45 l0 x7_1).f1) ((rd_T45 l0 x7_1).f2) ((rd_T45 l0 x7_1).f3) ((rd_T45 l0 x7_1).f4) false _ A5.out).mono ?_
       rintro e w31 ⟨rfl, hb⟩
       refine ⟨_, rfl, ?_⟩
       replace BK263 := bB (bV BK263) hb
       replace HB := bH (lV1 GE263) hb
       (try clear hb)
       (try clear hb2)
       (try clear hk)
       (try clear hi)
       refine hK.out _ _ ⟨cz BK263 0 _, cz BK263 1 _, cz BK263 2 _, cz BK263 3 _, cz BK263 4 _⟩ (fun hHeld => ?_)
       clear hK K
       refine norm_ (a' := ?_) ?_ ?_
       rotate_left
       ·show Act.put _ (some 13) _ = _
        simp only [Act.put, List.setIfInBounds_toArray, List.set_cons_zero, List.set_cons_succ, i64_w, i32_w]
        rfl
       refine pureA 2 14 (bz 18 7) rfl rfl (any_of HT_.out (by kernel_rfl)) ?_
       refine pureA 3 15 (bz 18 15) rfl rfl (any_of HT_.out (by kernel_rfl)) ?_
       refine pureU 4 16 (bz 18 31) rfl rfl (any_of HT_.out (by kernel_rfl)) ?_
       refine pureU 5 17 (bz 18 63) rfl rfl (any_of HT_.out (by kernel_rfl)) ?_
       refine pureU 6 18 (bz 18 127) rfl rfl (any_of HT_.out (by kernel_rfl)) ?_
       refine pureU 7 19 (bz 18 255) rfl rfl (any_of HT_.out (by kernel_rfl)) ?_
       refine pureU 8 20 (bz 18 511) rfl rfl (any_of HT_.out (by kernel_rfl)) ?_
       refine pureU 9 21 (bz 18 1023) rfl rfl (any_of HT_.out (by kernel_rfl)) ?_
       refine pureU 10 22 (bz 18 2047) rfl rfl (any_of HT_.out (by kernel_rfl)) ?_
       refine pureU 11 23 (bz 18 4095) rfl rfl (any_of HT_.out (by kernel_rfl)) ?_
       refine pureU 12 24 (bz 18 8191) rfl rfl (any_of HT_.out (by kernel_rfl)) ?_
       refine pureU 13 25 (bz 18 16383) rfl rfl (any_of HT_.out (by kernel_rfl)) ?_
       refine pureU 14 26 (bz 18 32767) rfl rfl (any_of HT_.out (by kernel_rfl)) ?_
       refine pureU 15 27 (bz 18 65535) rfl rfl (any_of HT_.out (by kernel_rfl)) ?_
       refine pureU 16 28 (bz 18 131071) rfl rfl (any_of HT_.out (by kernel_rfl)) ?_
       refine pureA 17 29 (bz 18 262143) rfl rfl (any_of HT_.out (by kernel_rfl)) ?_
       refine done_ (done_of HT_.out (by kernel_rfl)) ?_
       try go_wp2
       go_ret
       exact ⟨eE, lV1 GE263⟩
     ·rw [if_neg c4] at H
      exact absurd H (by simp)
    ·rw [if_neg c3] at H
     exact absurd H (by simp)
   ·rw [if_neg c2] at H
    have c2b0 : decide (x7_1 < (l0.length : Int)) = false := decide_eq_false c2
    clear c2
    obtain rfl := Option.some.inj H
    go_wp2
    go_ret
    exact ⟨eE, lU⟩
def impl_Value_43.f (l0 : List (S49)) : Option (List (S49)) := if l0.length < 3518437208883 then (some l0) else (none)
set_option maxHeartbeats 8000000 in
set_option maxRecDepth 100000 in
theorem impl_Value_43.calls (A0 : Option Addr) (c0 : Nat) (l0 : List (S49)) (r : List (S49)) (w : World) (hr0 : Kd.C k49 w A0 l0.length l0) (hc0 : l0.length ≤ c0) (h : impl_Value_43.f l0 = some r) :
  Calls Try.prog 43 #[.slice A0 l0.length c0] w fun e w' => ∃ v0_ : Value, e = .returned (v0_) ∧ Kd.R k49 49 w' w.heap.size (fun _ => True) v0_ r ∧ Below w.heap.size w w' := by
 have hl : l0.length < 3518437208883 ∧ l0 = r := by
  unfold impl_Value_43.f at h
  split at h
  ·exact ⟨by assumption, Option.some.inj h⟩
  ·cases h
 clear h
 obtain ⟨hl, rfl⟩ := hl
 have HL := Aside0.mk hl
 have HR0 := Aside0.mk hr0
 clear hr0 hl
 have HT := Try.underlying25
 have u0 : ∀ w, Sem.run Try.prog (underlying 25) w = .ok (TypeDesc.slice 49) w := run_underlying HT
 have q0 : ∀ (w : World) (a : Option Addr) (n c n' c' : Nat), (binOp .eql 25 (.slice a n c) (.slice none n' c')).run Try.prog w = .ok (.bool a.isNone) w := fun w a n c n' c' => Lib.run_eql_slice_nil w _ _ a n c n' c' HT
 cases A0 with
 | none =>
  obtain rfl : l0 = [] := by
   rcases Nat.eq_zero_or_pos l0.length with h0 | h0
   ·exact List.eq_nil_of_length_eq_zero h0
   ·obtain ⟨ad, h1, _⟩ := HR0.out.2.2 h0
    cases h1
  go_enter Try.func43, Try.ntmps43
  go_wp2
  go_ret
  exact ⟨_, rfl, Kd.R_nil _ _ _ _ _, Below.refl _ _⟩
 | some ad =>
  go_enter Try.func43, Try.ntmps43
  go_wp2_with (first | ((with_reducible refine gate_builtin (b := .append) (xs := #[.tmp 5, .tmp 6]) rfl ?_); at_builtin; refine Kd.R_append_rows k49 (w0 := w) w.heap.size rfl (.tmp 5) (.tmp 6) 25 49 (.agg #[(.string ⟨#[]⟩), (.int .i64 0), (.string ⟨#[]⟩)]) 40 rfl Try.underlying25 info49 rfl (by decide) (by omega) (.slice (some ⟨w.heap.size, 0, none⟩) 0 0) [] l0 (some ad) l0.length c0 (fun _ => True) (fun _ => False) rfl rfl ?aO ?aR (fun _ _ h => h) (fun _ h => h.elim) ?aF ?aB ?aS ?aL ?_; (case aR => exact Kd.C_below HR0.out (below_alloc (Below.refl _ _) _)); (case aB => exact below_alloc (Below.refl _ _) _); (case aF => exact fun _ _ => trivial); (case aO => exact ⟨fun _ _ => trivial, [], World.ownsRow_made w #[] 0 (Nat.le_refl _) (Nat.zero_le _) rfl, ⟨rfl, fun j p hj => by simp at hj⟩⟩); (case aS => simp); (case aL => have := HL.out; simp only [List.length_nil, Nat.zero_add]; omega); intro v1 w1 ho hb hg hat; rw [List.nil_append] at ho; have HO := Aside0.mk ho; have HB := Aside0.mk hb; clear ho hb hg hat))
  go_ret
  exact ⟨_, rfl, HO.out, HB.out⟩
def bytealg_CompareString.f (a0 : ByteArray) (a1 : ByteArray) : Option (Int) := some (cmps a0 a1)
set_option maxHeartbeats 8000000 in
set_option maxRecDepth 100000 in
theorem bytealg_CompareString.calls (a0 : ByteArray) (a1 : ByteArray) (r : Int) (w : World) (h : bytealg_CompareString.f a0 a1 = some r) :
  Calls Try.prog 66 #[.string a0, .string a1] w fun e w' => e = .returned (.int .i64 r) ∧ Drawn0 w w' := by
 have hx68 : ∀ (x_ y_ : ByteArray) (W_ : World), (callFunc 68 #[.string x_, .string y_]).run Try.prog W_ = .ok (.value (.int .i64 (cmps x_ y_))) W_ := fun x_ y_ W_ => call_cmps Try.func68 (by kernel_rfl) (by kernel_rfl) (by kernel_rfl) (by kernel_rfl) x_ y_ W_
 have H : (some (cmps a0 a1)) = some r := h
 clear h
 obtain rfl := Option.some.inj H
 go_enter Try.func66, Try.ntmps66
 go_wp2
 go_ret
 exact ⟨tE, by repeat (first | exact Drawn0.refl _ | apply Drawn0.step)⟩
def strings_Compare.f (a0 : ByteArray) (a1 : ByteArray) : Option (Int) := (bytealg_CompareString.f a0 a1).bind fun t266 => (some t266)
set_option maxHeartbeats 8000000 in
set_option maxRecDepth 100000 in
theorem strings_Compare.calls (a0 : ByteArray) (a1 : ByteArray) (r : Int) (w : World) (h : strings_Compare.f a0 a1 = some r) :
  Calls Try.prog 62 #[.string a0, .string a1] w fun e w' => e = .returned (.int .i64 r) ∧ Drawn0 w w' := by
 have H : ((bytealg_CompareString.f a0 a1).bind fun t266 => (some t266)) = some r := h
 clear h
 replace H := Option.bind_eq_some_iff.mp H
 obtain ⟨t266, A30, H⟩ := H
 replace H : (some t266) = some r := H
 have A3 := Aside0.mk A30
 clear A30
 obtain rfl := Option.some.inj H
 go_enter Try.func62, Try.ntmps62
 go_wp2_with (first | ((with_reducible refine gate_callee (f := 66) rfl ?_); refine goesL_ (some 7) rfl rfl Try.func66 (by kernel_rfl) rfl #[.string a0, .string a1] rfl aE ?_; (with_reducible refine (bytealg_CompareString.calls a0 a1 t266 _ A3.out).mono ?_); rintro e w' ⟨rfl, ⟨nd, rfl⟩⟩; refine ⟨_, rfl, ?_⟩))
 go_ret
 exact ⟨tE, by repeat (first | exact Drawn0.refl _ | apply Drawn0.step)⟩
end Go.Proofs.Ytjjbkebodkjnkaa.PFnExactLoadSave
namespace Go.Proofs.Ytjjbkebodkjnkaa.PFnExactLoadSave
open Go.RowKit Go.Proofs.YtjjbkebodkjnkaaW.PrintWords Go.Proofs.YtjjbkebodkjnkaaW.PrintLast Go.Proofs.YtjjbkebodkjnkaaW.PrintMore
attribute [local go_sem] max2_int min2_int max_two min_two max_three min_three max_four min_four
set_option linter.unusedVariables false
set_option linter.unusedSimpArgs false
def impl_valuePlace_1.f (a0_0 : ByteArray) (a0_1 : Int) (a0_2 : ByteArray) (a1 : ByteArray) : Option (Int) := (strings_Compare.f a0_0 a1).bind fun t268 => (some t268)
set_option maxHeartbeats 8000000 in
set_option maxRecDepth 100000 in
theorem impl_valuePlace_1.calls (a0_0 : ByteArray) (a0_1 : Int) (a0_2 : ByteArray) (a1 : ByteArray) (r : Int) (w : World) (h : impl_valuePlace_1.f a0_0 a0_1 a0_2 a1 = some r) :
  Calls Try.prog 61 #[.agg #[.string a0_0, .int .i64 a0_1, .string a0_2], .string a1] w fun e w' => e = .returned (.int .i64 r) ∧ Below w.heap.size w w' := by
 have hu49 := Try.underlying49
 have HB := Aside0.mk (Below.refl w.heap.size w)
 have H : ((strings_Compare.f a0_0 a1).bind fun t268 => (some t268)) = some r := h
 clear h
 replace H := Option.bind_eq_some_iff.mp H
 obtain ⟨t268, A30, H⟩ := H
 replace H : (some t268) = some r := H
 have A3 := Aside0.mk A30
 clear A30
 obtain rfl := Option.some.inj H
 go_enter Try.func61, Try.ntmps61
 go_wp2_with (first | ((with_reducible refine gate_dst (N := 2) rfl ?_); refine box_event rfl (N := 2) rfl (cs := #[.string a0_0, .int .i64 a0_1, .string a0_2]) (t := 49) sE ?_; intro gb267 hg w4 hbox hb; have BK267 := Aside0.mk hbox; have GW267 := gS w hg (lU); have GE267 := gS w hg (lU); replace HB := bH (lU) hb; clear hb hbox hg; have hcz5_0 := cz BK267 0 (.string a0_0); have hcz5_1 := cz BK267 1 (.int .i64 a0_1); have hcz5_2 := cz BK267 2 (.string a0_2); have hfz5_0 := fz BK267 0; have hfz5_1 := fz BK267 1; have hfz5_2 := fz BK267 2) | ((with_reducible refine gate_callee (f := 62) rfl ?_); refine goesL_ (some 8) rfl rfl Try.func62 (by kernel_rfl) rfl #[.string a0_0, .string a1] rfl aE ?_; (with_reducible refine (strings_Compare.calls a0_0 a1 t268 _ A3.out).mono ?_); rintro e w' ⟨rfl, ⟨nd, rfl⟩⟩; refine ⟨_, rfl, ?_⟩))
 go_ret
 exact ⟨eE, lV1 GE267⟩
def slices_BinarySearchFunc_w61.l0 : Nat → List (S49) → ByteArray → Int → Int → Int → Option (Int × Bool)
 | 0, _, _, _, _, _ => none
 | k + 1, x0, x1, x8, x9, x10 => if x9 < x10 then (if 0 ≤ (wrap64 ((IntKind.u64.wrap (wrap64 (x9 + x10))) / 2)) then (if (wrap64 ((IntKind.u64.wrap (wrap64 (x9 + x10))) / 2)) < (x0.length : Int) then ((impl_valuePlace_1.f ((rd_T49 x0 (wrap64 ((IntKind.u64.wrap (wrap64 (x9 + x10))) / 2))).f0) ((rd_T49 x0 (wrap64 ((IntKind.u64.wrap (wrap64 (x9 + x10))) / 2))).f1) ((rd_T49 x0 (wrap64 ((IntKind.u64.wrap (wrap64 (x9 + x10))) / 2))).f2) x1).bind fun t270 => (if t270 < 0 then (slices_BinarySearchFunc_w61.l0 k x0 x1 x8 (wrap64 ((wrap64 ((IntKind.u64.wrap (wrap64 (x9 + x10))) / 2)) + 1)) x10) else (slices_BinarySearchFunc_w61.l0 k x0 x1 x8 x9 (wrap64 ((IntKind.u64.wrap (wrap64 (x9 + x10))) / 2))))) else (none)) else (none)) else (if x9 < x8 then (if 0 ≤ x9 then (if x9 < (x0.length : Int) then ((impl_valuePlace_1.f ((rd_T49 x0 x9).f0) ((rd_T49 x0 x9).f1) ((rd_T49 x0 x9).f2) x1).bind fun t272 => (some (x9, (t272 == 0)))) else (none)) else (none)) else (some (x9, false)))
def slices_BinarySearchFunc_w61.f (k : Nat) (l0 : List (S49)) (a1 : ByteArray)  : Option (Int × Bool) := slices_BinarySearchFunc_w61.l0 k l0 a1 (l0.length : Int) 0 (l0.length : Int)
theorem slices_BinarySearchFunc_w61.mono_l : ∀ k, (∀ y0 y1 y2 y3 y4, LeO (slices_BinarySearchFunc_w61.l0 k y0 y1 y2 y3 y4) (slices_BinarySearchFunc_w61.l0 (k + 1) y0 y1 y2 y3 y4))
 | 0 => fun _ _ _ _ _ r h => by simp [slices_BinarySearchFunc_w61.l0] at h
 | k + 1 => by
  have ih0 := slices_BinarySearchFunc_w61.mono_l k
  ·intro y0 y1 y2 y3 y4
   unfold slices_BinarySearchFunc_w61.l0
   repeat' first
   | (with_reducible exact ih0 _ _ _ _ _)
   | (with_reducible first | exact LeO.refl _ | exact LeO.none _ | refine LeO.ite ?_ ?_ | refine LeO.bind ?_ (fun _ => ?_))
   | exact ih0 _ _ _ _ _ | exact LeO.none _ | refine LeO.ite ?_ ?_ | refine LeO.bind ?_ (fun _ => ?_)
theorem slices_BinarySearchFunc_w61.mono : ∀ a0 a1 k, LeO (slices_BinarySearchFunc_w61.f k a0 a1) (slices_BinarySearchFunc_w61.f (k + 1) a0 a1) := by
 intro a0 a1 k
 have ih0 := slices_BinarySearchFunc_w61.mono_l k
 unfold slices_BinarySearchFunc_w61.f
 repeat' first
   | (with_reducible exact ih0 _ _ _ _ _)
   | (with_reducible first | exact LeO.refl _ | exact LeO.none _ | refine LeO.ite ?_ ?_ | refine LeO.bind ?_ (fun _ => ?_))
   | exact ih0 _ _ _ _ _ | exact LeO.none _ | refine LeO.ite ?_ ?_ | refine LeO.bind ?_ (fun _ => ?_)
set_option maxHeartbeats 8000000 in
set_option maxRecDepth 100000 in
theorem slices_BinarySearchFunc_w61.calls (k : Nat) (A0 : Option Addr) (c0 : Nat) (l0 : List (S49)) (a1 : ByteArray)  (r1 : Int) (r2 : Bool) (w : World) (hr0 : Kd.C k49 w A0 l0.length l0) (hc0 : l0.length ≤ c0) (h : slices_BinarySearchFunc_w61.f k l0 a1 = some (r1, r2)) :
  Calls Try.prog 60 #[.slice A0 l0.length c0, .string a1, .func (.func 61) #[] #[]] w fun e w' => e = .returned (.tuple #[.int .i64 r1, .bool r2]) ∧ Below w.heap.size w w' := by
 have hu49 := Try.underlying49
 have HR0 := Aside0.mk hr0
 have HC0 := Aside0.mk hc0
 clear hr0 hc0
 have HB := Aside0.mk (Below.refl w.heap.size w)
 have H : (slices_BinarySearchFunc_w61.l0 k l0 a1 (l0.length : Int) 0 (l0.length : Int)) = some (r1, r2) := h
 clear h
 have H' := Aside0.mk H
 clear H
 go_enter Try.func60, Try.ntmps60
 go_wp2
 go_loopg [9, 10] k (fun kq v9 v10 w' => ∃ (x9_1 : Int) (x10_1 : Int), v9 = .int .i64 x9_1 ∧ v10 = .int .i64 x10_1 ∧ Aside0 (slices_BinarySearchFunc_w61.l0 kq l0 a1 (l0.length : Int) x9_1 x10_1 = some (r1, r2)) ∧ Aside0 (kq ≤ k) ∧ Aside0 (Below w.heap.size w w'))
 case atStart => exact ⟨(0), ((l0.length : Int)), tE, tE, H', ⟨Nat.le_refl _⟩, ⟨by repeat (first | (with_reducible first | exact HB.out | apply below_alloc | apply pw_below_drewN | apply below_drew1) | exact HB.out)⟩⟩
 case round =>
  clear H'
  obtain ⟨x9_1, x10_1, rfl, rfl, HA, HK1, HB⟩ := hrel
  cases gk with
  | zero => exact absurd HA.out (by simp [slices_BinarySearchFunc_w61.l0])
  | succ k1 =>
   have H := HA.out
   clear HA
   simp only [slices_BinarySearchFunc_w61.l0] at H
   by_cases c4 : x9_1 < x10_1
   ·rw [if_pos c4] at H
    have c4b0 : decide (x9_1 < x10_1) = true := decide_eq_true c4
    clear c4
    obtain ⟨ji5, hji5⟩ : ∃ j_ : Int, (wrap64 ((IntKind.u64.wrap (wrap64 (x9_1 + x10_1))) / 2)) = j_ := ⟨_, rfl⟩
    replace H : (if 0 ≤ (ji5) then (if (ji5) < (l0.length : Int) then ((impl_valuePlace_1.f ((rd_T49 l0 (ji5)).f0) ((rd_T49 l0 (ji5)).f1) ((rd_T49 l0 (ji5)).f2) a1).bind fun t270 => (if t270 < 0 then (slices_BinarySearchFunc_w61.l0 k1 l0 a1 (l0.length : Int) (wrap64 ((ji5) + 1)) x10_1) else (slices_BinarySearchFunc_w61.l0 k1 l0 a1 (l0.length : Int) x9_1 ji5))) else (none)) else (none)) = some (r1, r2) := by first | (rw [hji5] at H; exact H) | (simp only [hji5] at H ⊢; exact H)
    have hji5w : (IntKind.i64.wrap ((IntKind.u64.wrap (wrap64 (x9_1 + x10_1))) / 2)) = ji5 := (i64_w _).trans hji5
    by_cases c6 : 0 ≤ (ji5)
    ·rw [if_pos c6] at H
     have c6b0 : decide (0 ≤ (ji5)) = true := decide_eq_true c6
     clear c6
     by_cases c7 : (ji5) < (l0.length : Int)
     ·rw [if_pos c7] at H
      have c7b0 : decide ((ji5) < (l0.length : Int)) = true := decide_eq_true c7
      clear c7
      replace H := Option.bind_eq_some_iff.mp H
      obtain ⟨t270, A80, H⟩ := H
      replace H : (if t270 < 0 then (slices_BinarySearchFunc_w61.l0 k1 l0 a1 (l0.length : Int) (wrap64 ((ji5) + 1)) x10_1) else (slices_BinarySearchFunc_w61.l0 k1 l0 a1 (l0.length : Int) x9_1 ji5)) = some (r1, r2) := H
      have A8 := Aside0.mk A80
      clear A80
      by_cases c9 : t270 < 0
      ·rw [if_pos c9] at H
       have c9b0 : decide (t270 < 0) = true := decide_eq_true c9
       clear c9
       have H' := Aside0.mk H
       clear H
       have p269 : 0 ≤ ((ji5) : Int) := of_decide_eq_true hE
       have q269 : (ji5) < (l0.length : Int) := of_decide_eq_true hE
       obtain ⟨ad269, e269, hx269_0, hx269_1, hx269_2⟩ := at_T49 HR0.out (ji5) p269 q269
       cases e269
       replace hx269_0 := (HB.out.cell (World.block_lt_of_cell? w _ hx269_0)).trans hx269_0
       replace hx269_1 := (HB.out.cell (World.block_lt_of_cell? w _ hx269_1)).trans hx269_1
       replace hx269_2 := (HB.out.cell (World.block_lt_of_cell? w _ hx269_2)).trans hx269_2
       replace p269 := eq_true p269
       replace q269 := eq_true q269
       go_wp2_with (first | ((with_reducible refine gateD_ rfl ?_); refine goesD_ (some 30) rfl rfl Try.func61 (by kernel_rfl) rfl rfl rfl #[.agg #[.string ((rd_T49 l0 (ji5)).f0), .int .i64 ((rd_T49 l0 (ji5)).f1), .string ((rd_T49 l0 (ji5)).f2)], .string a1] (by (try simp only [List.map_toArray, List.map_cons, List.map_nil]); first | done | (simp only [hji5]; rfl) | rfl | (simp only [List.length_drop, List.length_take]; rfl)) ?_; (with_reducible refine (impl_valuePlace_1.calls ((rd_T49 l0 (ji5)).f0) ((rd_T49 l0 (ji5)).f1) ((rd_T49 l0 (ji5)).f2) a1 t270 _ A8.out).mono ?_); rintro e w10 ⟨rfl, hb⟩; refine ⟨_, rfl, ?_⟩; replace HB := bH (lU) hb; (try clear hb)))
       go_roundg k1
       case measure => have := HK1.out; omega
       case rel => exact ⟨(wrap64 ((ji5) + 1)), (x10_1), (by first | rfl | (simp; done) | (simp only [← hji5] <;> (first | rfl | simp)) | (simp [*]; done) | exact not_isEmpty _ | exact (not_isEmpty _).symm | exact is_empty _ | exact (is_empty _).symm), tE, H', ⟨by have := HK1.out; omega⟩, ⟨by repeat (first | (with_reducible first | exact HB.out | apply below_alloc | apply pw_below_drewN | apply below_drew1) | exact HB.out)⟩⟩
      ·rw [if_neg c9] at H
       have c9b0 : decide (t270 < 0) = false := decide_eq_false c9
       clear c9
       have H' := Aside0.mk H
       clear H
       have p269 : 0 ≤ ((ji5) : Int) := of_decide_eq_true hE
       have q269 : (ji5) < (l0.length : Int) := of_decide_eq_true hE
       obtain ⟨ad269, e269, hx269_0, hx269_1, hx269_2⟩ := at_T49 HR0.out (ji5) p269 q269
       cases e269
       replace hx269_0 := (HB.out.cell (World.block_lt_of_cell? w _ hx269_0)).trans hx269_0
       replace hx269_1 := (HB.out.cell (World.block_lt_of_cell? w _ hx269_1)).trans hx269_1
       replace hx269_2 := (HB.out.cell (World.block_lt_of_cell? w _ hx269_2)).trans hx269_2
       replace p269 := eq_true p269
       replace q269 := eq_true q269
       go_wp2_with (first | ((with_reducible refine gateD_ rfl ?_); refine goesD_ (some 30) rfl rfl Try.func61 (by kernel_rfl) rfl rfl rfl #[.agg #[.string ((rd_T49 l0 (ji5)).f0), .int .i64 ((rd_T49 l0 (ji5)).f1), .string ((rd_T49 l0 (ji5)).f2)], .string a1] (by (try simp only [List.map_toArray, List.map_cons, List.map_nil]); first | done | (simp only [hji5]; rfl) | rfl | (simp only [List.length_drop, List.length_take]; rfl)) ?_; (with_reducible refine (impl_valuePlace_1.calls ((rd_T49 l0 (ji5)).f0) ((rd_T49 l0 (ji5)).f1) ((rd_T49 l0 (ji5)).f2) a1 t270 _ A8.out).mono ?_); rintro e w11 ⟨rfl, hb⟩; refine ⟨_, rfl, ?_⟩; replace HB := bH (lU) hb; (try clear hb)))
       go_roundg k1
       case measure => have := HK1.out; omega
       case rel => exact ⟨(x9_1), (ji5), tE, (by first | rfl | (simp; done) | (simp only [← hji5] <;> (first | rfl | simp)) | (simp [*]; done) | exact not_isEmpty _ | exact (not_isEmpty _).symm | exact is_empty _ | exact (is_empty _).symm), H', ⟨by have := HK1.out; omega⟩, ⟨by repeat (first | (with_reducible first | exact HB.out | apply below_alloc | apply pw_below_drewN | apply below_drew1) | exact HB.out)⟩⟩
     ·rw [if_neg c7] at H
      exact absurd H (by simp)
    ·rw [if_neg c6] at H
     exact absurd H (by simp)
   ·rw [if_neg c4] at H
    have c4b0 : decide (x9_1 < x10_1) = false := decide_eq_false c4
    clear c4
    by_cases c12 : x9_1 < (l0.length : Int)
    ·rw [if_pos c12] at H
     have c12b0 : decide (x9_1 < (l0.length : Int)) = true := decide_eq_true c12
     clear c12
     by_cases c13 : 0 ≤ x9_1
     ·rw [if_pos c13] at H
      have c13b0 : decide (0 ≤ x9_1) = true := decide_eq_true c13
      clear c13
      by_cases c14 : x9_1 < (l0.length : Int)
      ·rw [if_pos c14] at H
       have c14b0 : decide (x9_1 < (l0.length : Int)) = true := decide_eq_true c14
       clear c14
       replace H := Option.bind_eq_some_iff.mp H
       obtain ⟨t272, A150, H⟩ := H
       replace H : (some (x9_1, (t272 == 0))) = some (r1, r2) := H
       have A15 := Aside0.mk A150
       clear A150
       simp only [Option.some.injEq, Prod.mk.injEq] at H
       obtain ⟨rfl, rfl⟩ := H
       have p271 : 0 ≤ (x9_1 : Int) := of_decide_eq_true hE
       have q271 : x9_1 < (l0.length : Int) := of_decide_eq_true hE
       obtain ⟨ad271, e271, hx271_0, hx271_1, hx271_2⟩ := at_T49 HR0.out x9_1 p271 q271
       cases e271
       replace hx271_0 := (HB.out.cell (World.block_lt_of_cell? w _ hx271_0)).trans hx271_0
       replace hx271_1 := (HB.out.cell (World.block_lt_of_cell? w _ hx271_1)).trans hx271_1
       replace hx271_2 := (HB.out.cell (World.block_lt_of_cell? w _ hx271_2)).trans hx271_2
       replace p271 := eq_true p271
       replace q271 := eq_true q271
       go_wp2_with (first | (go_at_call 61; (with_reducible refine (impl_valuePlace_1.calls ((rd_T49 l0 x9_1).f0) ((rd_T49 l0 x9_1).f1) ((rd_T49 l0 x9_1).f2) a1 t272 _ A15.out).mono ?_); rintro e w16 ⟨rfl, hb⟩; replace HB := bH (lU) hb; (try clear hb)))
       go_ret2
       exact ⟨eE, lU⟩
      ·rw [if_neg c14] at H
       exact absurd H (by simp)
     ·rw [if_neg c13] at H
      exact absurd H (by simp)
    ·rw [if_neg c12] at H
     have c12b0 : decide (x9_1 < (l0.length : Int)) = false := decide_eq_false c12
     clear c12
     simp only [Option.some.injEq, Prod.mk.injEq] at H
     obtain ⟨rfl, rfl⟩ := H
     go_wp2
     go_ret2
     exact ⟨eE, lU⟩
def impl_valuePlace.f (k : Nat) (l0 : List (S49)) (a1 : ByteArray) : Option (Int × Bool) := (slices_BinarySearchFunc_w61.f k l0 a1).bind fun bt273 => (some (bt273.1, bt273.2))
theorem impl_valuePlace.mono : ∀ a0 a1 k, LeO (impl_valuePlace.f k a0 a1) (impl_valuePlace.f (k + 1) a0 a1) := by
 intro a0 a1 k
 unfold impl_valuePlace.f
 repeat' first
   | (with_reducible exact slices_BinarySearchFunc_w61.mono _ _ _)
   | (with_reducible first | exact LeO.refl _ | exact LeO.none _ | refine LeO.ite ?_ ?_ | refine LeO.bind ?_ (fun _ => ?_))
   | exact slices_BinarySearchFunc_w61.mono _ _ _ | exact LeO.none _ | refine LeO.ite ?_ ?_ | refine LeO.bind ?_ (fun _ => ?_)
set_option maxHeartbeats 8000000 in
set_option maxRecDepth 100000 in
theorem impl_valuePlace.calls (k : Nat) (A0 : Option Addr) (c0 : Nat) (l0 : List (S49)) (a1 : ByteArray) (r1 : Int) (r2 : Bool) (w : World) (hr0 : Kd.C k49 w A0 l0.length l0) (hc0 : l0.length ≤ c0) (h : impl_valuePlace.f k l0 a1 = some (r1, r2)) :
  Calls Try.prog 51 #[.slice A0 l0.length c0, .string a1] w fun e w' => e = .returned (.tuple #[.int .i64 r1, .bool r2]) ∧ Below w.heap.size w w' := by
 have HR0 := Aside0.mk hr0
 have HC0 := Aside0.mk hc0
 clear hr0 hc0
 have HB := Aside0.mk (Below.refl w.heap.size w)
 have H : ((slices_BinarySearchFunc_w61.f k l0 a1).bind fun bt273 => (some (bt273.1, bt273.2))) = some (r1, r2) := h
 clear h
 replace H := Option.bind_eq_some_iff.mp H
 obtain ⟨⟨t273, t274⟩, A30, H⟩ := H
 replace H : (some (t273, t274)) = some (r1, r2) := H
 have A3 := Aside0.mk A30
 clear A30
 simp only [Option.some.injEq, Prod.mk.injEq] at H
 obtain ⟨rfl, rfl⟩ := H
 go_enter Try.func51, Try.ntmps51
 go_wp2_with (first | ((with_reducible refine gate_callee (f := 60) rfl ?_); refine goesL_ (some 8) rfl rfl Try.func60 (by kernel_rfl) rfl #[.slice A0 l0.length c0, .string a1, .func (.func 61) #[] #[]] rfl aE ?_; (with_reducible refine (slices_BinarySearchFunc_w61.calls k _ _ l0 a1  t273 t274 _ ?side1 ?side2 A3.out).mono ?_); (case side1 => repeat (first | exact HR0.out | (with_reducible refine Kd.C_alloc ?_ _) | (with_reducible refine Kd.C_drewN ?_ _) | (with_reducible refine Kd.C_drew ?_))); (case side2 => exact HC0.out); rintro e w4 ⟨rfl, hb⟩; refine ⟨_, rfl, ?_⟩; replace HB := bH (lU) hb; (try clear hb)))
 go_ret2
 exact ⟨eE, lU⟩
def impl_Value_52.f (l0 : List (S49)) (a1 : Int) (l2 : List (S49)) : Option (List (S49)) := if 0 ≤ a1 then (if a1 ≤ (l0.length : Int) then (if l2.length = 1 then (if (l0.length + 1) * 40 ≤ 140737488355328 then (some (l0.take a1.toNat ++ l2 ++ l0.drop a1.toNat)) else (none)) else (none)) else (none)) else (none)
set_option maxHeartbeats 8000000 in
set_option maxRecDepth 100000 in
theorem impl_Value_52.calls (P0_ : Nat → Prop) (u9000_ : Value) (l0 : List (S49)) (a1 : Int) (A2 : Option Addr) (c2 : Nat) (l2 : List (S49)) (r : List (S49)) (w0 w : World) (hB : Below w0.heap.size w0 w) (ho0 : Kd.R k49 49 w w0.heap.size P0_ u9000_ l0) (hr2 : ∀ W_, Kept w W_ (fun k_ => P0_ k_) → Kd.C k49 W_ A2 l2.length l2) (hc2 : l2.length ≤ c2) (h : impl_Value_52.f l0 a1 l2 = some r) :
  Calls Try.prog 52 #[u9000_, .int .i64 a1, .slice A2 l2.length c2] w fun e w' => ∃ v0_ : Value, e = .returned (v0_) ∧ Kd.R k49 49 w' w0.heap.size (fun k_ => (P0_ k_ ∨ w.heap.size ≤ k_)) v0_ r ∧ Below w0.heap.size w0 w' ∧ Kept w w' (fun k_ => P0_ k_) := by
 obtain ⟨h0, h1, h2, h3, rfl⟩ : 0 ≤ a1 ∧ a1 ≤ (l0.length : Int) ∧ l2.length = 1 ∧ (l0.length + 1) * 40 ≤ 140737488355328 ∧ l0.take a1.toNat ++ l2 ++ l0.drop a1.toNat = r := by
  unfold impl_Value_52.f at h
  split at h
  ·split at h
   ·split at h
    ·split at h
     ·exact ⟨by assumption, by assumption, by assumption, by assumption, Option.some.inj h⟩
     ·cases h
    ·cases h
   ·cases h
  ·cases h
 clear h
 obtain ⟨x, rfl⟩ : ∃ x, l2 = [x] := List.length_eq_one_iff.1 h2
 obtain ⟨i, rfl⟩ : ∃ i : Nat, a1 = (i : Int) := ⟨a1.toNat, by omega⟩
 rw [Int.toNat_natCast]
 have hi : i ≤ l0.length := by omega
 obtain ⟨A0, c0, rfl⟩ := Kd.R_slice ho0
 obtain ⟨_, hnc, _⟩ := Kd.R_reads' ho0
 have HT := Try.underlying25
 obtain ⟨i0, hi0, hz0, hz1, hz2⟩ := info_parts info49
 have cut := cut_from (P := Try.prog) 25 49 .i64 HT hi0 3 hz1 A0 l0.length c0 (i : Int) (by omega) (by omega)
 have ei : ((i : Int)).toNat = i := rfl
 rw [ei] at cut
 obtain ⟨A3, hA3⟩ : ∃ A3, A3 = (if c0 = i then A0 else A0.map (·.add (i * 3))) := ⟨_, rfl⟩
 rw [← hA3] at cut
 clear hA3 ei
 have HC2 := Aside0.mk hr2
 have HO := Aside0.mk ho0
 have HB := Aside0.mk hB
 have HS := Aside0.mk hB.size
 have H3 := Aside0.mk h3
 clear hr2 ho0 hB h3 hi0 hz0 hz1 hz2
 by_cases hin : i = l0.length
 ·have HIN := Aside0.mk hin
  have hb1 : ((i : Int) == (l0.length : Int)) = true := by simp; omega
  go_enter Try.func52, Try.ntmps52
  go_wp2_with (first | ((with_reducible refine gate_builtin (b := .append) (xs := #[.tmp 23, .tmp 24]) rfl ?_); at_builtin; refine Kd.R_append_rows k49 (w0 := w0) (Rr := fun y cs => ∀ (W : World) (b_ : Nat) (q_ : Nat → Prop), k49.M W b_ q_ y cs) w0.heap.size rfl (.tmp 23) (.tmp 24) 25 49 (.agg #[(.string ⟨#[]⟩), (.int .i64 0), (.string ⟨#[]⟩)]) 40 rfl Try.underlying25 info49 rfl (by decide) (by decide) _ l0 [x] A2 1 c2 (fun k_ => P0_ k_ ∨ w.heap.size ≤ k_) (fun _ => False) rfl rfl ?aO ?aR ?aM (fun _ h => h.elim) ?aF ?aB ?aS H3.out ?_; (case aO => exact Kd.R_mono HO.out (fun _ h => .inl h)); (case aR => exact (HC2.out w (Kept.refl w _)).imp_ (Below.refl _ _) (fun y _ hp => by rw [k49_open hp]; exact fun _ _ _ => k49_mkM _ _ _ y)); (case aM => exact fun _ _ hy => hy _ _ _); (case aF => exact fun _ h => .inr h); (case aB => exact HB.out); (case aS => exact HS.out); intro v1 w1 ho hb hg hat))
  all_goals go_ret
  all_goals exact ⟨_, rfl, by have := ho; simpa [List.take_length, List.drop_length] using this, hb, Kept.of_grown hg (Kept.refl w _) (fun k hk => .inl (HO.out.1 k hk))⟩
 ·have hlt : i < l0.length := by omega
  obtain ⟨g, c, he, hg0, hg1, hg2⟩ := Kd.R_form HO.out (by omega)
  have hcc : c = c0 := by injection he with _ _ h; exact h.symm
  subst hcc
  have hA : A0 = some ⟨g, 0, none⟩ := by injection he
  subst hA
  have HLT := Aside0.mk hlt
  have hb1 : ((i : Int) == (l0.length : Int)) = false := by simp; omega
  obtain ⟨A2v, rfl⟩ : ∃ ad, A2 = some ad := by
   obtain ⟨ad, h, _⟩ := (HC2.out w (Kept.refl w _)).2.2 (by simp)
   exact ⟨ad, h⟩
  obtain ⟨j0, hj0, _, hj1, _⟩ := info_parts info49
  have hel : Try.prog.elem 25 = 49 := by simp [Program.elem, HT]
  have hu : Try.prog.underlying 25 = some (.slice (Try.prog.elem 25)) := by rw [hel]; exact HT
  have cutA : ∀ W : World, (Instr.slice 25 (.slice (some ⟨g, 0, none⟩) l0.length c) (some (.int .i64 (i : Int))) none none).run Try.prog W = .ok (.slice (some ⟨g, i * 3, none⟩) (l0.length - i) (c - i)) W := by
   intro W
   rw [run_slice_l W 25 (some ⟨g, 0, none⟩) l0.length c hu .i64 (i : Int) (by omega) (by omega), hel]
   have e1 : ¬ c = i := by omega
   simp [sizeOf, typeInfo, hj0, hj1, sliced, Result.andThen, e1, add_plain]
  by_cases hroom : l0.length + 1 ≤ c
  ·have cutB : ∀ W : World, (Instr.slice 25 (.slice (some ⟨g, 0, none⟩) l0.length c) none (some (.int .i64 ((l0.length : Int) + 1))) none).run Try.prog W = .ok (.slice (some ⟨g, 0, none⟩) (l0.length + 1) c) W := by
    intro W
    rw [run_slice_h W 25 (some ⟨g, 0, none⟩) l0.length c hu .i64 ((l0.length : Int) + 1) (by omega) (by omega), hel]
    have e2 : ((l0.length : Int) + 1).toNat = l0.length + 1 := by omega
    simp [sizeOf, typeInfo, hj0, hj1, sliced, Result.andThen, e2, add_plain]
   have cutC : ∀ W : World, (Instr.slice 25 (.slice (some ⟨g, 0, none⟩) (l0.length + 1) c) (some (.int .i64 ((i : Int) + 1))) none none).run Try.prog W = .ok (.slice (some ⟨g, (i + 1) * 3, none⟩) (l0.length - i) (c - (i + 1))) W := by
    intro W
    rw [run_slice_l W 25 (some ⟨g, 0, none⟩) (l0.length + 1) c hu .i64 ((i : Int) + 1) (by omega) (by omega), hel]
    have e1 : ¬ c = i + 1 := by omega
    have e2 : ((i : Int) + 1).toNat = i + 1 := by omega
    have e3 : l0.length + 1 - (i + 1) = l0.length - i := by omega
    simp [sizeOf, typeInfo, hj0, hj1, sliced, Result.andThen, e1, e2, add_plain]
   have cutD : ∀ W : World, (Instr.slice 25 (.slice (some ⟨g, 0, none⟩) (l0.length + 1) c) (some (.int .i64 (i : Int))) none none).run Try.prog W = .ok (.slice (some ⟨g, i * 3, none⟩) (l0.length + 1 - i) (c - i)) W := by
    intro W
    rw [run_slice_l W 25 (some ⟨g, 0, none⟩) (l0.length + 1) c hu .i64 (i : Int) (by omega) (by omega), hel]
    have e1 : ¬ c = i := by omega
    simp [sizeOf, typeInfo, hj0, hj1, sliced, Result.andThen, e1, add_plain]
   obtain ⟨gcur, hgcur⟩ : ∃ cur, w.heap[g]? = some (.cells cur 49 (0, 0)) := own_typed HO.out.2.choose_spec.1 g (by simp [Value.ownBlock])
   obtain ⟨adx, hadx, hadg, vc_, vt_, vf_, hvh, hvs⟩ := Kd.C_apart k49 (by decide) (by simp) HC2.out (HO.out.1 g (by simp [Value.ownBlock]))
   obtain rfl : A2v = adx := by injection hadx
   have hov : ∀ ca o lb cb, (callFunc 63 #[.slice (some A2v) 1 ca, .slice (some ⟨g, o, none⟩) lb cb]).run Try.prog w = .ok (.value (.bool false)) w := fun ca o lb cb => by
    rw [run_callFunc_extern Try.func63 (by kernel_rfl) (by kernel_rfl) (by kernel_rfl) (e := Extern.SlicesOverlaps.overlaps #[25, 25] #[4]) (by kernel_rfl),
     run_overlaps_own w 25 4 49 HT 3 (by intro W; simp [sizeOf, typeInfo, hj0, hj1]) A2v ⟨g, o, none⟩ 1 ca lb cb hadg vc_ gcur vt_ 49 vf_ hvh hvs hgcur]
    rfl
   have hz2 : ¬ ((i : Int) = (l0.length : Int)) := by omega
   have hz3 : ¬ ((c : Int) < (l0.length : Int) + 1) := by omega
   have hw1 : IntKind.i64.wrap ((i : Int) + 1) = (i : Int) + 1 := by rw [IntKind.wrap_i64]; have := H3.out; omega
   have hw2 : IntKind.i64.wrap ((l0.length : Int) + 1) = (l0.length : Int) + 1 := by rw [IntKind.wrap_i64]; have := H3.out; omega
   have hbi : (0 : Int) ≤ (i : Int) + 1 := by omega
   have htn : ((i : Int) + 1).toNat = i + 1 := by omega
   have htn2 : ((l0.length : Int) + 1).toNat = l0.length + 1 := by omega
   have hb3 : (i : Int) ≤ (l0.length : Int) + 1 := by omega
   have hb3' : (i : Int) ≤ (l0.length : Int) := by omega
   have HRM := Aside0.mk hroom
   have HGB := Aside0.mk hg0
   clear hroom hlt hg0 hg1 hg2 hj0 hj1 hu hel hadx hadg hvh hvs hgcur cut he
   go_enter Try.func52, Try.ntmps52
   go_wp2_with (simp only [hov])
   obtain ⟨w1, hrun, hu1, hg1⟩ := Kd.R_shift_run (P := Try.prog) k49 (W := w.drew) w0.heap.size 25 25 3 49 HT (by kernel_rfl) (cc1 := c - (i + 1)) (cc2 := c - i) (Kd.R_drew HO.out) HLT.out HRM.out
   have HU1 := Aside0.mk hu1
   have HG1 := Aside0.mk hg1
   have hrun : (Builtin.copy_ #[25, 25] 3 #[.slice (some ⟨g, (i + 1) * 3, none⟩) (l0.length - i) (c - (i + 1)), .slice (some ⟨g, i * 3, none⟩) (l0.length + 1 - i) (c - i)]).run Try.prog w.drew = .ok (goInt ((l0.length - i : Nat) : Int)) w1 := hrun
   clear hu1 hg1
   go_region_law (refine step_copyI rfl _ _ 25 25 rfl _ _ (by simp [Act.eval, Act.put]) (by simp [Act.eval, Act.put]) hrun ?_)
   have hgP : P0_ g := HO.out.1 g (by simp [Value.ownBlock])
   have hk1 : Kept w w1 (fun k_ => P0_ k_) := Kept.of_grown HG1.out (Kept.drew (Kept.refl w _)) (fun k hk => by injection hk with hk; exact .inl (hk ▸ hgP))
   have hC1 := HC2.out w1 hk1
   obtain ⟨adx, hA, hc⟩ := hC1.2.2 (by simp)
   obtain rfl : A2v = adx := by injection hA
   obtain ⟨cs, hcl, hK, hcell⟩ := hc 0 x rfl
   obtain ⟨w2, hrun2, hR2, hg2⟩ := Kd.U_fill_cells (P := Try.prog) k49 (W := w1) w0.heap.size 25 25 3 49 HT (by kernel_rfl) (cc1 := c - i) (cv := c2) HU1.out HLT.out hcl (fun j u hj => by have := hcell j u hj; rwa [Nat.zero_mul, Nat.zero_add] at this) (by rw [k49_open hK]; exact k49_mkM _ _ _ x)
   have HR2 := Aside0.mk hR2
   have HG2 := Aside0.mk hg2
   have hrun2 : (Builtin.copy_ #[25, 25] 3 #[.slice (some ⟨g, i * 3, none⟩) (l0.length + 1 - i) (c - i), .slice (some A2v) 1 c2]).run Try.prog w1 = .ok (goInt ((1 : Nat) : Int)) w2 := hrun2
   clear hR2 hg2 hC1 hA hc hcell hcl hK hk1
   go_wp2_with (at_builtin; refine wpList_copyI _ rfl _ _ 25 25 rfl _ _ rfl rfl hrun2 ?_)
   go_ret
   exact ⟨_, rfl, Kd.R_mono HR2.out (fun _ hk => .inl hk), ((below_drew1 HB.out).grown HG1.out HS.out (fun k hk => by injection hk with hk; exact hk ▸ HGB.out)).grown HG2.out (Nat.le_trans HS.out HG1.out.size) (fun k hk => by injection hk with hk; exact hk ▸ HGB.out), Kept.of_grown HG2.out (Kept.of_grown HG1.out (Kept.drew (Kept.refl w _)) (fun k hk => by injection hk with hk; exact .inl (hk ▸ hgP))) (fun k hk => by injection hk with hk; exact .inl (hk ▸ hgP))⟩
  ·have cutE : ∀ W : World, (Instr.slice 25 (.slice (some ⟨g, 0, none⟩) l0.length c) none (some (.int .i64 (i : Int))) none).run Try.prog W = .ok (.slice (some ⟨g, 0, none⟩) i c) W := by
    intro W
    rw [run_slice_h W 25 (some ⟨g, 0, none⟩) l0.length c hu .i64 (i : Int) (by omega) (by omega), hel]
    simp [sizeOf, typeInfo, hj0, hj1, sliced, Result.andThen, add_plain]
   have cutF : ∀ (W : World) (b G : Nat), l0.length + 1 ≤ G → (Instr.slice 25 (.slice (some ⟨b, 0, none⟩) (l0.length + 1) G) (some (.int .i64 (i : Int))) none none).run Try.prog W = .ok (.slice (some ⟨b, i * 3, none⟩) (l0.length + 1 - i) (G - i)) W := by
    intro W b G hG
    rw [run_slice_l W 25 (some ⟨b, 0, none⟩) (l0.length + 1) G hu .i64 (i : Int) (by omega) (by omega), hel]
    have e1 : ¬ G = i := by omega
    simp [sizeOf, typeInfo, hj0, hj1, sliced, Result.andThen, e1, add_plain]
   have cutH : ∀ (W : World) (b G : Nat), l0.length + 1 ≤ G → (Instr.slice 25 (.slice (some ⟨b, 0, none⟩) (l0.length + 1) G) (some (.int .i64 ((i : Int) + 1))) none none).run Try.prog W = .ok (.slice (some ⟨b, (i + 1) * 3, none⟩) (l0.length - i) (G - (i + 1))) W := by
    intro W b G hG
    rw [run_slice_l W 25 (some ⟨b, 0, none⟩) (l0.length + 1) G hu .i64 ((i : Int) + 1) (by omega) (by omega), hel]
    have e1 : ¬ G = i + 1 := by omega
    have e2 : ((i : Int) + 1).toNat = i + 1 := by omega
    have e3 : l0.length + 1 - (i + 1) = l0.length - i := by omega
    simp [sizeOf, typeInfo, hj0, hj1, sliced, Result.andThen, e1, e2, add_plain]
   have hz2 : ¬ ((i : Int) = (l0.length : Int)) := by omega
   have hz3 : (c : Int) < (l0.length : Int) + 1 := by omega
   have hw1 : IntKind.i64.wrap ((i : Int) + 1) = (i : Int) + 1 := by rw [IntKind.wrap_i64]; have := H3.out; omega
   have hw2 : IntKind.i64.wrap ((l0.length : Int) + 1) = (l0.length : Int) + 1 := by rw [IntKind.wrap_i64]; have := H3.out; omega
   have hkk : (l0.length : Int) + 1 - (i : Int) = ((l0.length + 1 - i : Nat) : Int) := by omega
   have hw3 : IntKind.i64.wrap ((l0.length : Int) + 1 - (i : Int)) = ((l0.length + 1 - i : Nat) : Int) := by rw [IntKind.wrap_i64, hkk]; have := H3.out; omega
   obtain ⟨w1, G, hrun, hG, hT1, hb1'⟩ := Kd.T_grow_run (P := Try.prog) k49 (W := w) w0.heap.size 25 3 25 49 j0 (.agg #[(.string ⟨#[]⟩), (.int .i64 0), (.string ⟨#[]⟩)]) .i64 .i64 HT (by kernel_rfl) hj0 (by assumption) (by rw [hj1]; rfl) rfl (by decide) (by omega) HO.out (k := i) (by omega) (by omega) (by have := H3.out; simp_all) HS.out
   have hgP : P0_ g := HO.out.1 g (by simp [Value.ownBlock])
   have htl : (l0.take i).length = i := by rw [List.length_take]; omega
   obtain ⟨w2, hrun2, hT2, hg2⟩ : ∃ w2, (Builtin.copy_ #[25, 25] 3 #[.slice (some ⟨w.heap.size, i * 3, none⟩) (l0.length + 1 - i) (G - i), .slice (some A2v) 1 c2]).run Try.prog w1 = .ok (goInt ((1 : Nat) : Int)) w2 ∧ Kd.T k49 49 w2 w0.heap.size (fun k' => P0_ k' ∨ w.heap.size ≤ k') w.heap.size G (l0.take i ++ [x]) ∧ w1.grownBy w2 (some w.heap.size) := by
    obtain ⟨adx, hA, hc⟩ := (HC2.out w1 (Kept.of_below hb1' _)).2.2 (by simp)
    obtain rfl : A2v = adx := by injection hA
    obtain ⟨cs, hcl, hK, hcell⟩ := hc 0 x rfl
    have h := Kd.T_extend_cells (P := Try.prog) k49 (W := w1) w0.heap.size 25 25 3 49 HT (by kernel_rfl) (dLen := l0.length + 1 - i) (cc1 := G - i) (cv := c2) hT1 (by omega) (by rw [htl]; omega) hcl (fun j u hj => by have := hcell j u hj; rwa [Nat.zero_mul, Nat.zero_add] at this) (by rw [k49_open hK]; exact k49_mkM _ _ _ x)
    rw [htl] at h
    exact h
   have htl2 : (l0.take i ++ [x]).length = i + 1 := by rw [List.length_append, htl]; rfl
   obtain ⟨w3, hrun3, hT3, hg3⟩ : ∃ w3, (Builtin.copy_ #[25, 25] 3 #[.slice (some ⟨w.heap.size, (i + 1) * 3, none⟩) (l0.length - i) (G - (i + 1)), .slice (some ⟨g, i * 3, none⟩) (l0.length - i) (c - i)]).run Try.prog w2.drew = .ok (goInt ((l0.length - i : Nat) : Int)) w3 ∧ Kd.T k49 49 w3 w0.heap.size (fun k' => P0_ k' ∨ w.heap.size ≤ k') w.heap.size G (l0.take i ++ [x] ++ l0.drop i) ∧ w2.drew.grownBy w3 (some w.heap.size) := by
    have hS : Kd.R k49 49 w2.drew w0.heap.size _ (.slice (some ⟨g, 0, none⟩) l0.length c) l0 := Kd.R_drew (Kd.R_grown (Kd.R_below (Kd.R_bound HO.out) hb1') hg2 (fun k hk he => by injection he with he; have := hk.2.2.1; omega))
    have hT2' : Kd.T k49 49 w2.drew w0.heap.size (fun k' => P0_ k' ∨ w.heap.size ≤ k') w.heap.size G (l0.take i ++ [x]) := Kd.T_drew hT2
    have h := Kd.T_extend_run (P := Try.prog) k49 (W := w2.drew) w0.heap.size 25 25 3 49 HT (by kernel_rfl) (dLen := l0.length - i) (cc1 := G - (i + 1)) (cc2 := c - i) (j := i) (m := l0.length - i) hT2' hS (by omega) (by omega) (by rw [htl2]; omega) (fun p q hp => k49.M_mono (fun k hk => ⟨.inl hk.1.1, by intro he; injection he with he; have := hk.1.2.2.1; omega⟩) hp)
    rw [htl2] at h
    exact h
   have hT3' := Kd.T_done _ hT3
   have htl3 : (l0.take i ++ [x] ++ l0.drop i).length = l0.length + 1 := by rw [List.length_append, htl2, List.length_drop]; omega
   rw [htl3] at hT3'
   have HT3 := Aside0.mk hT3'
   have HG2 := Aside0.mk hg2
   have HG3 := Aside0.mk hg3
   have HB1 := Aside0.mk hb1'
   have cutF1 : ∀ (W : World), (Instr.slice 25 (.slice (some ⟨w.heap.size, 0, none⟩) (l0.length + 1) G) (some (.int .i64 (i : Int))) none none).run Try.prog W = .ok (.slice (some ⟨w.heap.size, i * 3, none⟩) (l0.length + 1 - i) (G - i)) W := fun W => cutF W _ G hG
   have cutH1 : ∀ (W : World), (Instr.slice 25 (.slice (some ⟨w.heap.size, 0, none⟩) (l0.length + 1) G) (some (.int .i64 ((i : Int) + 1))) none none).run Try.prog W = .ok (.slice (some ⟨w.heap.size, (i + 1) * 3, none⟩) (l0.length - i) (G - (i + 1))) W := fun W => cutH W _ G hG
   have hb3 : (i : Int) ≤ (l0.length : Int) := by omega
   clear cutF cutH hlt hg0 hg1 hg2 hj0 hj1 hu hel cut he hT1 hT2 hT3 hT3' hg3 hb1' htl htl2 htl3 hG hkk
   go_enter Try.func52, Try.ntmps52
   go_wp2_with (first | (at_builtin; refine Lib.wpList_append_run _ rfl _ _ _ _ rfl _ _ rfl rfl _ _ hrun ?_) | (at_builtin; refine wpList_copyI _ rfl _ _ 25 25 rfl _ _ rfl rfl hrun2 ?_))
   go_region_law (refine step_copyI rfl _ _ 25 25 rfl _ _ (by simp [Act.eval, Act.put]) (by simp [Act.eval, Act.put]) hrun3 ?_)
   go_wp2
   go_ret
   exact ⟨_, rfl, HT3.out, ((below_drew1 ((below_step HB.out HB1.out).grown HG2.out (Nat.le_trans HS.out HB1.out.size) (fun k hk => by injection hk with hk; exact hk ▸ HS.out))).grown HG3.out (Nat.le_trans HS.out (Nat.le_trans HB1.out.size HG2.out.size)) (fun k hk => by injection hk with hk; exact hk ▸ HS.out)), Kept.of_grown HG3.out (Kept.drew (Kept.of_grown HG2.out (Kept.of_below HB1.out _) (fun k hk => by injection hk with hk; exact .inr (hk ▸ Nat.le_refl _)))) (fun k hk => by injection hk with hk; exact .inr (hk ▸ Nat.le_refl _))⟩
def impl_Value_53.f (l0 : List (S49)) (a1 : Int) (a2 : Int) : Option (List (S49)) := if 0 ≤ a1 then (if a1 < (l0.length : Int) then (if a2 = a1 + 1 then (some (l0.eraseIdx (a1 : Int).toNat)) else (none)) else (none)) else (none)
set_option maxHeartbeats 8000000 in
set_option maxRecDepth 100000 in
theorem impl_Value_53.calls (P0_ : Nat → Prop) (u9000_ : Value) (l0 : List (S49)) (a1 : Int) (a2 : Int) (r : List (S49)) (w0 w : World) (hB : Below w0.heap.size w0 w) (ho0 : Kd.R k49 49 w w0.heap.size P0_ u9000_ l0) (h : impl_Value_53.f l0 a1 a2 = some r) :
  Calls Try.prog 53 #[u9000_, .int .i64 a1, .int .i64 a2] w fun e w' => ∃ v0_ : Value, e = .returned (v0_) ∧ Kd.R k49 49 w' w0.heap.size (fun k_ => (P0_ k_ ∨ w.heap.size ≤ k_)) v0_ r ∧ Below w0.heap.size w0 w' ∧ Kept w w' (fun k_ => P0_ k_) := by
 obtain ⟨h0, h1, h2, rfl⟩ : 0 ≤ a1 ∧ a1 < (l0.length : Int) ∧ a2 = a1 + 1 ∧ l0.eraseIdx a1.toNat = r := by
  unfold impl_Value_53.f at h
  split at h
  ·split at h
   ·split at h
    ·exact ⟨by assumption, by assumption, by assumption, Option.some.inj h⟩
    ·cases h
   ·cases h
  ·cases h
 clear h
 obtain ⟨g, c, rfl, hg0, hg1, hg2⟩ := Kd.R_form ho0 (by omega)
 obtain ⟨_, hnc, _⟩ := Kd.R_reads' ho0
 have hgP : P0_ g := ho0.1 g (by simp [Value.ownBlock])
 obtain ⟨i, rfl⟩ : ∃ i : Nat, a1 = (i : Int) := ⟨a1.toNat, by omega⟩
 have hi : i < l0.length := by omega
 have HT := Try.underlying25
 obtain ⟨i0, hi0, hz0, hz1, hz2⟩ := info_parts info49
 have cut3 : ∀ W : World, (Instr.slice 25 (.slice (some ⟨g, 0, none⟩) l0.length c) (some (.int .i64 (i : Int))) (some (.int .i64 a2)) (some (.int .i64 (l0.length : Int)))).run Try.prog W = .ok (.slice (if l0.length = i then some ⟨g, 0, none⟩ else (some (⟨g, 0, none⟩ : Addr)).map (·.add (i * 3))) (a2.toNat - i) (l0.length - i)) W := by
  intro W
  have hel : Try.prog.elem 25 = 49 := by simp [Program.elem, HT]
  have hu : Try.prog.underlying 25 = some (.slice (Try.prog.elem 25)) := by rw [hel]; exact HT
  rw [run_slice_lhm W 25 (some ⟨g, 0, none⟩) l0.length c hu .i64 .i64 .i64 (i : Int) a2 (l0.length : Int) (by omega) (by omega) (by omega) (by omega), hel]
  simp [sizeOf, typeInfo, hi0, hz1, sliced, Result.andThen]
 have cut1 := cut_to (P := Try.prog) 25 49 .i64 HT hi0 (some ⟨g, 0, none⟩) l0.length c (i : Int) (by omega) (by omega) hnc
 have cut2 := cut_from (P := Try.prog) 25 49 .i64 HT hi0 3 hz1 (some ⟨g, 0, none⟩) l0.length c a2 (by omega) (by omega)
 have ei : ((i : Int)).toNat = i := rfl
 have e2 : a2.toNat = i + 1 := by omega
 rw [ei] at cut1 ⊢
 rw [e2] at cut2 cut3
 obtain ⟨A3, hA3⟩ : ∃ A3, A3 = (if l0.length = i then some ⟨g, 0, none⟩ else (some (⟨g, 0, none⟩ : Addr)).map (·.add (i * 3))) := ⟨_, rfl⟩
 obtain ⟨A2, hA2⟩ : ∃ A2, A2 = (if c = i + 1 then some ⟨g, 0, none⟩ else (some (⟨g, 0, none⟩ : Addr)).map (·.add ((i + 1) * 3))) := ⟨_, rfl⟩
 rw [← hA3] at cut3
 rw [← hA2] at cut2
 have HA2 := Aside0.mk hA2
 clear hA3 hA2
 have hne : ((i : Int) == a2) = false := by simp; omega
 have HL := Aside0.mk (show (l0.eraseIdx i).length = l0.length - 1 by rw [List.length_eraseIdx_of_lt hi])
 have cut4 : ∀ W : World, (Instr.slice 25 (.slice (some ⟨g, 0, none⟩) (l0.length - 1) c) (some (.int .i64 ((l0.length - 1 : Nat) : Int))) (some (.int .i64 (l0.length : Int))) none).run Try.prog W = .ok (.slice (some ⟨g, (l0.length - 1) * 3, none⟩) 1 (c - (l0.length - 1))) W := by
  intro W
  have hel : Try.prog.elem 25 = 49 := by simp [Program.elem, HT]
  have hu : Try.prog.underlying 25 = some (.slice (Try.prog.elem 25)) := by rw [hel]; exact HT
  rw [run_slice_lh W 25 (some ⟨g, 0, none⟩) (l0.length - 1) c hu .i64 .i64 ((l0.length - 1 : Nat) : Int) (l0.length : Int) (by omega) (by omega) (by omega), hel]
  have e1 : ¬ c = l0.length - 1 := by omega
  have e2 : l0.length - (l0.length - 1) = 1 := by omega
  simp [sizeOf, typeInfo, hi0, hz1, sliced, Result.andThen, e1, e2, add_plain]
 have HI := Aside0.mk hi
 have HC := Aside0.mk hnc
 have HO := Aside0.mk ho0
 have HB := Aside0.mk hB
 have HS := Aside0.mk hB.size
 have HG := Aside0.mk hgP
 have HGB := Aside0.mk hg0
 clear hi hnc ho0 hB hgP hg0 hg1 hg2 h1 h0 h2 ei e2 hi0 hz0 hz1 hz2
 go_enter Try.func53, Try.ntmps53
 go_wp2_with fail
 go_region_law ((refine Kd.R_delete_step k49 (w0 := w0) w0.heap.size ?hw (.tmp 22) (.tmp 25) 25 49 ?ho Try.underlying25 ?hi (g := g) (n := l0.length) (c := c) (k := i) (m := l0.length - (i + 1)) (c2 := c - (i + 1)) (A := A2) (xs := l0) (ok := P0_) ?hs ?hx HA2.out ?hm ?hR HI.out ?hB ?hb ?_); (case hw => simp [Region.wanted]); (case ho => rfl); (case hi => kernel_rfl); (case hs => simp [Act.eval, Act.put]); (case hx => simp [Act.eval, Act.put]); (case hm => rfl); (case hR => (with_reducible repeat (first | apply Kd.R_alloc | apply Kd.R_drewN | apply Kd.R_drew)); exact HO.out); (case hB => repeat (first | (with_reducible first | exact HB.out | apply below_alloc | apply pw_below_drewN | apply below_drew1) | exact HB.out)); (case hb => exact HS.out); intro w1 ho hb hg)
 have HO1 := Aside0.mk ho
 have HB1 := Aside0.mk hb
 have HG1 := Aside0.mk hg
 clear ho hb hg
 obtain ⟨j0, hj0, hy0, _, _⟩ := info_parts info49
 obtain ⟨w2, hrun, ho2, hg2⟩ := Kd.R_clear_run (P := Try.prog) k49 w0.heap.size 25 0 49 j0 (.agg #[(.string ⟨#[]⟩), (.int .i64 0), (.string ⟨#[]⟩)]) Try.underlying25 hj0 hy0 rfl (by simp [Value.cells, Value.oneCell']) (m := 1) (cc := c - (l0.length - 1)) HO1.out (by omega) (by have := HI.out; have := HC.out; omega)
 have HO2 := Aside0.mk ho2
 have HG2 := Aside0.mk hg2
 have hrun' : (Builtin.clear_ #[25] 0 #[.slice (some ⟨g, (l0.length - 1) * 3, none⟩) 1 (c - (l0.length - 1))]).run Try.prog w1 = .ok (.tuple #[]) w2 := hrun
 clear ho2 hg2 hj0 hy0 hrun
 go_wp2
 go_ret
 exact ⟨_, rfl, Kd.R_mono HO2.out (fun _ hk => .inl hk), HB1.out.grown HG2.out (Nat.le_trans HS.out HG1.out.size) (fun k hk => by injection hk with hk; exact hk ▸ HGB.out), Kept.of_grown HG2.out (Kept.of_grown HG1.out (Kept.drew (Kept.refl w _)) (fun k hk => by injection hk with hk; exact .inl (hk ▸ HG.out))) (fun k hk => by injection hk with hk; exact .inl (hk ▸ HG.out))⟩
def impl_size.f (a0 : Int) : Option (Int) := some (mx a0 (wrap64 (-a0)))
set_option maxHeartbeats 8000000 in
set_option maxRecDepth 100000 in
theorem impl_size.calls (a0 : Int) (r : Int) (w : World) (h : impl_size.f a0 = some r) :
  Calls Try.prog 65 #[.int .i64 a0] w fun e w' => e = .returned (.int .i64 r) ∧ Below w.heap.size w w' := by
 have HB := Aside0.mk (Below.refl w.heap.size w)
 have H : (some (mx a0 (wrap64 (-a0)))) = some r := h
 clear h
 obtain ⟨ji2, hji2⟩ : ∃ j_ : Int, (mx a0 (wrap64 (-a0))) = j_ := ⟨_, rfl⟩
 replace H : (some ji2) = some r := by first | (rw [hji2] at H; exact H) | (simp only [hji2] at H ⊢; exact H)
 have hji2_ : (if a0 < (wrap64 (-a0)) then (wrap64 (-a0)) else a0) = ji2 := hji2
 obtain rfl := Option.some.inj H
 go_enter Try.func65, Try.ntmps65
 go_wp2
 go_ret
 exact ⟨by first | rfl | (simp [errW_none, errW_some] <;> rfl) | (simp only [← hji2]; first | rfl | (simp [errW_none, errW_some] <;> rfl)) | (simp [*, errW_none, errW_some] <;> rfl), lU⟩
end Go.Proofs.Ytjjbkebodkjnkaa.PFnExactLoadSave
