/- Texts of a row. -/
import Derived.Test.YtehkpnnidbghhabZFnExactStaleBetween1
namespace Go.Proofs.Ytehkpnnidbghhab.PFnExactStaleBetween
open Go.RowKit Go.Proofs.YtehkpnnidbghhabW.PrintWords Go.Proofs.YtehkpnnidbghhabW.PrintLast Go.Proofs.YtehkpnnidbghhabW.PrintMore
attribute [local go_sem] max2_int min2_int max_two min_two max_three min_three max_four min_four   -- for this text's walks alone
set_option linter.unusedVariables false
set_option linter.unusedSimpArgs false
def spec_l21Digest.l0 : Nat → Int → List Int → Int → Int → Option (Int)
 | 0, _, _, _, _ => none
 | k + 1, x3, x6, x7, x8 => if x8 < x7 then (if 0 ≤ x8 then (if x8 < (x6.length : Int) then (spec_l21Digest.l0 k (Int.tmod (IntKind.u64.wrap ((Go.bits .xor .u64 x3 (IntKind.u64.wrap (rd x6 x8))) * 16777619)) 4294967296) x6 x7 (wrap64 (x8 + 1))) else (none)) else (none)) else (some ((x3) % 4294967296))
def spec_l21Digest.f (k : Nat) (l0 : List Int) : Option (Int) := spec_l21Digest.l0 k 2166136261 l0 (l0.length : Int) 0
theorem spec_l21Digest.mono_l : ∀ k, (∀ y0 y1 y2 y3, LeO (spec_l21Digest.l0 k y0 y1 y2 y3) (spec_l21Digest.l0 (k + 1) y0 y1 y2 y3))
 | 0 => fun _ _ _ _ r h => by simp [spec_l21Digest.l0] at h
 | k + 1 => by
  have ih0 := spec_l21Digest.mono_l k
  ·intro y0 y1 y2 y3
   unfold spec_l21Digest.l0
   repeat' first
   | (with_reducible exact ih0 _ _ _ _)
   | (with_reducible first | exact LeO.refl _ | exact LeO.none _ | refine LeO.ite ?_ ?_ | refine LeO.bind ?_ (fun _ => ?_))
   | exact ih0 _ _ _ _ | exact LeO.none _ | refine LeO.ite ?_ ?_ | refine LeO.bind ?_ (fun _ => ?_)
theorem spec_l21Digest.mono : ∀ a0 k, LeO (spec_l21Digest.f k a0) (spec_l21Digest.f (k + 1) a0) := by
 intro a0 k
 have ih0 := spec_l21Digest.mono_l k
 unfold spec_l21Digest.f
 repeat' first
   | (with_reducible exact ih0 _ _ _ _)
   | (with_reducible first | exact LeO.refl _ | exact LeO.none _ | refine LeO.ite ?_ ?_ | refine LeO.bind ?_ (fun _ => ?_))
   | exact ih0 _ _ _ _ | exact LeO.none _ | refine LeO.ite ?_ ?_ | refine LeO.bind ?_ (fun _ => ?_)
set_option maxHeartbeats 8000000 in
set_option maxRecDepth 100000 in
theorem spec_l21Digest.calls (k : Nat) (A0 : Option Addr) (c0 : Nat) (l0 : List Int) (r : Int) (w : World) (hr0 : Kd.C (Kd.int .u8) w A0 l0.length l0) (hc0 : l0.length ≤ c0) (h : spec_l21Digest.f k l0 = some r) :
  Calls Try.prog 28 #[.slice A0 l0.length c0] w fun e w' => e = .returned (.int .u32 r) ∧ Drawn0 w w' := by
 have HR0 := Aside0.mk hr0
 have HC0 := Aside0.mk hc0
 clear hr0 hc0
 have H : (spec_l21Digest.l0 k 2166136261 l0 (l0.length : Int) 0) = some r := h
 clear h
 have H' := Aside0.mk H
 clear H
 go_enter Try.func28, Try.ntmps28
 go_wp2
 go_loopg [3, 8] k (fun kq v3 v8 w' => ∃ (x3_1 : Int) (x8_1 : Int), v3 = .int .u64 x3_1 ∧ v8 = .int .i64 x8_1 ∧ Aside0 (spec_l21Digest.l0 kq x3_1 l0 (l0.length : Int) x8_1 = some r) ∧ Aside0 (kq ≤ k) ∧ Drawn0 w w')
 case atStart => exact ⟨(2166136261), (0), tE, tE, H', ⟨Nat.le_refl _⟩, by repeat (first | exact Drawn0.refl _ | apply Drawn0.step)⟩
 case round =>
  clear H'
  obtain ⟨x3_1, x8_1, rfl, rfl, HA, HK1, ⟨m1, rfl⟩⟩ := hrel
  cases gk with
  | zero => exact absurd HA.out (by simp [spec_l21Digest.l0])
  | succ k1 =>
   have H := HA.out
   clear HA
   simp only [spec_l21Digest.l0] at H
   by_cases c2 : x8_1 < (l0.length : Int)
   ·rw [if_pos c2] at H
    have c2b0 : decide (x8_1 < (l0.length : Int)) = true := decide_eq_true c2
    clear c2
    by_cases c3 : 0 ≤ x8_1
    ·rw [if_pos c3] at H
     have c3b0 : decide (0 ≤ x8_1) = true := decide_eq_true c3
     clear c3
     by_cases c4 : x8_1 < (l0.length : Int)
     ·rw [if_pos c4] at H
      have c4b0 : decide (x8_1 < (l0.length : Int)) = true := decide_eq_true c4
      clear c4
      have H' := Aside0.mk H
      clear H
      have p135 : 0 ≤ (x8_1 : Int) := of_decide_eq_true hE
      have q135 : x8_1 < (l0.length : Int) := of_decide_eq_true hE
      obtain ⟨ad135, e135, hx135_0⟩ := Kd.at_int HR0.out x8_1 p135 q135
      cases e135
      replace p135 := eq_true p135
      replace q135 := eq_true q135
      go_wp2
      go_roundg k1
      case measure => have := HK1.out; omega
      case rel => exact ⟨(Int.tmod (IntKind.u64.wrap ((Go.bits .xor .u64 x3_1 (IntKind.u64.wrap (rd l0 x8_1))) * 16777619)) 4294967296), (wrap64 (x8_1 + 1)), tE, tE, H', ⟨by have := HK1.out; omega⟩, by repeat (first | exact Drawn0.refl _ | apply Drawn0.step)⟩
     ·rw [if_neg c4] at H
      exact absurd H (by simp)
    ·rw [if_neg c3] at H
     exact absurd H (by simp)
   ·rw [if_neg c2] at H
    have c2b0 : decide (x8_1 < (l0.length : Int)) = false := decide_eq_false c2
    clear c2
    obtain rfl := Option.some.inj H
    go_wp2
    go_ret
    exact ⟨by first | rfl | (simp; done) | (simp [*]; done) | exact not_isEmpty _ | exact (not_isEmpty _).symm | exact is_empty _ | exact (is_empty _).symm, by repeat (first | exact Drawn0.refl _ | apply Drawn0.step)⟩
mutual
def spec_l21Stamps.l0 : Nat → List (S41) → List Int → List ByteArray → Int → Int → Option (List Int)
 | 0, _, _, _, _, _ => none
 | k + 1, x0, x3, x15, x16, x17 => if x17 < x16 then (if 0 ≤ x17 then (if x17 < (x15.length : Int) then ((spec_l21At.f k x0 (rdOf ByteArray.empty x15 x17)).bind fun t143 => (if ([] : List Int).length + (rdOf ByteArray.empty x15 x17).size < 140737488355328 then ((some (([] : List Int) ++ bytesOf (rdOf ByteArray.empty x15 x17) : List Int)).bind fun y144 => (if y144.length < 140737488355328 then ((some (y144 ++ [0] : List Int)).bind fun y147 => (if 0 ≤ t143 then (if t143 < (x0.length : Int) then (if y147.length + ((rd_T41 x0 t143).f2).length < 140737488355328 then ((some (y147 ++ ((rd_T41 x0 t143).f2) : List Int)).bind fun y151 => (if y151.length < 140737488355328 then (spec_l21Stamps.l1 k x0 x3 t143 (y151 ++ [0]) x15 x16 x17 ((rd_T41 x0 t143).f1) (((rd_T41 x0 t143).f1).length : Int) 0) else (none))) else (none)) else (none)) else (none))) else (none))) else (none))) else (none)) else (none)) else (some x3)
def spec_l21Stamps.l1 : Nat → List (S41) → List Int → Int → List Int → List ByteArray → Int → Int → List ByteArray → Int → Int → Option (List Int)
 | 0, _, _, _, _, _, _, _, _, _, _ => none
 | k + 1, x0, x3, x6, x7, x15, x16, x17, x44, x45, x46 => if x46 < x45 then (if 0 ≤ x46 then (if x46 < (x44.length : Int) then ((spec_l21At.f k x0 (rdOf ByteArray.empty x44 x46)).bind fun t159 => (if 0 ≤ t159 then (if t159 < (x3.length : Int) then ((some (([((rd x3 t159) / 16777216) % 256, ((rd x3 t159) / 65536) % 256, ((rd x3 t159) / 256) % 256, (rd x3 t159) % 256] : List Int) : List Int)).bind fun y161 => (if x7.length + y161.length < 140737488355328 then (spec_l21Stamps.l1 k x0 x3 x6 (x7 ++ y161) x15 x16 x17 x44 x45 (wrap64 (x46 + 1))) else (none))) else (none)) else (none))) else (none)) else (none)) else ((spec_l21Digest.f k x7).bind fun t167 => (if 0 ≤ x6 then (if x6 < (x3.length : Int) then (spec_l21Stamps.l0 k x0 (x3.set (x6 : Int).toNat t167) x15 x16 (wrap64 (x17 + 1))) else (none)) else (none)))
end
def spec_l21Stamps.f (k : Nat) (l0 : List (S41)) : Option (List Int) := if 0 ≤ (l0.length : Int) then (if ((l0.length : Int) : Int).toNat ≤ 70368744177664 then ((spec_l21Order.f k l0).bind fun t139 => (spec_l21Stamps.l0 k l0 (List.replicate ((l0.length : Int) : Int).toNat 0) t139 (t139.length : Int) 0)) else (none)) else (none)
theorem spec_l21Stamps.mono_l : ∀ k, (∀ y0 y1 y2 y3 y4, LeO (spec_l21Stamps.l0 k y0 y1 y2 y3 y4) (spec_l21Stamps.l0 (k + 1) y0 y1 y2 y3 y4)) ∧ (∀ y0 y1 y2 y3 y4 y5 y6 y7 y8 y9, LeO (spec_l21Stamps.l1 k y0 y1 y2 y3 y4 y5 y6 y7 y8 y9) (spec_l21Stamps.l1 (k + 1) y0 y1 y2 y3 y4 y5 y6 y7 y8 y9))
 | 0 => ⟨fun _ _ _ _ _ r h => by simp [spec_l21Stamps.l0] at h, fun _ _ _ _ _ _ _ _ _ _ r h => by simp [spec_l21Stamps.l1] at h⟩
 | k + 1 => by
  obtain ⟨ih0, ih1⟩ := spec_l21Stamps.mono_l k
  refine ⟨?_, ?_⟩
  ·intro y0 y1 y2 y3 y4
   unfold spec_l21Stamps.l0
   repeat' first
   | (with_reducible exact ih0 _ _ _ _ _)
   | (with_reducible exact ih1 _ _ _ _ _ _ _ _ _ _)
   | (with_reducible exact spec_l21At.mono _ _ _)
   | (with_reducible exact spec_l21Digest.mono _ _)
   | (with_reducible exact spec_l21Order.mono _ _)
   | (with_reducible first | exact LeO.refl _ | exact LeO.none _ | refine LeO.ite ?_ ?_ | refine LeO.bind ?_ (fun _ => ?_))
   | exact ih0 _ _ _ _ _
   | exact ih1 _ _ _ _ _ _ _ _ _ _
   | exact spec_l21At.mono _ _ _
   | exact spec_l21Digest.mono _ _
   | exact spec_l21Order.mono _ _ | exact LeO.none _ | refine LeO.ite ?_ ?_ | refine LeO.bind ?_ (fun _ => ?_)
  ·intro y0 y1 y2 y3 y4 y5 y6 y7 y8 y9
   unfold spec_l21Stamps.l1
   repeat' first
   | (with_reducible exact ih0 _ _ _ _ _)
   | (with_reducible exact ih1 _ _ _ _ _ _ _ _ _ _)
   | (with_reducible exact spec_l21At.mono _ _ _)
   | (with_reducible exact spec_l21Digest.mono _ _)
   | (with_reducible exact spec_l21Order.mono _ _)
   | (with_reducible first | exact LeO.refl _ | exact LeO.none _ | refine LeO.ite ?_ ?_ | refine LeO.bind ?_ (fun _ => ?_))
   | exact ih0 _ _ _ _ _
   | exact ih1 _ _ _ _ _ _ _ _ _ _
   | exact spec_l21At.mono _ _ _
   | exact spec_l21Digest.mono _ _
   | exact spec_l21Order.mono _ _ | exact LeO.none _ | refine LeO.ite ?_ ?_ | refine LeO.bind ?_ (fun _ => ?_)
theorem spec_l21Stamps.mono : ∀ a0 k, LeO (spec_l21Stamps.f k a0) (spec_l21Stamps.f (k + 1) a0) := by
 intro a0 k
 obtain ⟨ih0, ih1⟩ := spec_l21Stamps.mono_l k
 unfold spec_l21Stamps.f
 repeat' first
   | (with_reducible exact ih0 _ _ _ _ _)
   | (with_reducible exact ih1 _ _ _ _ _ _ _ _ _ _)
   | (with_reducible exact spec_l21At.mono _ _ _)
   | (with_reducible exact spec_l21Digest.mono _ _)
   | (with_reducible exact spec_l21Order.mono _ _)
   | (with_reducible first | exact LeO.refl _ | exact LeO.none _ | refine LeO.ite ?_ ?_ | refine LeO.bind ?_ (fun _ => ?_))
   | exact ih0 _ _ _ _ _
   | exact ih1 _ _ _ _ _ _ _ _ _ _
   | exact spec_l21At.mono _ _ _
   | exact spec_l21Digest.mono _ _
   | exact spec_l21Order.mono _ _ | exact LeO.none _ | refine LeO.ite ?_ ?_ | refine LeO.bind ?_ (fun _ => ?_)
set_option maxHeartbeats 8000000 in
set_option maxRecDepth 100000 in
theorem spec_l21Stamps.calls (k : Nat) (A0 : Option Addr) (c0 : Nat) (l0 : List (S41)) (r : List Int) (w : World) (hr0 : Kd.C k41 w A0 l0.length l0) (hc0 : l0.length ≤ c0) (h : spec_l21Stamps.f k l0 = some r) :
  Calls Try.prog 15 #[.slice A0 l0.length c0] w fun e w' => ∃ v0_ : Value, e = .returned (v0_) ∧ Kd.R (Kd.int .u32) 43 w' w.heap.size (fun _ => True) v0_ r ∧ Below w.heap.size w w' := by
 have HR0 := Aside0.mk hr0
 have HC0 := Aside0.mk hc0
 clear hr0 hc0
 have HB := Aside0.mk (Below.refl w.heap.size w)
 have H : (if 0 ≤ (l0.length : Int) then (if ((l0.length : Int) : Int).toNat ≤ 70368744177664 then ((spec_l21Order.f k l0).bind fun t139 => (spec_l21Stamps.l0 k l0 (List.replicate ((l0.length : Int) : Int).toNat 0) t139 (t139.length : Int) 0)) else (none)) else (none)) = some r := h
 clear h
 by_cases c2 : 0 ≤ (l0.length : Int)
 ·rw [if_pos c2] at H
  have c2b0 := eq_true c2
  have c2b1 : decide (0 ≤ (l0.length : Int)) = true := decide_eq_true c2
  clear c2
  by_cases c3 : ((l0.length : Int) : Int).toNat ≤ 70368744177664
  ·rw [if_pos c3] at H
   have c3b0 := eq_true c3
   have c3b1 : decide (((l0.length : Int) : Int).toNat ≤ 70368744177664) = true := decide_eq_true c3
   clear c3
   obtain ⟨y136, hy136⟩ : ∃ y_ : List Int, y_ = (List.replicate ((l0.length : Int) : Int).toNat 0) := ⟨_, rfl⟩
   replace H : ((spec_l21Order.f k l0).bind fun t139 => (spec_l21Stamps.l0 k l0 y136 t139 (t139.length : Int) 0)) = some r := by first | (rw [hy136]; with_reducible exact H) | (have H2_ := (Option.bind_some _ _).symm.trans H; rw [hy136]; with_reducible exact H2_) | (have H2_ := (Option.bind_some _ _).symm.trans H; with_reducible exact H2_) | with_reducible exact H | (rw [hy136]; exact H) | exact H
   have Ny136 := Aside0.mk hy136
   clear hy136
   replace H := Option.bind_eq_some_iff.mp H
   obtain ⟨t139, A40, H⟩ := H
   replace H : (spec_l21Stamps.l0 k l0 y136 t139 (t139.length : Int) 0) = some r := H
   have A4 := Aside0.mk A40
   clear A40
   have H' := Aside0.mk H
   clear H
   go_enter Try.func15, Try.ntmps15
   go_wp2_with (first | ((with_reducible refine gate_dst (N := 13) rfl ?_); refine Kd.R_make (Kd.int .u32) _ 43 rfl (N := 13) rfl 39 _ _ rfl (l0.length : Int) rfl rfl Try.underlying39 (.int .u32 0) 4 info43 rfl (by decide) (by omega) 0 (ok := fun _ => True) (okp := fun _ => True) rfl (fun _ hk => hk) trivial (of_decide_eq_true hE) (Nat.le_trans (Nat.mul_le_mul_right _ (of_decide_eq_true hE : (l0.length : Int).toNat ≤ 70368744177664)) (by omega)) (Below.refl _ _) (Nat.le_refl _) ?_; intro v137 w5 ho6 hb hg_ hnew_; clear hg_ hnew_; (first | rw [← Ny136.out] at ho6 | (simp only [Int.reduceToNat] at ho6; rw [← Ny136.out] at ho6)); have HO138 := Aside0.mk (Kd.R_lower ho6 (below_size (lU))); replace HB := bH (lU) hb; clear hb ho6) | ((with_reducible refine gate_callee (f := 27) rfl ?_); refine goesL_ (some 15) rfl rfl Try.func27 (by kernel_rfl) rfl #[.slice A0 l0.length c0] rfl aE ?_; (with_reducible refine (spec_l21Order.calls k _ _ l0 t139 _ ?side1 ?side2 A4.out).mono ?_); (case side1 => exact cU (Kd.C_below HR0.out HB.out)); (case side2 => exact HC0.out); rintro e w7 ⟨v140, rfl, ho0, hb⟩; refine ⟨_, rfl, ?_⟩; replace HO138 := Aside0.mk (Kd.R_below (rU HO138.out) hb); have HO141 := Aside0.mk (Kd.R_lower ho0 (below_size (lU))); replace HB := bH (lU) hb; (try clear hb); (try clear ho0); obtain ⟨Ao8, co8, eo8⟩ := Kd.R_slice HO141.out; subst eo8))
   (try simp only [Act.put, List.setIfInBounds_toArray, List.set_cons_zero, List.set_cons_succ])
   go_loopg [17] k (fun kq v17 w' => ∃ (x3_1 : List Int) (x17_1 : Int), v17 = .int .i64 x17_1 ∧ Aside0 (spec_l21Stamps.l0 kq l0 x3_1 t139 (t139.length : Int) x17_1 = some r) ∧ Aside0 (kq ≤ k) ∧ Aside0 (Kd.R (Kd.int .u32) 43 w' w.heap.size (fun _ => True) v137 x3_1) ∧ Aside0 (Kd.R Kd.string 9 w' w.heap.size (fun _ => True) (.slice Ao8 t139.length co8) t139) ∧ Aside0 (Below w.heap.size w w'))
   case atStart => exact ⟨(y136), (0), tE, H', ⟨Nat.le_refl _⟩, ⟨by (with_reducible repeat (first | apply Kd.R_alloc | apply Kd.R_drewN | apply Kd.R_drew)); exact HO138.out⟩, ⟨by (with_reducible repeat (first | apply Kd.R_alloc | apply Kd.R_drewN | apply Kd.R_drew)); exact HO141.out⟩, ⟨by repeat (first | (with_reducible first | exact HB.out | apply below_alloc | apply pw_below_drewN | apply below_drew1) | exact HB.out)⟩⟩
   case round =>
    clear H'
    try clear c1
    try clear c2
    try clear c2b0
    try clear c2b1
    try clear p2
    try clear c3
    try clear c3b0
    try clear c3b1
    obtain ⟨x3_1, x17_1, rfl, HA, HK1, HO_3, HO_15, HB⟩ := hrel
    cases gk with
    | zero => exact absurd HA.out (by simp [spec_l21Stamps.l0])
    | succ k1 =>
     have H := HA.out
     clear HA
     simp only [spec_l21Stamps.l0] at H
     by_cases c9 : x17_1 < (t139.length : Int)
     ·rw [if_pos c9] at H
      have c9b0 : decide (x17_1 < (t139.length : Int)) = true := decide_eq_true c9
      clear c9
      by_cases c10 : 0 ≤ x17_1
      ·rw [if_pos c10] at H
       have c10b0 : decide (0 ≤ x17_1) = true := decide_eq_true c10
       clear c10
       by_cases c11 : x17_1 < (t139.length : Int)
       ·rw [if_pos c11] at H
        have c11b0 : decide (x17_1 < (t139.length : Int)) = true := decide_eq_true c11
        clear c11
        replace H := Option.bind_eq_some_iff.mp H
        obtain ⟨t143, A120, H⟩ := H
        replace H : (if ([] : List Int).length + (rdOf ByteArray.empty t139 x17_1).size < 140737488355328 then ((some (([] : List Int) ++ bytesOf (rdOf ByteArray.empty t139 x17_1) : List Int)).bind fun y144 => (if y144.length < 140737488355328 then ((some (y144 ++ [0] : List Int)).bind fun y147 => (if 0 ≤ t143 then (if t143 < (l0.length : Int) then (if y147.length + ((rd_T41 l0 t143).f2).length < 140737488355328 then ((some (y147 ++ ((rd_T41 l0 t143).f2) : List Int)).bind fun y151 => (if y151.length < 140737488355328 then (spec_l21Stamps.l1 k1 l0 x3_1 t143 (y151 ++ [0]) t139 (t139.length : Int) x17_1 ((rd_T41 l0 t143).f1) (((rd_T41 l0 t143).f1).length : Int) 0) else (none))) else (none)) else (none)) else (none))) else (none))) else (none)) = some r := H
        have A12 := Aside0.mk A120
        clear A120
        by_cases c13 : ([] : List Int).length + (rdOf ByteArray.empty t139 x17_1).size < 140737488355328
        ·rw [if_pos c13] at H
         have LMc13 := Aside0.mk c13
         clear c13
         obtain ⟨y144, hy144⟩ : ∃ y_ : List Int, y_ = (([] : List Int) ++ bytesOf (rdOf ByteArray.empty t139 x17_1)) := ⟨_, rfl⟩
         replace H : (if y144.length < 140737488355328 then ((some (y144 ++ [0] : List Int)).bind fun y147 => (if 0 ≤ t143 then (if t143 < (l0.length : Int) then (if y147.length + ((rd_T41 l0 t143).f2).length < 140737488355328 then ((some (y147 ++ ((rd_T41 l0 t143).f2) : List Int)).bind fun y151 => (if y151.length < 140737488355328 then (spec_l21Stamps.l1 k1 l0 x3_1 t143 (y151 ++ [0]) t139 (t139.length : Int) x17_1 ((rd_T41 l0 t143).f1) (((rd_T41 l0 t143).f1).length : Int) 0) else (none))) else (none)) else (none)) else (none))) else (none)) = some r := by first | (rw [hy144]; with_reducible exact H) | (have H2_ := (Option.bind_some _ _).symm.trans H; rw [hy144]; with_reducible exact H2_) | (have H2_ := (Option.bind_some _ _).symm.trans H; with_reducible exact H2_) | with_reducible exact H | (rw [hy144]; exact H) | exact H
         have Ny144 := Aside0.mk hy144
         clear hy144
         by_cases c14 : y144.length < 140737488355328
         ·rw [if_pos c14] at H
          have LMc14 := Aside0.mk c14
          clear c14
          obtain ⟨y147, hy147⟩ : ∃ y_ : List Int, y_ = (y144 ++ [0]) := ⟨_, rfl⟩
          replace H : (if 0 ≤ t143 then (if t143 < (l0.length : Int) then (if y147.length + ((rd_T41 l0 t143).f2).length < 140737488355328 then ((some (y147 ++ ((rd_T41 l0 t143).f2) : List Int)).bind fun y151 => (if y151.length < 140737488355328 then (spec_l21Stamps.l1 k1 l0 x3_1 t143 (y151 ++ [0]) t139 (t139.length : Int) x17_1 ((rd_T41 l0 t143).f1) (((rd_T41 l0 t143).f1).length : Int) 0) else (none))) else (none)) else (none)) else (none)) = some r := by first | (rw [hy147]; with_reducible exact H) | (have H2_ := (Option.bind_some _ _).symm.trans H; rw [hy147]; with_reducible exact H2_) | (have H2_ := (Option.bind_some _ _).symm.trans H; with_reducible exact H2_) | with_reducible exact H | (rw [hy147]; exact H) | exact H
          have Ny147 := Aside0.mk hy147
          clear hy147
          by_cases c15 : 0 ≤ t143
          ·rw [if_pos c15] at H
           have c15b0 : decide (0 ≤ t143) = true := decide_eq_true c15
           clear c15
           by_cases c16 : t143 < (l0.length : Int)
           ·rw [if_pos c16] at H
            have c16b0 : decide (t143 < (l0.length : Int)) = true := decide_eq_true c16
            clear c16
            by_cases c17 : y147.length + ((rd_T41 l0 t143).f2).length < 140737488355328
            ·rw [if_pos c17] at H
             have LMc17 := Aside0.mk c17
             clear c17
             obtain ⟨y151, hy151⟩ : ∃ y_ : List Int, y_ = (y147 ++ ((rd_T41 l0 t143).f2)) := ⟨_, rfl⟩
             replace H : (if y151.length < 140737488355328 then (spec_l21Stamps.l1 k1 l0 x3_1 t143 (y151 ++ [0]) t139 (t139.length : Int) x17_1 ((rd_T41 l0 t143).f1) (((rd_T41 l0 t143).f1).length : Int) 0) else (none)) = some r := by first | (rw [hy151]; with_reducible exact H) | (have H2_ := (Option.bind_some _ _).symm.trans H; rw [hy151]; with_reducible exact H2_) | (have H2_ := (Option.bind_some _ _).symm.trans H; with_reducible exact H2_) | with_reducible exact H | (rw [hy151]; exact H) | exact H
             have Ny151 := Aside0.mk hy151
             clear hy151
             by_cases c18 : y151.length < 140737488355328
             ·rw [if_pos c18] at H
              have LMc18 := Aside0.mk c18
              clear c18
              obtain ⟨y154, hy154⟩ : ∃ y_ : List Int, y_ = (y151 ++ [0]) := ⟨_, rfl⟩
              replace H : (spec_l21Stamps.l1 k1 l0 x3_1 t143 y154 t139 (t139.length : Int) x17_1 ((rd_T41 l0 t143).f1) (((rd_T41 l0 t143).f1).length : Int) 0) = some r := by first | (rw [hy154]; with_reducible exact H) | (have H2_ := (Option.bind_some _ _).symm.trans H; rw [hy154]; with_reducible exact H2_) | (have H2_ := (Option.bind_some _ _).symm.trans H; with_reducible exact H2_) | with_reducible exact H | (rw [hy154]; exact H) | exact H
              have Ny154 := Aside0.mk hy154
              clear hy154
              have H' := Aside0.mk H
              clear H
              have p142 : 0 ≤ (x17_1 : Int) := of_decide_eq_true hE
              have q142 : x17_1 < (t139.length : Int) := of_decide_eq_true hE
              obtain ⟨ad142, e142, hx142_0⟩ := Kd.at_string (Kd.R_reads' HO_15.out).2.2 x17_1 p142 q142
              cases e142
              replace p142 := eq_true p142
              replace q142 := eq_true q142
              go_wp2_with (first | ((with_reducible refine gate_callee (f := 16) rfl ?_); refine goesL_ (some 23) rfl rfl Try.func16 (by kernel_rfl) rfl #[.slice A0 l0.length c0, .string (rdOf ByteArray.empty t139 x17_1)] rfl aE ?_; (with_reducible refine (spec_l21At.calls k1 _ _ l0 (rdOf ByteArray.empty t139 x17_1) t143 _ ?side1 ?side2 A12.out).mono ?_); (case side1 => exact cU (Kd.C_below HR0.out HB.out)); (case side2 => exact HC0.out); rintro e w19 ⟨rfl, hb⟩; refine ⟨_, rfl, ?_⟩; replace HO_3 := Aside0.mk (Kd.R_below (rU HO_3.out) hb); replace HO_15 := Aside0.mk (Kd.R_below (rU HO_15.out) hb); replace HB := bH (lU) hb; (try clear hb)) | (at_builtin; refine print_append_str (w0 := w) w.heap.size rfl (.tmp 24) _ 35 9 5 rfl Try.underlying35 Try.underlying9 info5 (.slice none 0 0) ([] : List Int) (rdOf ByteArray.empty t139 x17_1) rfl rfl ?aO ?aB ?aS ?aL ?_; (case aB => exact (lU)); (case aO => exact (World.ownsRow_nil _ _ _ _)); (case aS => exact (below_size (lU))); (case aL => have := LMc13.out; omega); intro v145 w20 ho0 hb hg; have ho := Kd.R_of_own (h1 := fun _ => rfl) (ok := fun _ => True) ho0 (fun _ _ => trivial); clear ho0; have hat := True.intro; rw [← Ny144.out] at ho; change Kd.R (Kd.int .u8) 5 w20 w.heap.size (fun _ => True) v145 y144 at ho; replace HO_3 := Aside0.mk (Kd.R_grown (rU HO_3.out) hg (fun _ _ => by simp [Value.ownBlock])); replace HO_15 := Aside0.mk (Kd.R_grown (rU HO_15.out) hg (fun _ _ => by simp [Value.ownBlock])); replace HB := Aside0.mk hb; have HO146 := Aside0.mk ho; clear ho hb hg hat) | ((with_reducible refine gate_builtin (b := .append) (xs := #[.tmp 27, .tmp 28]) rfl ?_); at_builtin; refine Kd.R_append (Kd.int .u8) (w0 := w) w.heap.size rfl (.tmp 27) (.tmp 28) 35 5 (.int .u8 0) 1 rfl Try.underlying35 info5 rfl (by decide) (by omega) v145 y144 0 [.int .u8 0] (fun _ => True) (fun _ => False) rfl rfl ?aP (fun _ hk => hk.elim) ?aF ?aO ?aB ?aS ?aL ?_; (case aP => exact rfl); (case aB => exact (lU)); (case aF => exact (fun _ _ => trivial)); (case aO => exact (rU HO146.out)); (case aS => exact (below_size (lU))); (case aL => have := LMc14.out; omega); intro v148 w21 ho hb hg hat; rw [← Ny147.out] at ho; replace HO_3 := Aside0.mk (Kd.R_over' (rU HO_3.out) (Kd.R_typed (rU HO146.out)) (by decide) hg); replace HO_15 := Aside0.mk (Kd.R_over' (rU HO_15.out) (Kd.R_typed (rU HO146.out)) (by decide) hg); replace HB := Aside0.mk hb; have HO149 := Aside0.mk ho; clear HO146; clear ho hb hg hat; have p150 : 0 ≤ (t143 : Int) := of_decide_eq_true hE; have q150 : t143 < (l0.length : Int) := of_decide_eq_true hE; obtain ⟨ad150, A150_1, c150_1, A150_2, c150_2, e150, hx150_0, hx150_1, hx150_2, hl150_1, hi150_1, hl150_2, hi150_2⟩ := at_T41 HR0.out t143 p150 q150; cases e150; replace hx150_0 := (HB.out.cell (World.block_lt_of_cell? w _ hx150_0)).trans hx150_0; replace hx150_1 := (HB.out.cell (World.block_lt_of_cell? w _ hx150_1)).trans hx150_1; replace hx150_2 := (HB.out.cell (World.block_lt_of_cell? w _ hx150_2)).trans hx150_2; have HR150_1 := Aside0.mk hi150_1; have HC150_1 := Aside0.mk hl150_1; clear hi150_1 hl150_1; have HR150_2 := Aside0.mk hi150_2; have HC150_2 := Aside0.mk hl150_2; clear hi150_2 hl150_2; replace p150 := eq_true p150; replace q150 := eq_true q150) | ((with_reducible refine gate_builtin (b := .append) (xs := #[.tmp 30, .tmp 35]) rfl ?_); at_builtin; refine Kd.R_append_rows (Kd.int .u8) (w0 := w) w.heap.size rfl (.tmp 30) (.tmp 35) 35 5 (.int .u8 0) 1 rfl Try.underlying35 info5 rfl (by decide) (by omega) v148 y147 ((rd_T41 l0 t143).f2) _ _ _ (fun _ => True) (fun _ => False) rfl rfl ?aO ?aR (fun _ _ h => h) (fun _ h => h.elim) ?aF ?aB ?aS ?aL ?_; (case aR => repeat (first | exact (Kd.C_below HR150_2.out HB.out) | exact (Kd.C_drewN (Kd.C_below HR150_2.out HB.out) _) | exact (Kd.C_drew (Kd.C_below HR150_2.out HB.out)) | exact (Kd.C_alloc (Kd.C_below HR150_2.out HB.out) _) | (with_reducible refine Kd.C_alloc ?_ _) | (with_reducible refine Kd.C_drewN ?_ _) | (with_reducible refine Kd.C_drew ?_))); (case aB => exact (lU)); (case aF => exact (fun _ _ => trivial)); (case aO => exact (rU HO149.out)); (case aS => exact (below_size (lU))); (case aL => have := LMc17.out; omega); intro v152 w22 ho hb hg hat; rw [← Ny151.out] at ho; replace HO_3 := Aside0.mk (Kd.R_over' (rU HO_3.out) (Kd.R_typed (rU HO149.out)) (by decide) hg); replace HO_15 := Aside0.mk (Kd.R_over' (rU HO_15.out) (Kd.R_typed (rU HO149.out)) (by decide) hg); replace HB := Aside0.mk hb; have HO153 := Aside0.mk ho; clear HO149; clear ho hb hg hat) | ((with_reducible refine gate_builtin (b := .append) (xs := #[.tmp 37, .tmp 38]) rfl ?_); at_builtin; refine Kd.R_append (Kd.int .u8) (w0 := w) w.heap.size rfl (.tmp 37) (.tmp 38) 35 5 (.int .u8 0) 1 rfl Try.underlying35 info5 rfl (by decide) (by omega) v152 y151 0 [.int .u8 0] (fun _ => True) (fun _ => False) rfl rfl ?aP (fun _ hk => hk.elim) ?aF ?aO ?aB ?aS ?aL ?_; (case aP => exact rfl); (case aB => exact (lU)); (case aF => exact (fun _ _ => trivial)); (case aO => exact (rU HO153.out)); (case aS => exact (below_size (lU))); (case aL => have := LMc18.out; omega); intro v155 w23 ho hb hg hat; rw [← Ny154.out] at ho; replace HO_3 := Aside0.mk (Kd.R_over' (rU HO_3.out) (Kd.R_typed (rU HO153.out)) (by decide) hg); replace HO_15 := Aside0.mk (Kd.R_over' (rU HO_15.out) (Kd.R_typed (rU HO153.out)) (by decide) hg); replace HB := Aside0.mk hb; have HO156 := Aside0.mk ho; clear HO153; clear ho hb hg hat; have p157 : 0 ≤ (t143 : Int) := of_decide_eq_true hE; have q157 : t143 < (l0.length : Int) := of_decide_eq_true hE; obtain ⟨ad157, A157_1, c157_1, A157_2, c157_2, e157, hx157_0, hx157_1, hx157_2, hl157_1, hi157_1, hl157_2, hi157_2⟩ := at_T41 HR0.out t143 p157 q157; obtain rfl : ad150 = ad157 := (by injection e157); replace hx157_0 := (HB.out.cell (World.block_lt_of_cell? w _ hx157_0)).trans hx157_0; replace hx157_1 := (HB.out.cell (World.block_lt_of_cell? w _ hx157_1)).trans hx157_1; replace hx157_2 := (HB.out.cell (World.block_lt_of_cell? w _ hx157_2)).trans hx157_2; have HR157_1 := Aside0.mk hi157_1; have HC157_1 := Aside0.mk hl157_1; clear hi157_1 hl157_1; have HR157_2 := Aside0.mk hi157_2; have HC157_2 := Aside0.mk hl157_2; clear hi157_2 hl157_2; replace p157 := eq_true p157; replace q157 := eq_true q157))
              (try simp only [Act.put, List.setIfInBounds_toArray, List.set_cons_zero, List.set_cons_succ])
              go_loopg [7, 46] k1 (fun kq v7 v46 w' => ∃ (x7_2 : List Int) (x46_2 : Int), v46 = .int .i64 x46_2 ∧ Aside0 (spec_l21Stamps.l1 kq l0 x3_1 t143 x7_2 t139 (t139.length : Int) x17_1 ((rd_T41 l0 t143).f1) (((rd_T41 l0 t143).f1).length : Int) x46_2 = some r) ∧ Aside0 (kq ≤ k1) ∧ Aside0 (Kd.R (Kd.int .u32) 43 w' w.heap.size (fun _ => True) v137 x3_1) ∧ Aside0 (Kd.R (Kd.int .u8) 5 w' w.heap.size (fun _ => True) v7 x7_2) ∧ Aside0 (Kd.R Kd.string 9 w' w.heap.size (fun _ => True) (.slice (some ad142) t139.length co8) t139) ∧ Aside0 (Below w.heap.size w w'))
              case atStart => exact ⟨(y154), (0), tE, H', ⟨Nat.le_refl _⟩, ⟨by (with_reducible repeat (first | apply Kd.R_alloc | apply Kd.R_drewN | apply Kd.R_drew)); exact HO_3.out⟩, ⟨by (with_reducible repeat (first | apply Kd.R_alloc | apply Kd.R_drewN | apply Kd.R_drew)); exact HO156.out⟩, ⟨by (with_reducible repeat (first | apply Kd.R_alloc | apply Kd.R_drewN | apply Kd.R_drew)); exact HO_15.out⟩, ⟨by repeat (first | (with_reducible first | exact HB.out | apply below_alloc | apply pw_below_drewN | apply below_drew1) | exact HB.out)⟩⟩
              case round =>
               clear H'
               try clear c1
               try clear p1
               try clear q1
               try clear hx1
               try clear c2
               try clear c2b0
               try clear c2b1
               try clear p2
               try clear c3
               try clear c3b0
               try clear c3b1
               try clear c9
               try clear c9b0
               try clear c10
               try clear c10b0
               try clear c11
               try clear c11b0
               try clear c13
               try clear c14
               try clear p14
               try clear q14
               try clear hx14
               try clear c15
               try clear c15b0
               try clear p15
               try clear q15
               try clear hx15
               try clear c16
               try clear c16b0
               try clear c17
               try clear c18
               try clear hx142_0
               try clear hx150_0
               try clear hx150_1
               try clear hx150_2
               try clear hx157_0
               try clear hx157_1
               try clear hx157_2
               try clear p142
               try clear p150
               try clear p157
               try clear p2
               try clear q142
               try clear q150
               try clear q157
               obtain ⟨x7_2, x46_2, rfl, HA, HK2, HO_3, HO_7, HO_15, HB⟩ := hrel
               cases gk with
               | zero => exact absurd HA.out (by simp [spec_l21Stamps.l1])
               | succ k2 =>
                have H := HA.out
                clear HA
                simp only [spec_l21Stamps.l1] at H
                by_cases c24 : x46_2 < (((rd_T41 l0 t143).f1).length : Int)
                ·rw [if_pos c24] at H
                 have c24b0 : decide (x46_2 < (((rd_T41 l0 t143).f1).length : Int)) = true := decide_eq_true c24
                 clear c24
                 by_cases c25 : 0 ≤ x46_2
                 ·rw [if_pos c25] at H
                  have c25b0 : decide (0 ≤ x46_2) = true := decide_eq_true c25
                  clear c25
                  by_cases c26 : x46_2 < (((rd_T41 l0 t143).f1).length : Int)
                  ·rw [if_pos c26] at H
                   have c26b0 : decide (x46_2 < (((rd_T41 l0 t143).f1).length : Int)) = true := decide_eq_true c26
                   clear c26
                   replace H := Option.bind_eq_some_iff.mp H
                   obtain ⟨t159, A270, H⟩ := H
                   replace H : (if 0 ≤ t159 then (if t159 < (x3_1.length : Int) then ((some (([((rd x3_1 t159) / 16777216) % 256, ((rd x3_1 t159) / 65536) % 256, ((rd x3_1 t159) / 256) % 256, (rd x3_1 t159) % 256] : List Int) : List Int)).bind fun y161 => (if x7_2.length + y161.length < 140737488355328 then (spec_l21Stamps.l1 k2 l0 x3_1 t143 (x7_2 ++ y161) t139 (t139.length : Int) x17_1 ((rd_T41 l0 t143).f1) (((rd_T41 l0 t143).f1).length : Int) (wrap64 (x46_2 + 1))) else (none))) else (none)) else (none)) = some r := H
                   have A27 := Aside0.mk A270
                   clear A270
                   by_cases c28 : 0 ≤ t159
                   ·rw [if_pos c28] at H
                    have c28b0 : decide (0 ≤ t159) = true := decide_eq_true c28
                    clear c28
                    by_cases c29 : t159 < (x3_1.length : Int)
                    ·rw [if_pos c29] at H
                     have c29b0 : decide (t159 < (x3_1.length : Int)) = true := decide_eq_true c29
                     clear c29
                     obtain ⟨y161, hy161⟩ : ∃ y_ : List Int, y_ = (([((rd x3_1 t159) / 16777216) % 256, ((rd x3_1 t159) / 65536) % 256, ((rd x3_1 t159) / 256) % 256, (rd x3_1 t159) % 256] : List Int)) := ⟨_, rfl⟩
                     replace H : (if x7_2.length + y161.length < 140737488355328 then (spec_l21Stamps.l1 k2 l0 x3_1 t143 (x7_2 ++ y161) t139 (t139.length : Int) x17_1 ((rd_T41 l0 t143).f1) (((rd_T41 l0 t143).f1).length : Int) (wrap64 (x46_2 + 1))) else (none)) = some r := by first | (rw [hy161]; with_reducible exact H) | (have H2_ := (Option.bind_some _ _).symm.trans H; rw [hy161]; with_reducible exact H2_) | (have H2_ := (Option.bind_some _ _).symm.trans H; with_reducible exact H2_) | with_reducible exact H | (rw [hy161]; exact H) | exact H
                     have Ny161 := Aside0.mk hy161
                     clear hy161
                     by_cases c30 : x7_2.length + y161.length < 140737488355328
                     ·rw [if_pos c30] at H
                      have LMc30 := Aside0.mk c30
                      clear c30
                      obtain ⟨y164, hy164⟩ : ∃ y_ : List Int, y_ = (x7_2 ++ y161) := ⟨_, rfl⟩
                      replace H : (spec_l21Stamps.l1 k2 l0 x3_1 t143 y164 t139 (t139.length : Int) x17_1 ((rd_T41 l0 t143).f1) (((rd_T41 l0 t143).f1).length : Int) (wrap64 (x46_2 + 1))) = some r := by first | (rw [hy164]; with_reducible exact H) | (have H2_ := (Option.bind_some _ _).symm.trans H; rw [hy164]; with_reducible exact H2_) | (have H2_ := (Option.bind_some _ _).symm.trans H; with_reducible exact H2_) | with_reducible exact H | (rw [hy164]; exact H) | exact H
                      have Ny164 := Aside0.mk hy164
                      clear hy164
                      have H' := Aside0.mk H
                      clear H
                      have p158 : 0 ≤ (x46_2 : Int) := of_decide_eq_true hE
                      have q158 : x46_2 < (((rd_T41 l0 t143).f1).length : Int) := of_decide_eq_true hE
                      obtain ⟨ad158, e158, hx158_0⟩ := Kd.at_string HR157_1.out x46_2 p158 q158
                      cases e158
                      replace hx158_0 := (HB.out.cell (World.block_lt_of_cell? w _ hx158_0)).trans hx158_0
                      replace p158 := eq_true p158
                      replace q158 := eq_true q158
                      go_wp2_with (first | ((with_reducible refine gate_callee (f := 16) rfl ?_); refine goesL_ (some 53) rfl rfl Try.func16 (by kernel_rfl) rfl #[.slice (some ad150) l0.length c0, .string (rdOf ByteArray.empty ((rd_T41 l0 t143).f1) x46_2)] rfl aE ?_; (with_reducible refine (spec_l21At.calls k2 _ _ l0 (rdOf ByteArray.empty ((rd_T41 l0 t143).f1) x46_2) t159 _ ?side1 ?side2 A27.out).mono ?_); (case side1 => exact cU (Kd.C_below HR0.out HB.out)); (case side2 => exact HC0.out); rintro e w31 ⟨rfl, hb⟩; refine ⟨_, rfl, ?_⟩; replace HO_3 := Aside0.mk (Kd.R_below (rU HO_3.out) hb); replace HO_7 := Aside0.mk (Kd.R_below (rU HO_7.out) hb); replace HO_15 := Aside0.mk (Kd.R_below (rU HO_15.out) hb); replace HB := bH (lU) hb; (try clear hb); obtain ⟨Ao32, co32, eo32⟩ := Kd.R_slice HO_3.out; subst eo32; have p160 : 0 ≤ (t159 : Int) := of_decide_eq_true hE; have q160 : t159 < (x3_1.length : Int) := of_decide_eq_true hE; obtain ⟨ad160, e160, hx160_0⟩ := Kd.at_int (Kd.R_reads' HO_3.out).2.2 t159 p160 q160; cases e160; replace p160 := eq_true p160; replace q160 := eq_true q160) | ((with_reducible refine gate_dst (N := 68) rfl ?_); refine Kd.R_lit (Kd.int .u8) _ 5 ?hg (N := 68) ?hd (xs := ([((rd x3_1 t159) / 16777216) % 256, ((rd x3_1 t159) / 65536) % 256, ((rd x3_1 t159) / 256) % 256, (rd x3_1 t159) % 256] : List Int)) (inner := [.int .u8 (((rd x3_1 t159) / 16777216) % 256), .int .u8 (((rd x3_1 t159) / 65536) % 256), .int .u8 (((rd x3_1 t159) / 256) % 256), .int .u8 ((rd x3_1 t159) % 256)]) (ok := fun _ => True) (okp := fun _ => True) ?hr ?hp (fun _ hk => hk) trivial (Below.refl _ _) (Nat.le_refl _) (by simp) ?_; (case hd => rfl); (case hg => rfl); (case hr => exact sE); (case hp => exact (Reps.one (show Kd.M (Kd.int .u8) _ _ _ (((rd x3_1 t159) / 16777216) % 256) [.int .u8 (((rd x3_1 t159) / 16777216) % 256)] from rfl) (Reps.one (show Kd.M (Kd.int .u8) _ _ _ (((rd x3_1 t159) / 65536) % 256) [.int .u8 (((rd x3_1 t159) / 65536) % 256)] from rfl) (Reps.one (show Kd.M (Kd.int .u8) _ _ _ (((rd x3_1 t159) / 256) % 256) [.int .u8 (((rd x3_1 t159) / 256) % 256)] from rfl) (Reps.one (show Kd.M (Kd.int .u8) _ _ _ ((rd x3_1 t159) % 256) [.int .u8 ((rd x3_1 t159) % 256)] from rfl) (Reps.none _ _)))))); intro v162 w33 ho34 hb hg_ hnew_; clear hg_ hnew_; (first | rw [← Ny161.out] at ho34 | (simp only [Int.reduceToNat] at ho34; rw [← Ny161.out] at ho34)); replace HO_3 := Aside0.mk (Kd.R_below (rU HO_3.out) hb); replace HO_15 := Aside0.mk (Kd.R_below (rU HO_15.out) hb); have HO163 := Aside0.mk (Kd.R_lower (Kd.R_new' ho34 (Kd.R_lt (rU HO_7.out))) (below_size (lU))); replace HO_7 := Aside0.mk (Kd.R_elder' (rU HO_7.out) (Kd.R_base ho34) hb); replace HB := bH (lU) hb; clear hb ho34; obtain ⟨Ao36, co36, eo36⟩ := Kd.R_slice HO163.out; subst eo36) | ((with_reducible refine gate_builtin (b := .append) (xs := #[.tmp 56, .tmp 68]) rfl ?_); at_builtin; refine Kd.R_append_rows (Kd.int .u8) (w0 := w) w.heap.size rfl (.tmp 56) (.tmp 68) 35 5 (.int .u8 0) 1 rfl Try.underlying35 info5 rfl (by decide) (by omega) u7 x7_2 y161 _ _ _ (fun k_ => some k_ ≠ (.slice Ao36 y161.length co36 : Value).ownBlock) (fun _ => False) rfl rfl ?aO ?aR (fun _ _ h => h) (fun _ h => h.elim) ?aF ?aB ?aS ?aL ?_; (case aR => repeat (first | exact (Kd.R_reads' HO163.out).2.2 | (with_reducible refine Kd.C_alloc ?_ _) | (with_reducible refine Kd.C_drewN ?_ _) | (with_reducible refine Kd.C_drew ?_))); (case aB => exact (lU)); (case aF => exact (fun k_ hk => Kd.fresh' (Kd.R_lt (rU HO163.out)) k_ hk)); (case aO => exact (by (with_reducible repeat (first | apply Kd.R_alloc | apply Kd.R_drewN | apply Kd.R_drew)); exact Kd.R_mono HO_7.out (fun _ hk => hk.2))); (case aS => exact (below_size (lU))); (case aL => have := LMc30.out; omega); intro v165 w35 ho hb hg hat; rw [← Ny164.out] at ho; replace HO_3 := Aside0.mk (Kd.R_over' (rU HO_3.out) (Kd.R_typed (rU HO_7.out)) (by decide) hg); replace HO_15 := Aside0.mk (Kd.R_over' (rU HO_15.out) (Kd.R_typed (rU HO_7.out)) (by decide) hg); replace HO163 := Aside0.mk (Kd.R_after (ok := (fun _ => True)) (rU HO163.out) hg hat); replace HB := Aside0.mk hb; have HO166 := Aside0.mk ho; clear HO_7; clear ho hb hg hat))
                      go_roundg k2
                      case measure => have := HK1.out; have := HK2.out; omega
                      case rel => exact ⟨(y164), (wrap64 (x46_2 + 1)), tE, H', ⟨by have := HK1.out; have := HK2.out; omega⟩, ⟨by (with_reducible repeat (first | apply Kd.R_alloc | apply Kd.R_drewN | apply Kd.R_drew)); exact HO_3.out⟩, ⟨by (with_reducible repeat (first | apply Kd.R_alloc | apply Kd.R_drewN | apply Kd.R_drew)); exact Kd.R_mono HO166.out (fun _ hk => trivial)⟩, ⟨by (with_reducible repeat (first | apply Kd.R_alloc | apply Kd.R_drewN | apply Kd.R_drew)); exact HO_15.out⟩, ⟨by repeat (first | (with_reducible first | exact HB.out | apply below_alloc | apply pw_below_drewN | apply below_drew1) | exact HB.out)⟩⟩
                     ·rw [if_neg c30] at H
                      exact absurd H (by simp)
                    ·rw [if_neg c29] at H
                     exact absurd H (by simp)
                   ·rw [if_neg c28] at H
                    exact absurd H (by simp)
                  ·rw [if_neg c26] at H
                   exact absurd H (by simp)
                 ·rw [if_neg c25] at H
                  exact absurd H (by simp)
                ·rw [if_neg c24] at H
                 have c24b0 : decide (x46_2 < (((rd_T41 l0 t143).f1).length : Int)) = false := decide_eq_false c24
                 clear c24
                 replace H := Option.bind_eq_some_iff.mp H
                 obtain ⟨t167, A370, H⟩ := H
                 replace H : (if 0 ≤ t143 then (if t143 < (x3_1.length : Int) then (spec_l21Stamps.l0 k2 l0 (x3_1.set (t143 : Int).toNat t167) t139 (t139.length : Int) (wrap64 (x17_1 + 1))) else (none)) else (none)) = some r := H
                 have A37 := Aside0.mk A370
                 clear A370
                 by_cases c38 : 0 ≤ t143
                 ·rw [if_pos c38] at H
                  have c38b0 : decide (0 ≤ t143) = true := decide_eq_true c38
                  clear c38
                  by_cases c39 : t143 < (x3_1.length : Int)
                  ·rw [if_pos c39] at H
                   have c39b0 : decide (t143 < (x3_1.length : Int)) = true := decide_eq_true c39
                   clear c39
                   obtain ⟨y168, hy168⟩ : ∃ y_ : List Int, y_ = (x3_1.set (t143 : Int).toNat t167) := ⟨_, rfl⟩
                   replace H : (spec_l21Stamps.l0 k2 l0 y168 t139 (t139.length : Int) (wrap64 (x17_1 + 1))) = some r := by first | (rw [hy168]; with_reducible exact H) | (have H2_ := (Option.bind_some _ _).symm.trans H; rw [hy168]; with_reducible exact H2_) | (have H2_ := (Option.bind_some _ _).symm.trans H; with_reducible exact H2_) | with_reducible exact H | (rw [hy168]; exact H) | exact H
                   have Ny168 := Aside0.mk hy168
                   clear hy168
                   have H' := Aside0.mk H
                   clear H
                   obtain ⟨Ao41, co41, eo41⟩ := Kd.R_slice HO_7.out
                   subst eo41
                   go_wp2_with (first | ((with_reducible refine gate_callee (f := 28) rfl ?_); refine goesL_ (some 74) rfl rfl Try.func28 (by kernel_rfl) rfl #[.slice Ao41 x7_2.length co41] rfl aE ?_; (with_reducible refine (spec_l21Digest.calls k2 _ _ x7_2 t167 _ ?side1 ?side2 A37.out).mono ?_); (case side1 => exact cU (Kd.R_reads' HO_7.out).2.2); (case side2 => exact (Kd.R_reads' HO_7.out).2.1); rintro e w' ⟨rfl, ⟨nd, rfl⟩⟩; refine ⟨_, rfl, ?_⟩; (try (rw [drewN_self wr]; generalize hq_ : World.drewN wr _ = wr; replace HO_15 : Aside0 (Kd.R Kd.string 9 wr w.heap.size (fun _ => True) (.slice (some ad142) t139.length co8) t139) := ⟨by rw [← hq_]; exact (rU HO_15.out)⟩; replace HO_3 : Aside0 (Kd.R (Kd.int .u32) 43 wr w.heap.size (fun _ => True) v137 x3_1) := ⟨by rw [← hq_]; exact (rU HO_3.out)⟩; replace HO_7 : Aside0 (Kd.R (Kd.int .u8) 5 wr w.heap.size (fun _ => True) (.slice Ao41 x7_2.length co41) x7_2) := ⟨by rw [← hq_]; exact (rU HO_7.out)⟩; replace HB : Aside0 (Below w.heap.size w wr) := ⟨by rw [← hq_]; exact (lU)⟩; clear hq_)); have p40 : 0 ≤ (t143 : Int) := of_decide_eq_true hE; have q40 : (t143 : Int) < ((x3_1.length : Int) : Int) := of_decide_eq_true hE; obtain ⟨go40, co40, eo40, gb40, gl40, cl40, HG40⟩ := Kd.R_form HO_3.out (by omega); (first | cases eo40 | (injection eo40 with ea_ en_ ec_; (first | subst ea_ | (injection ea_ with ea_; subst ea_)); subst ec_; clear en_)); have GB40 := Aside0.mk gb40; have GG40 := Aside0.mk HG40; clear gb40 gl40 HG40; obtain ⟨hx40_0, hf40_0⟩ := Kd.R_celln 0 HO_3.out (t143 : Int) p40 q40; replace p40 := eq_true p40; replace q40 := eq_true q40; obtain ⟨hy42_, hz42_⟩ := Kd.R_celln 0 HO_3.out (t143 : Int) (of_decide_eq_true hE) (of_decide_eq_true hE); have HP42 := Kd.R_putg HO_3.out (t143 : Int) t167) | ((with_reducible refine gate_store (t := 43) (p := 75) rfl ?_); refine store_event (t := 43) (p := 75) (v := ?vo_w43) (w1 := (wr.setCell ⟨go40, (t143 : Int).toNat, none⟩ (.int .u32 t167))) ?hg ?ho ?hn ?hr ?_; (case ho => rfl); (case hg => rfl); (case hn => rfl); (case hr => exact sE); intro w43 hw; have hg : wr.grownBy w43 (some go40) := (by rw [hw]; exact HP42.2); have hp_ : Kd.R (Kd.int .u32) 43 w43 w.heap.size (fun _ => True) (.slice (some ⟨go40, 0, none⟩) x3_1.length co40) y168 := (by rw [hw, Ny168.out]; exact HP42.1); clear HP42; replace HO_7 := Aside0.mk (Kd.R_over' (v := (.slice (some ⟨go40, 0, none⟩) x3_1.length co40)) (rU HO_7.out) (Kd.R_typed HO_3.out) (by decide) hg); replace HO_15 := Aside0.mk (Kd.R_over' (v := (.slice (some ⟨go40, 0, none⟩) x3_1.length co40)) (rU HO_15.out) (Kd.R_typed HO_3.out) (by decide) hg); replace HO_3 := Aside0.mk hp_; replace HB := Aside0.mk ((by rw [hw]; exact below_set (HB.out) GB40.out : Below w.heap.size w w43)); clear hg hw hp_))
                   go_roundg k2
                   case measure => have := HK1.out; have := HK2.out; omega
                   case rel => exact ⟨(y168), (wrap64 (x17_1 + 1)), tE, H', ⟨by have := HK1.out; have := HK2.out; omega⟩, ⟨by (with_reducible repeat (first | apply Kd.R_alloc | apply Kd.R_drewN | apply Kd.R_drew)); exact HO_3.out⟩, ⟨by (with_reducible repeat (first | apply Kd.R_alloc | apply Kd.R_drewN | apply Kd.R_drew)); exact HO_15.out⟩, ⟨by repeat (first | (with_reducible first | exact HB.out | apply below_alloc | apply pw_below_drewN | apply below_drew1) | exact HB.out)⟩⟩
                  ·rw [if_neg c39] at H
                   exact absurd H (by simp)
                 ·rw [if_neg c38] at H
                  exact absurd H (by simp)
             ·rw [if_neg c18] at H
              exact absurd H (by simp)
            ·rw [if_neg c17] at H
             exact absurd H (by simp)
           ·rw [if_neg c16] at H
            exact absurd H (by simp)
          ·rw [if_neg c15] at H
           exact absurd H (by simp)
         ·rw [if_neg c14] at H
          exact absurd H (by simp)
        ·rw [if_neg c13] at H
         exact absurd H (by simp)
       ·rw [if_neg c11] at H
        exact absurd H (by simp)
      ·rw [if_neg c10] at H
       exact absurd H (by simp)
     ·rw [if_neg c9] at H
      have c9b0 : decide (x17_1 < (t139.length : Int)) = false := decide_eq_false c9
      clear c9
      obtain rfl := Option.some.inj H
      go_wp2
      go_ret
      exact ⟨_, eE, by (with_reducible repeat (first | apply Kd.R_alloc | apply Kd.R_drewN | apply Kd.R_drew)); exact HO_3.out, lU⟩
  ·rw [if_neg c3] at H
   exact absurd H (by simp)
 ·rw [if_neg c2] at H
  exact absurd H (by simp)
mutual
def spec_StaleBetween.j0 : Nat → List (S41) → List (S41) → Bool → Option (List ByteArray × Bool)
 | 0, _, _, _ => none
 | k + 1, x0, x1, x19 => if x19 = true then (some (([] : List ByteArray), false)) else ((spec_l21Stamps.f k x0).bind fun t171 => ((spec_l21Stamps.f k x1).bind fun t174 => (spec_StaleBetween.l0 k x0 t171 t174 ([] : List ByteArray) x1 (x1.length : Int) 0)))
def spec_StaleBetween.l0 : Nat → List (S41) → List Int → List Int → List ByteArray → List (S41) → Int → Int → Option (List ByteArray × Bool)
 | 0, _, _, _, _, _, _, _ => none
 | k + 1, x0, x6, x7, x8, x24, x25, x26 => if x26 < x25 then (if 0 ≤ x26 then (if x26 < (x24.length : Int) then ((spec_l21At.f k x0 ((rd_T41 x24 x26).f0)).bind fun t179 => (if t179 < 0 then (if x8.length < 8796093022208 then (spec_StaleBetween.l0 k x0 x6 x7 (x8 ++ [(rd_T41 x24 x26).f0]) x24 x25 (wrap64 (x26 + 1))) else (none)) else (if 0 ≤ t179 then (if t179 < (x6.length : Int) then (if x26 < (x7.length : Int) then (if (rd x6 t179) = (rd x7 x26) then (spec_StaleBetween.l0 k x0 x6 x7 x8 x24 x25 (wrap64 (x26 + 1))) else (if x8.length < 8796093022208 then (spec_StaleBetween.l0 k x0 x6 x7 (x8 ++ [(rd_T41 x24 x26).f0]) x24 x25 (wrap64 (x26 + 1))) else (none))) else (none)) else (none)) else (none)))) else (none)) else (none)) else (some (x8, true))
end
def spec_StaleBetween.f (k : Nat) (l0 : List (S41)) (l1 : List (S41)) : Option (List ByteArray × Bool) := (spec_GoodAssets.f k l0).bind fun t169 => (if t169 = true then ((spec_GoodAssets.f k l1).bind fun t170 => (spec_StaleBetween.j0 k l0 l1 (!t170))) else (spec_StaleBetween.j0 k l0 l1 true))
theorem spec_StaleBetween.mono_l : ∀ k, (∀ y0 y1 y2, LeO (spec_StaleBetween.j0 k y0 y1 y2) (spec_StaleBetween.j0 (k + 1) y0 y1 y2)) ∧ (∀ y0 y1 y2 y3 y4 y5 y6, LeO (spec_StaleBetween.l0 k y0 y1 y2 y3 y4 y5 y6) (spec_StaleBetween.l0 (k + 1) y0 y1 y2 y3 y4 y5 y6))
 | 0 => ⟨fun _ _ _ r h => by simp [spec_StaleBetween.j0] at h, fun _ _ _ _ _ _ _ r h => by simp [spec_StaleBetween.l0] at h⟩
 | k + 1 => by
  obtain ⟨ih0, ih1⟩ := spec_StaleBetween.mono_l k
  refine ⟨?_, ?_⟩
  ·intro y0 y1 y2
   unfold spec_StaleBetween.j0
   repeat' first
   | (with_reducible exact ih0 _ _ _)
   | (with_reducible exact ih1 _ _ _ _ _ _ _)
   | (with_reducible exact spec_GoodAssets.mono _ _)
   | (with_reducible exact spec_l21At.mono _ _ _)
   | (with_reducible exact spec_l21Stamps.mono _ _)
   | (with_reducible first | exact LeO.refl _ | exact LeO.none _ | refine LeO.ite ?_ ?_ | refine LeO.bind ?_ (fun _ => ?_))
   | exact ih0 _ _ _
   | exact ih1 _ _ _ _ _ _ _
   | exact spec_GoodAssets.mono _ _
   | exact spec_l21At.mono _ _ _
   | exact spec_l21Stamps.mono _ _ | exact LeO.none _ | refine LeO.ite ?_ ?_ | refine LeO.bind ?_ (fun _ => ?_)
  ·intro y0 y1 y2 y3 y4 y5 y6
   unfold spec_StaleBetween.l0
   repeat' first
   | (with_reducible exact ih0 _ _ _)
   | (with_reducible exact ih1 _ _ _ _ _ _ _)
   | (with_reducible exact spec_GoodAssets.mono _ _)
   | (with_reducible exact spec_l21At.mono _ _ _)
   | (with_reducible exact spec_l21Stamps.mono _ _)
   | (with_reducible first | exact LeO.refl _ | exact LeO.none _ | refine LeO.ite ?_ ?_ | refine LeO.bind ?_ (fun _ => ?_))
   | exact ih0 _ _ _
   | exact ih1 _ _ _ _ _ _ _
   | exact spec_GoodAssets.mono _ _
   | exact spec_l21At.mono _ _ _
   | exact spec_l21Stamps.mono _ _ | exact LeO.none _ | refine LeO.ite ?_ ?_ | refine LeO.bind ?_ (fun _ => ?_)
theorem spec_StaleBetween.mono : ∀ a0 a1 k, LeO (spec_StaleBetween.f k a0 a1) (spec_StaleBetween.f (k + 1) a0 a1) := by
 intro a0 a1 k
 obtain ⟨ih0, ih1⟩ := spec_StaleBetween.mono_l k
 unfold spec_StaleBetween.f
 repeat' first
   | (with_reducible exact ih0 _ _ _)
   | (with_reducible exact ih1 _ _ _ _ _ _ _)
   | (with_reducible exact spec_GoodAssets.mono _ _)
   | (with_reducible exact spec_l21At.mono _ _ _)
   | (with_reducible exact spec_l21Stamps.mono _ _)
   | (with_reducible first | exact LeO.refl _ | exact LeO.none _ | refine LeO.ite ?_ ?_ | refine LeO.bind ?_ (fun _ => ?_))
   | exact ih0 _ _ _
   | exact ih1 _ _ _ _ _ _ _
   | exact spec_GoodAssets.mono _ _
   | exact spec_l21At.mono _ _ _
   | exact spec_l21Stamps.mono _ _ | exact LeO.none _ | refine LeO.ite ?_ ?_ | refine LeO.bind ?_ (fun _ => ?_)
set_option maxHeartbeats 8000000 in
set_option maxRecDepth 100000 in
theorem spec_StaleBetween.calls (k : Nat) (A0 : Option Addr) (c0 : Nat) (l0 : List (S41)) (A1 : Option Addr) (c1 : Nat) (l1 : List (S41)) (r1 : List ByteArray) (r2 : Bool) (w : World) (hr0 : Kd.C k41 w A0 l0.length l0) (hc0 : l0.length ≤ c0) (hr1 : Kd.C k41 w A1 l1.length l1) (hc1 : l1.length ≤ c1) (h : spec_StaleBetween.f k l0 l1 = some (r1, r2)) :
  Calls Try.prog 5 #[.slice A0 l0.length c0, .slice A1 l1.length c1] w fun e w' => ∃ v0_ : Value, e = .returned (.tuple #[v0_, .bool r2]) ∧ Kd.R Kd.string 9 w' w.heap.size (fun _ => True) v0_ r1 ∧ Below w.heap.size w w' := by
 have hu41 := Try.underlying41
 have HR0 := Aside0.mk hr0
 have HC0 := Aside0.mk hc0
 clear hr0 hc0
 have HR1 := Aside0.mk hr1
 have HC1 := Aside0.mk hc1
 clear hr1 hc1
 have HB := Aside0.mk (Below.refl w.heap.size w)
 have H : ((spec_GoodAssets.f k l0).bind fun t169 => (if t169 = true then ((spec_GoodAssets.f k l1).bind fun t170 => (spec_StaleBetween.j0 k l0 l1 (!t170))) else (spec_StaleBetween.j0 k l0 l1 true))) = some (r1, r2) := h
 clear h
 have HC3 := Aside0.mk H
 clear H
 go_enter Try.func5, Try.ntmps5
 go_upto_region 1 with (fail)
 repeat (go_quiet (fail); go_upto_region 1 with (fail))
 go_cut [19] (fun v19 wc => ∃ (kq : Nat) (x19_2 : Bool), v19 = .bool x19_2 ∧ Aside0 (spec_StaleBetween.j0 kq l0 l1 x19_2 = some (r1, r2)) ∧ Aside0 (kq ≤ k) ∧ Aside0 (Below w.heap.size w wc))
 case first =>
  have H := HC3.out
  clear HC3
  replace H := Option.bind_eq_some_iff.mp H
  obtain ⟨t169, A40, H⟩ := H
  replace H : (if t169 = true then ((spec_GoodAssets.f k l1).bind fun t170 => (spec_StaleBetween.j0 k l0 l1 (!t170))) else (spec_StaleBetween.j0 k l0 l1 true)) = some (r1, r2) := H
  have A4 := Aside0.mk A40
  clear A40
  by_cases c5 : t169 = true
  ·subst c5
   have H1 : ((spec_GoodAssets.f k l1).bind fun t170 => (spec_StaleBetween.j0 k l0 l1 (!t170))) = some (r1, r2) := by rw [if_pos rfl] at H; exact H
   clear H
   have H := H1
   clear H1
   replace H := Option.bind_eq_some_iff.mp H
   obtain ⟨t170, A60, H⟩ := H
   replace H : (spec_StaleBetween.j0 k l0 l1 (!t170)) = some (r1, r2) := H
   have A6 := Aside0.mk A60
   clear A60
   have H' := Aside0.mk H
   clear H
   go_wp2_with (first | (go_at_call 14; (with_reducible refine (spec_GoodAssets.calls k _ _ l0 true _ ?side1 ?side2 A4.out).mono ?_); (case side1 => exact cU (Kd.C_below HR0.out HB.out)); (case side2 => exact HC0.out); rintro e w7 ⟨rfl, hb⟩; replace HB := bH (lU) hb; (try clear hb)) | (go_at_call 14; (with_reducible refine (spec_GoodAssets.calls k _ _ l1 t170 _ ?side1 ?side2 A6.out).mono ?_); (case side1 => exact cU (Kd.C_below HR1.out HB.out)); (case side2 => exact HC1.out); rintro e w8 ⟨rfl, hb⟩; replace HB := bH (lU) hb; (try clear hb)))
   repeat (go_quiet (first | (go_at_call 14; (with_reducible refine (spec_GoodAssets.calls k _ _ l0 true _ ?side1 ?side2 A4.out).mono ?_); (case side1 => exact cU (Kd.C_below HR0.out HB.out)); (case side2 => exact HC0.out); rintro e w7 ⟨rfl, hb⟩; replace HB := bH (lU) hb; (try clear hb)) | (go_at_call 14; (with_reducible refine (spec_GoodAssets.calls k _ _ l1 t170 _ ?side1 ?side2 A6.out).mono ?_); (case side1 => exact cU (Kd.C_below HR1.out HB.out)); (case side2 => exact HC1.out); rintro e w8 ⟨rfl, hb⟩; replace HB := bH (lU) hb; (try clear hb))); try go_wp2_with (first | (go_at_call 14; (with_reducible refine (spec_GoodAssets.calls k _ _ l0 true _ ?side1 ?side2 A4.out).mono ?_); (case side1 => exact cU (Kd.C_below HR0.out HB.out)); (case side2 => exact HC0.out); rintro e w7 ⟨rfl, hb⟩; replace HB := bH (lU) hb; (try clear hb)) | (go_at_call 14; (with_reducible refine (spec_GoodAssets.calls k _ _ l1 t170 _ ?side1 ?side2 A6.out).mono ?_); (case side1 => exact cU (Kd.C_below HR1.out HB.out)); (case side2 => exact HC1.out); rintro e w8 ⟨rfl, hb⟩; replace HB := bH (lU) hb; (try clear hb))))
   go_meet
   case rel => exact ⟨_, (!t170), tE, H', ⟨by first | omega | exact Nat.le_refl _⟩, ⟨by repeat (first | (with_reducible first | exact HB.out | apply below_alloc | apply pw_below_drewN | apply below_drew1) | exact HB.out)⟩⟩
  ·replace c5 := Bool.eq_false_iff.mpr c5
   subst c5
   have H1 : (spec_StaleBetween.j0 k l0 l1 true) = some (r1, r2) := by rw [if_neg (show ¬ (false = true) by decide)] at H; exact H
   clear H
   have H := H1
   clear H1
   have H' := Aside0.mk H
   clear H
   go_wp2_with (first | (go_at_call 14; (with_reducible refine (spec_GoodAssets.calls k _ _ l0 false _ ?side1 ?side2 A4.out).mono ?_); (case side1 => exact cU (Kd.C_below HR0.out HB.out)); (case side2 => exact HC0.out); rintro e w9 ⟨rfl, hb⟩; replace HB := bH (lU) hb; (try clear hb)))
   repeat (go_quiet (first | (go_at_call 14; (with_reducible refine (spec_GoodAssets.calls k _ _ l0 false _ ?side1 ?side2 A4.out).mono ?_); (case side1 => exact cU (Kd.C_below HR0.out HB.out)); (case side2 => exact HC0.out); rintro e w9 ⟨rfl, hb⟩; replace HB := bH (lU) hb; (try clear hb))); try go_wp2_with (first | (go_at_call 14; (with_reducible refine (spec_GoodAssets.calls k _ _ l0 false _ ?side1 ?side2 A4.out).mono ?_); (case side1 => exact cU (Kd.C_below HR0.out HB.out)); (case side2 => exact HC0.out); rintro e w9 ⟨rfl, hb⟩; replace HB := bH (lU) hb; (try clear hb))))
   go_meet
   case rel => exact ⟨_, (true), tE, H', ⟨by first | omega | exact Nat.le_refl _⟩, ⟨by repeat (first | (with_reducible first | exact HB.out | apply below_alloc | apply pw_below_drewN | apply below_drew1) | exact HB.out)⟩⟩
 case rest =>
  clear HC3
  try clear c1
  try clear p2
  try clear c5
  obtain ⟨kq, x19_2, rfl, HA, HJ2, HB⟩ := hcut
  cases kq with
  | zero => exact absurd HA.out (by simp [spec_StaleBetween.j0])
  | succ kj2 =>
   have H := HA.out
   clear HA
   simp only [spec_StaleBetween.j0] at H
   by_cases c10 : x19_2 = true
   ·subst c10
    have H1 : (some (([] : List ByteArray), false)) = some (r1, r2) := by rw [if_pos rfl] at H; exact H
    clear H
    have H := H1
    clear H1
    simp only [Option.some.injEq, Prod.mk.injEq] at H
    obtain ⟨rfl, rfl⟩ := H
    go_wp2
    repeat (go_quiet (fail); try go_wp2)
    go_ret2
    exact ⟨_, eE, by first | exact Kd.R_nil _ _ _ _ _ | exact Kd.N_nil _ _ _ _ _ | exact Kd.V_nil _ _ _ _ _ | exact Kd.Q_nil _ _ _ _ _ | exact Kd.S_nil _ _ _ _ _, lU⟩
   ·replace c10 := Bool.eq_false_iff.mpr c10
    subst c10
    have H1 : ((spec_l21Stamps.f kj2 l0).bind fun t171 => ((spec_l21Stamps.f kj2 l1).bind fun t174 => (spec_StaleBetween.l0 kj2 l0 t171 t174 ([] : List ByteArray) l1 (l1.length : Int) 0))) = some (r1, r2) := by rw [if_neg (show ¬ (false = true) by decide)] at H; exact H
    clear H
    have H := H1
    clear H1
    replace H := Option.bind_eq_some_iff.mp H
    obtain ⟨t171, A110, H⟩ := H
    replace H : ((spec_l21Stamps.f kj2 l1).bind fun t174 => (spec_StaleBetween.l0 kj2 l0 t171 t174 ([] : List ByteArray) l1 (l1.length : Int) 0)) = some (r1, r2) := H
    have A11 := Aside0.mk A110
    clear A110
    replace H := Option.bind_eq_some_iff.mp H
    obtain ⟨t174, A120, H⟩ := H
    replace H : (spec_StaleBetween.l0 kj2 l0 t171 t174 ([] : List ByteArray) l1 (l1.length : Int) 0) = some (r1, r2) := H
    have A12 := Aside0.mk A120
    clear A120
    have H' := Aside0.mk H
    clear H
    go_wp2_with (first | (go_at_call 15; (with_reducible refine (spec_l21Stamps.calls kj2 _ _ l0 t171 _ ?side1 ?side2 A11.out).mono ?_); (case side1 => exact cU (Kd.C_below HR0.out HB.out)); (case side2 => exact HC0.out); rintro e w13 ⟨v172, rfl, ho0, hb⟩; have HO173 := Aside0.mk (Kd.R_lower ho0 (below_size (lU))); replace HB := bH (lU) hb; (try clear hb); (try clear ho0)) | (go_at_call 15; (with_reducible refine (spec_l21Stamps.calls kj2 _ _ l1 t174 _ ?side1 ?side2 A12.out).mono ?_); (case side1 => exact cU (Kd.C_below HR1.out HB.out)); (case side2 => exact HC1.out); rintro e w14 ⟨v175, rfl, ho0, hb⟩; have HO176 := Aside0.mk (Kd.R_lower (Kd.R_new' ho0 (Kd.R_lt (rU HO173.out))) (below_size (lU))); replace HO173 := Aside0.mk (Kd.R_elder' (rU HO173.out) (Kd.R_base ho0) hb); replace HB := bH (lU) hb; (try clear hb); (try clear ho0)))
    repeat (go_quiet (first | (go_at_call 15; (with_reducible refine (spec_l21Stamps.calls kj2 _ _ l0 t171 _ ?side1 ?side2 A11.out).mono ?_); (case side1 => exact cU (Kd.C_below HR0.out HB.out)); (case side2 => exact HC0.out); rintro e w13 ⟨v172, rfl, ho0, hb⟩; have HO173 := Aside0.mk (Kd.R_lower ho0 (below_size (lU))); replace HB := bH (lU) hb; (try clear hb); (try clear ho0)) | (go_at_call 15; (with_reducible refine (spec_l21Stamps.calls kj2 _ _ l1 t174 _ ?side1 ?side2 A12.out).mono ?_); (case side1 => exact cU (Kd.C_below HR1.out HB.out)); (case side2 => exact HC1.out); rintro e w14 ⟨v175, rfl, ho0, hb⟩; have HO176 := Aside0.mk (Kd.R_lower (Kd.R_new' ho0 (Kd.R_lt (rU HO173.out))) (below_size (lU))); replace HO173 := Aside0.mk (Kd.R_elder' (rU HO173.out) (Kd.R_base ho0) hb); replace HB := bH (lU) hb; (try clear hb); (try clear ho0))); try go_wp2_with (first | (go_at_call 15; (with_reducible refine (spec_l21Stamps.calls kj2 _ _ l0 t171 _ ?side1 ?side2 A11.out).mono ?_); (case side1 => exact cU (Kd.C_below HR0.out HB.out)); (case side2 => exact HC0.out); rintro e w13 ⟨v172, rfl, ho0, hb⟩; have HO173 := Aside0.mk (Kd.R_lower ho0 (below_size (lU))); replace HB := bH (lU) hb; (try clear hb); (try clear ho0)) | (go_at_call 15; (with_reducible refine (spec_l21Stamps.calls kj2 _ _ l1 t174 _ ?side1 ?side2 A12.out).mono ?_); (case side1 => exact cU (Kd.C_below HR1.out HB.out)); (case side2 => exact HC1.out); rintro e w14 ⟨v175, rfl, ho0, hb⟩; have HO176 := Aside0.mk (Kd.R_lower (Kd.R_new' ho0 (Kd.R_lt (rU HO173.out))) (below_size (lU))); replace HO173 := Aside0.mk (Kd.R_elder' (rU HO173.out) (Kd.R_base ho0) hb); replace HB := bH (lU) hb; (try clear hb); (try clear ho0))))
    (try simp only [Act.put, List.setIfInBounds_toArray, List.set_cons_zero, List.set_cons_succ])
    go_loopg [8, 26] kj2 (fun kq v8 v26 w' => ∃ (x8_2 : List ByteArray) (x26_2 : Int), v26 = .int .i64 x26_2 ∧ Aside0 (spec_StaleBetween.l0 kq l0 t171 t174 x8_2 l1 (l1.length : Int) x26_2 = some (r1, r2)) ∧ Aside0 (kq ≤ kj2) ∧ Aside0 (Kd.R (Kd.int .u32) 43 w' w.heap.size (fun k_ => some k_ ≠ (v175 : Value).ownBlock) v172 t171) ∧ Aside0 (Kd.R (Kd.int .u32) 43 w' w.heap.size (fun k_ => some k_ ≠ (v172 : Value).ownBlock) v175 t174) ∧ Aside0 (Kd.R Kd.string 9 w' w.heap.size (fun _ => True) v8 x8_2) ∧ Aside0 (Below w.heap.size w w'))
    case atStart => exact ⟨(([] : List ByteArray)), (0), tE, H', ⟨Nat.le_refl _⟩, ⟨by (with_reducible repeat (first | apply Kd.R_alloc | apply Kd.R_drewN | apply Kd.R_drew)); exact Kd.R_mono HO173.out (fun _ hk => hk.2)⟩, ⟨by (with_reducible repeat (first | apply Kd.R_alloc | apply Kd.R_drewN | apply Kd.R_drew)); exact Kd.R_mono HO176.out (fun _ hk => hk.2)⟩, ⟨by first | exact Kd.R_nil _ _ _ _ _ | exact Kd.N_nil _ _ _ _ _ | exact Kd.V_nil _ _ _ _ _ | exact Kd.Q_nil _ _ _ _ _ | exact Kd.S_nil _ _ _ _ _⟩, ⟨by repeat (first | (with_reducible first | exact HB.out | apply below_alloc | apply pw_below_drewN | apply below_drew1) | exact HB.out)⟩⟩
    case round =>
     clear H'
     try clear c1
     try clear p2
     try clear c5
     try clear c10
     try clear p2
     obtain ⟨x8_2, x26_2, rfl, HA, HK2, HO_6, HO_7, HO_8, HB⟩ := hrel
     cases gk with
     | zero => exact absurd HA.out (by simp [spec_StaleBetween.l0])
     | succ k2 =>
      have H := HA.out
      clear HA
      simp only [spec_StaleBetween.l0] at H
      by_cases c15 : x26_2 < (l1.length : Int)
      ·rw [if_pos c15] at H
       have c15b0 : decide (x26_2 < (l1.length : Int)) = true := decide_eq_true c15
       clear c15
       by_cases c16 : 0 ≤ x26_2
       ·rw [if_pos c16] at H
        have c16b0 : decide (0 ≤ x26_2) = true := decide_eq_true c16
        clear c16
        by_cases c17 : x26_2 < (l1.length : Int)
        ·rw [if_pos c17] at H
         have c17b0 : decide (x26_2 < (l1.length : Int)) = true := decide_eq_true c17
         clear c17
         replace H := Option.bind_eq_some_iff.mp H
         obtain ⟨t179, A180, H⟩ := H
         replace H : (if t179 < 0 then (if x8_2.length < 8796093022208 then (spec_StaleBetween.l0 k2 l0 t171 t174 (x8_2 ++ [(rd_T41 l1 x26_2).f0]) l1 (l1.length : Int) (wrap64 (x26_2 + 1))) else (none)) else (if 0 ≤ t179 then (if t179 < (t171.length : Int) then (if x26_2 < (t174.length : Int) then (if (rd t171 t179) = (rd t174 x26_2) then (spec_StaleBetween.l0 k2 l0 t171 t174 x8_2 l1 (l1.length : Int) (wrap64 (x26_2 + 1))) else (if x8_2.length < 8796093022208 then (spec_StaleBetween.l0 k2 l0 t171 t174 (x8_2 ++ [(rd_T41 l1 x26_2).f0]) l1 (l1.length : Int) (wrap64 (x26_2 + 1))) else (none))) else (none)) else (none)) else (none))) = some (r1, r2) := H
         have A18 := Aside0.mk A180
         clear A180
         by_cases c19 : t179 < 0
         ·rw [if_pos c19] at H
          have c19b0 : decide (t179 < 0) = true := decide_eq_true c19
          clear c19
          by_cases c20 : x8_2.length < 8796093022208
          ·rw [if_pos c20] at H
           have LMc20 := Aside0.mk c20
           clear c20
           obtain ⟨y180, hy180⟩ : ∃ y_ : List ByteArray, y_ = (x8_2 ++ [(rd_T41 l1 x26_2).f0]) := ⟨_, rfl⟩
           replace H : (spec_StaleBetween.l0 k2 l0 t171 t174 y180 l1 (l1.length : Int) (wrap64 (x26_2 + 1))) = some (r1, r2) := by first | (rw [hy180]; with_reducible exact H) | (have H2_ := (Option.bind_some _ _).symm.trans H; rw [hy180]; with_reducible exact H2_) | (have H2_ := (Option.bind_some _ _).symm.trans H; with_reducible exact H2_) | with_reducible exact H | (rw [hy180]; exact H) | exact H
           have Ny180 := Aside0.mk hy180
           clear hy180
           have H' := Aside0.mk H
           clear H
           have p177 : 0 ≤ (x26_2 : Int) := of_decide_eq_true hE
           have q177 : x26_2 < (l1.length : Int) := of_decide_eq_true hE
           obtain ⟨ad177, A177_1, c177_1, A177_2, c177_2, e177, hx177_0, hx177_1, hx177_2, hl177_1, hi177_1, hl177_2, hi177_2⟩ := at_T41 HR1.out x26_2 p177 q177
           cases e177
           replace hx177_0 := (HB.out.cell (World.block_lt_of_cell? w _ hx177_0)).trans hx177_0
           replace hx177_1 := (HB.out.cell (World.block_lt_of_cell? w _ hx177_1)).trans hx177_1
           replace hx177_2 := (HB.out.cell (World.block_lt_of_cell? w _ hx177_2)).trans hx177_2
           have HR177_1 := Aside0.mk hi177_1
           have HC177_1 := Aside0.mk hl177_1
           clear hi177_1 hl177_1
           have HR177_2 := Aside0.mk hi177_2
           have HC177_2 := Aside0.mk hl177_2
           clear hi177_2 hl177_2
           replace p177 := eq_true p177
           replace q177 := eq_true q177
           go_wp2_with (first | ((with_reducible refine gate_dst (N := 10) rfl ?_); refine box_event rfl (N := 10) rfl (cs := #[.string (⟨#[]⟩ : ByteArray), .slice none 0 0, .slice none 0 0]) (t := 41) sE ?_; intro gb178 hg w21 hbox hb; replace HO_6 := Aside0.mk (Kd.R_below (rU HO_6.out) hb); replace HO_7 := Aside0.mk (Kd.R_below (rU HO_7.out) hb); replace HO_8 := Aside0.mk (Kd.R_below (rU HO_8.out) hb); have BK178 := Aside0.mk hbox; have GW178 := gS w hg (lU); have GE178 := gS w hg (lU); replace HB := bH (lU) hb; clear hb hbox hg; have hcz22_0 := cz BK178 0 (.string (⟨#[]⟩ : ByteArray)); have hcz22_1 := cz BK178 1 (.slice none 0 0); have hcz22_2 := cz BK178 2 (.slice none 0 0); have hfz22_0 := fz BK178 0; have hfz22_1 := fz BK178 1; have hfz22_2 := fz BK178 2) | ((with_reducible refine gate_store (t := 41) (p := 10) rfl ?_); (try (rw [drewN_self w21]; generalize hq_ : World.drewN w21 _ = w21; replace HO_6 := Aside0.mk (Kd.R_at hq_ HO_6.out); replace HO_7 := Aside0.mk (Kd.R_at hq_ HO_7.out); replace HO_8 := Aside0.mk (Kd.R_at hq_ HO_8.out); replace BK178 := Aside0.mk (blk_at hq_ BK178.out); replace HB := Aside0.mk (below_at hq_ HB.out); clear hq_)); refine store_event (t := 41) (p := 10) (v := ?vo_w23) (w1 := (((w21.setCell ⟨gb178, 0, none⟩ (.string ((rd_T41 l1 x26_2).f0))).setCell ⟨gb178, 1, none⟩ (.slice A177_1 ((rd_T41 l1 x26_2).f1).length c177_1)).setCell ⟨gb178, 2, none⟩ (.slice A177_2 ((rd_T41 l1 x26_2).f2).length c177_2))) ?hg ?ho ?hn ?hr ?_; (case ho => rfl); (case hg => rfl); (case hn => rfl); (case hr => first | (go_simp; done) | (go_simp; rfl) | (have hq0_ := (blk_cell BK178.out 0).trans (show _ = some _ from rfl); have hf0_ := blk_frozen BK178.out 0; have hq1_ := (blk_cell BK178.out 1).trans (show _ = some _ from rfl); have hf1_ := blk_frozen BK178.out 1; have hq2_ := (blk_cell BK178.out 2).trans (show _ = some _ from rfl); have hf2_ := blk_frozen BK178.out 2; first | (go_simp; done) | (go_simp; rfl))); intro w23 hw; replace HO_6 : Aside0 (Kd.R (Kd.int .u32) 43 w23 w.heap.size (fun k_ => some k_ ≠ (v175 : Value).ownBlock) v172 t171) := ⟨(by rw [hw]; exact (by (with_reducible repeat (first | apply Kd.R_alloc | apply Kd.R_drewN | apply Kd.R_drew)); exact Kd.R_mono (Kd.R_far (p := ⟨gb178, 2, none⟩) (Kd.R_far (p := ⟨gb178, 1, none⟩) (Kd.R_far (p := ⟨gb178, 0, none⟩) (Kd.R_types HO_6.out BK178.out (by decide)) (fun _ hk => hk.2) (.string ((rd_T41 l1 x26_2).f0))) (fun _ hk => hk.2) (.slice A177_1 ((rd_T41 l1 x26_2).f1).length c177_1)) (fun _ hk => hk.2) (.slice A177_2 ((rd_T41 l1 x26_2).f2).length c177_2)) (fun _ hk => hk.1)))⟩; replace HO_7 : Aside0 (Kd.R (Kd.int .u32) 43 w23 w.heap.size (fun k_ => some k_ ≠ (v172 : Value).ownBlock) v175 t174) := ⟨(by rw [hw]; exact (by (with_reducible repeat (first | apply Kd.R_alloc | apply Kd.R_drewN | apply Kd.R_drew)); exact Kd.R_mono (Kd.R_far (p := ⟨gb178, 2, none⟩) (Kd.R_far (p := ⟨gb178, 1, none⟩) (Kd.R_far (p := ⟨gb178, 0, none⟩) (Kd.R_types HO_7.out BK178.out (by decide)) (fun _ hk => hk.2) (.string ((rd_T41 l1 x26_2).f0))) (fun _ hk => hk.2) (.slice A177_1 ((rd_T41 l1 x26_2).f1).length c177_1)) (fun _ hk => hk.2) (.slice A177_2 ((rd_T41 l1 x26_2).f2).length c177_2)) (fun _ hk => hk.1)))⟩; replace HO_8 : Aside0 (Kd.R Kd.string 9 w23 w.heap.size (fun _ => True) u8 x8_2) := ⟨(by rw [hw]; exact (by (with_reducible repeat (first | apply Kd.R_alloc | apply Kd.R_drewN | apply Kd.R_drew)); exact Kd.R_mono (Kd.R_far (p := ⟨gb178, 2, none⟩) (Kd.R_far (p := ⟨gb178, 1, none⟩) (Kd.R_far (p := ⟨gb178, 0, none⟩) (Kd.R_types HO_8.out BK178.out (by decide)) (fun _ hk => hk.2) (.string ((rd_T41 l1 x26_2).f0))) (fun _ hk => hk.2) (.slice A177_1 ((rd_T41 l1 x26_2).f1).length c177_1)) (fun _ hk => hk.2) (.slice A177_2 ((rd_T41 l1 x26_2).f2).length c177_2)) (fun _ hk => trivial)))⟩; replace BK178 : Aside0 (w23.heap[gb178]? = some (.cells #[.string ((rd_T41 l1 x26_2).f0), .slice A177_1 ((rd_T41 l1 x26_2).f1).length c177_1, .slice A177_2 ((rd_T41 l1 x26_2).f2).length c177_2] 41 (0, 0))) := ⟨(by rw [hw]; exact (by refine bU ?_; refine blk_put (cs := #[.string ((rd_T41 l1 x26_2).f0), .slice A177_1 ((rd_T41 l1 x26_2).f1).length c177_1, .slice none 0 0]) ?_ 2 _ rfl; refine bU ?_; refine blk_put (cs := #[.string ((rd_T41 l1 x26_2).f0), .slice none 0 0, .slice none 0 0]) ?_ 1 _ rfl; refine bU ?_; refine blk_put (cs := #[.string (⟨#[]⟩ : ByteArray), .slice none 0 0, .slice none 0 0]) ?_ 0 _ rfl; refine bU ?_; exact BK178.out))⟩; replace HB : Aside0 (Below w.heap.size w w23) := ⟨(by rw [hw]; exact (lV1 GE178))⟩; clear hw; have hcz24_0 := cz BK178 0 (.string ((rd_T41 l1 x26_2).f0)); have hcz24_1 := cz BK178 1 (.slice A177_1 ((rd_T41 l1 x26_2).f1).length c177_1); have hcz24_2 := cz BK178 2 (.slice A177_2 ((rd_T41 l1 x26_2).f2).length c177_2); have hfz24_0 := fz BK178 0; have hfz24_1 := fz BK178 1; have hfz24_2 := fz BK178 2) | (go_at_call 16; (with_reducible refine (spec_l21At.calls k2 _ _ l0 ((rd_T41 l1 x26_2).f0) t179 _ ?side1 ?side2 A18.out).mono ?_); (case side1 => exact cU (Kd.C_below HR0.out HB.out)); (case side2 => exact HC0.out); rintro e w25 ⟨rfl, hb⟩; replace HO_6 := Aside0.mk (Kd.R_below (rU HO_6.out) hb); replace HO_7 := Aside0.mk (Kd.R_below (rU HO_7.out) hb); replace HO_8 := Aside0.mk (Kd.R_below (rU HO_8.out) hb); replace BK178 := bB (bV BK178) hb; replace HB := bH (lV1 GE178) hb; (try clear hb); have hcz26_0 := cz BK178 0 (.string ((rd_T41 l1 x26_2).f0)); have hcz26_1 := cz BK178 1 (.slice A177_1 ((rd_T41 l1 x26_2).f1).length c177_1); have hcz26_2 := cz BK178 2 (.slice A177_2 ((rd_T41 l1 x26_2).f2).length c177_2); have hfz26_0 := fz BK178 0; have hfz26_1 := fz BK178 1; have hfz26_2 := fz BK178 2) | ((with_reducible refine gate_builtin (b := .append) (xs := #[.tmp 48, .tmp 51]) rfl ?_); at_builtin; refine Kd.R_append Kd.string (w0 := w) w.heap.size rfl (.tmp 48) (.tmp 51) 24 9 (.string ⟨#[]⟩) 16 rfl Try.underlying24 info9 rfl (by decide) (by omega) u8 x8_2 ((rd_T41 l1 x26_2).f0) [.string ((rd_T41 l1 x26_2).f0)] (fun _ => True) (fun _ => False) rfl rfl ?aP (fun _ hk => hk.elim) ?aF ?aO ?aB ?aS ?aL ?_; (case aP => exact rfl); (case aB => exact (lV1 GE178)); (case aF => exact (fun _ _ => trivial)); (case aO => exact (rU HO_8.out)); (case aS => exact (below_size (lV1 GE178))); (case aL => have := LMc20.out; omega); intro v181 w27 ho hb hg hat; rw [← Ny180.out] at ho; replace HO_6 := Aside0.mk (Kd.R_over' (rU HO_6.out) (Kd.R_typed (rU HO_8.out)) (by decide) hg); replace HO_7 := Aside0.mk (Kd.R_over' (rU HO_7.out) (Kd.R_typed (rU HO_8.out)) (by decide) hg); replace BK178 := Aside0.mk (blk_grown (g := gb178) (o := .cells #[.string ((rd_T41 l1 x26_2).f0), .slice A177_1 ((rd_T41 l1 x26_2).f1).length c177_1, .slice A177_2 ((rd_T41 l1 x26_2).f2).length c177_2] 41 (0, 0)) (bV BK178) hg (Kd.R_ne HO_8.out BK178.out (by decide))); replace HB := Aside0.mk hb; have HO182 := Aside0.mk ho; clear HO_8; clear ho hb hg hat))
           repeat (go_quiet (first | ((with_reducible refine gate_dst (N := 10) rfl ?_); refine box_event rfl (N := 10) rfl (cs := #[.string (⟨#[]⟩ : ByteArray), .slice none 0 0, .slice none 0 0]) (t := 41) sE ?_; intro gb178 hg w21 hbox hb; replace HO_6 := Aside0.mk (Kd.R_below (rU HO_6.out) hb); replace HO_7 := Aside0.mk (Kd.R_below (rU HO_7.out) hb); replace HO_8 := Aside0.mk (Kd.R_below (rU HO_8.out) hb); have BK178 := Aside0.mk hbox; have GW178 := gS w hg (lU); have GE178 := gS w hg (lU); replace HB := bH (lU) hb; clear hb hbox hg; have hcz22_0 := cz BK178 0 (.string (⟨#[]⟩ : ByteArray)); have hcz22_1 := cz BK178 1 (.slice none 0 0); have hcz22_2 := cz BK178 2 (.slice none 0 0); have hfz22_0 := fz BK178 0; have hfz22_1 := fz BK178 1; have hfz22_2 := fz BK178 2) | ((with_reducible refine gate_store (t := 41) (p := 10) rfl ?_); (try (rw [drewN_self w21]; generalize hq_ : World.drewN w21 _ = w21; replace HO_6 := Aside0.mk (Kd.R_at hq_ HO_6.out); replace HO_7 := Aside0.mk (Kd.R_at hq_ HO_7.out); replace HO_8 := Aside0.mk (Kd.R_at hq_ HO_8.out); replace BK178 := Aside0.mk (blk_at hq_ BK178.out); replace HB := Aside0.mk (below_at hq_ HB.out); clear hq_)); refine store_event (t := 41) (p := 10) (v := ?vo_w23) (w1 := (((w21.setCell ⟨gb178, 0, none⟩ (.string ((rd_T41 l1 x26_2).f0))).setCell ⟨gb178, 1, none⟩ (.slice A177_1 ((rd_T41 l1 x26_2).f1).length c177_1)).setCell ⟨gb178, 2, none⟩ (.slice A177_2 ((rd_T41 l1 x26_2).f2).length c177_2))) ?hg ?ho ?hn ?hr ?_; (case ho => rfl); (case hg => rfl); (case hn => rfl); (case hr => first | (go_simp; done) | (go_simp; rfl) | (have hq0_ := (blk_cell BK178.out 0).trans (show _ = some _ from rfl); have hf0_ := blk_frozen BK178.out 0; have hq1_ := (blk_cell BK178.out 1).trans (show _ = some _ from rfl); have hf1_ := blk_frozen BK178.out 1; have hq2_ := (blk_cell BK178.out 2).trans (show _ = some _ from rfl); have hf2_ := blk_frozen BK178.out 2; first | (go_simp; done) | (go_simp; rfl))); intro w23 hw; replace HO_6 : Aside0 (Kd.R (Kd.int .u32) 43 w23 w.heap.size (fun k_ => some k_ ≠ (v175 : Value).ownBlock) v172 t171) := ⟨(by rw [hw]; exact (by (with_reducible repeat (first | apply Kd.R_alloc | apply Kd.R_drewN | apply Kd.R_drew)); exact Kd.R_mono (Kd.R_far (p := ⟨gb178, 2, none⟩) (Kd.R_far (p := ⟨gb178, 1, none⟩) (Kd.R_far (p := ⟨gb178, 0, none⟩) (Kd.R_types HO_6.out BK178.out (by decide)) (fun _ hk => hk.2) (.string ((rd_T41 l1 x26_2).f0))) (fun _ hk => hk.2) (.slice A177_1 ((rd_T41 l1 x26_2).f1).length c177_1)) (fun _ hk => hk.2) (.slice A177_2 ((rd_T41 l1 x26_2).f2).length c177_2)) (fun _ hk => hk.1)))⟩; replace HO_7 : Aside0 (Kd.R (Kd.int .u32) 43 w23 w.heap.size (fun k_ => some k_ ≠ (v172 : Value).ownBlock) v175 t174) := ⟨(by rw [hw]; exact (by (with_reducible repeat (first | apply Kd.R_alloc | apply Kd.R_drewN | apply Kd.R_drew)); exact Kd.R_mono (Kd.R_far (p := ⟨gb178, 2, none⟩) (Kd.R_far (p := ⟨gb178, 1, none⟩) (Kd.R_far (p := ⟨gb178, 0, none⟩) (Kd.R_types HO_7.out BK178.out (by decide)) (fun _ hk => hk.2) (.string ((rd_T41 l1 x26_2).f0))) (fun _ hk => hk.2) (.slice A177_1 ((rd_T41 l1 x26_2).f1).length c177_1)) (fun _ hk => hk.2) (.slice A177_2 ((rd_T41 l1 x26_2).f2).length c177_2)) (fun _ hk => hk.1)))⟩; replace HO_8 : Aside0 (Kd.R Kd.string 9 w23 w.heap.size (fun _ => True) u8 x8_2) := ⟨(by rw [hw]; exact (by (with_reducible repeat (first | apply Kd.R_alloc | apply Kd.R_drewN | apply Kd.R_drew)); exact Kd.R_mono (Kd.R_far (p := ⟨gb178, 2, none⟩) (Kd.R_far (p := ⟨gb178, 1, none⟩) (Kd.R_far (p := ⟨gb178, 0, none⟩) (Kd.R_types HO_8.out BK178.out (by decide)) (fun _ hk => hk.2) (.string ((rd_T41 l1 x26_2).f0))) (fun _ hk => hk.2) (.slice A177_1 ((rd_T41 l1 x26_2).f1).length c177_1)) (fun _ hk => hk.2) (.slice A177_2 ((rd_T41 l1 x26_2).f2).length c177_2)) (fun _ hk => trivial)))⟩; replace BK178 : Aside0 (w23.heap[gb178]? = some (.cells #[.string ((rd_T41 l1 x26_2).f0), .slice A177_1 ((rd_T41 l1 x26_2).f1).length c177_1, .slice A177_2 ((rd_T41 l1 x26_2).f2).length c177_2] 41 (0, 0))) := ⟨(by rw [hw]; exact (by refine bU ?_; refine blk_put (cs := #[.string ((rd_T41 l1 x26_2).f0), .slice A177_1 ((rd_T41 l1 x26_2).f1).length c177_1, .slice none 0 0]) ?_ 2 _ rfl; refine bU ?_; refine blk_put (cs := #[.string ((rd_T41 l1 x26_2).f0), .slice none 0 0, .slice none 0 0]) ?_ 1 _ rfl; refine bU ?_; refine blk_put (cs := #[.string (⟨#[]⟩ : ByteArray), .slice none 0 0, .slice none 0 0]) ?_ 0 _ rfl; refine bU ?_; exact BK178.out))⟩; replace HB : Aside0 (Below w.heap.size w w23) := ⟨(by rw [hw]; exact (lV1 GE178))⟩; clear hw; have hcz24_0 := cz BK178 0 (.string ((rd_T41 l1 x26_2).f0)); have hcz24_1 := cz BK178 1 (.slice A177_1 ((rd_T41 l1 x26_2).f1).length c177_1); have hcz24_2 := cz BK178 2 (.slice A177_2 ((rd_T41 l1 x26_2).f2).length c177_2); have hfz24_0 := fz BK178 0; have hfz24_1 := fz BK178 1; have hfz24_2 := fz BK178 2) | (go_at_call 16; (with_reducible refine (spec_l21At.calls k2 _ _ l0 ((rd_T41 l1 x26_2).f0) t179 _ ?side1 ?side2 A18.out).mono ?_); (case side1 => exact cU (Kd.C_below HR0.out HB.out)); (case side2 => exact HC0.out); rintro e w25 ⟨rfl, hb⟩; replace HO_6 := Aside0.mk (Kd.R_below (rU HO_6.out) hb); replace HO_7 := Aside0.mk (Kd.R_below (rU HO_7.out) hb); replace HO_8 := Aside0.mk (Kd.R_below (rU HO_8.out) hb); replace BK178 := bB (bV BK178) hb; replace HB := bH (lV1 GE178) hb; (try clear hb); have hcz26_0 := cz BK178 0 (.string ((rd_T41 l1 x26_2).f0)); have hcz26_1 := cz BK178 1 (.slice A177_1 ((rd_T41 l1 x26_2).f1).length c177_1); have hcz26_2 := cz BK178 2 (.slice A177_2 ((rd_T41 l1 x26_2).f2).length c177_2); have hfz26_0 := fz BK178 0; have hfz26_1 := fz BK178 1; have hfz26_2 := fz BK178 2) | ((with_reducible refine gate_builtin (b := .append) (xs := #[.tmp 48, .tmp 51]) rfl ?_); at_builtin; refine Kd.R_append Kd.string (w0 := w) w.heap.size rfl (.tmp 48) (.tmp 51) 24 9 (.string ⟨#[]⟩) 16 rfl Try.underlying24 info9 rfl (by decide) (by omega) u8 x8_2 ((rd_T41 l1 x26_2).f0) [.string ((rd_T41 l1 x26_2).f0)] (fun _ => True) (fun _ => False) rfl rfl ?aP (fun _ hk => hk.elim) ?aF ?aO ?aB ?aS ?aL ?_; (case aP => exact rfl); (case aB => exact (lV1 GE178)); (case aF => exact (fun _ _ => trivial)); (case aO => exact (rU HO_8.out)); (case aS => exact (below_size (lV1 GE178))); (case aL => have := LMc20.out; omega); intro v181 w27 ho hb hg hat; rw [← Ny180.out] at ho; replace HO_6 := Aside0.mk (Kd.R_over' (rU HO_6.out) (Kd.R_typed (rU HO_8.out)) (by decide) hg); replace HO_7 := Aside0.mk (Kd.R_over' (rU HO_7.out) (Kd.R_typed (rU HO_8.out)) (by decide) hg); replace BK178 := Aside0.mk (blk_grown (g := gb178) (o := .cells #[.string ((rd_T41 l1 x26_2).f0), .slice A177_1 ((rd_T41 l1 x26_2).f1).length c177_1, .slice A177_2 ((rd_T41 l1 x26_2).f2).length c177_2] 41 (0, 0)) (bV BK178) hg (Kd.R_ne HO_8.out BK178.out (by decide))); replace HB := Aside0.mk hb; have HO182 := Aside0.mk ho; clear HO_8; clear ho hb hg hat)); try go_wp2_with (first | ((with_reducible refine gate_dst (N := 10) rfl ?_); refine box_event rfl (N := 10) rfl (cs := #[.string (⟨#[]⟩ : ByteArray), .slice none 0 0, .slice none 0 0]) (t := 41) sE ?_; intro gb178 hg w21 hbox hb; replace HO_6 := Aside0.mk (Kd.R_below (rU HO_6.out) hb); replace HO_7 := Aside0.mk (Kd.R_below (rU HO_7.out) hb); replace HO_8 := Aside0.mk (Kd.R_below (rU HO_8.out) hb); have BK178 := Aside0.mk hbox; have GW178 := gS w hg (lU); have GE178 := gS w hg (lU); replace HB := bH (lU) hb; clear hb hbox hg; have hcz22_0 := cz BK178 0 (.string (⟨#[]⟩ : ByteArray)); have hcz22_1 := cz BK178 1 (.slice none 0 0); have hcz22_2 := cz BK178 2 (.slice none 0 0); have hfz22_0 := fz BK178 0; have hfz22_1 := fz BK178 1; have hfz22_2 := fz BK178 2) | ((with_reducible refine gate_store (t := 41) (p := 10) rfl ?_); (try (rw [drewN_self w21]; generalize hq_ : World.drewN w21 _ = w21; replace HO_6 := Aside0.mk (Kd.R_at hq_ HO_6.out); replace HO_7 := Aside0.mk (Kd.R_at hq_ HO_7.out); replace HO_8 := Aside0.mk (Kd.R_at hq_ HO_8.out); replace BK178 := Aside0.mk (blk_at hq_ BK178.out); replace HB := Aside0.mk (below_at hq_ HB.out); clear hq_)); refine store_event (t := 41) (p := 10) (v := ?vo_w23) (w1 := (((w21.setCell ⟨gb178, 0, none⟩ (.string ((rd_T41 l1 x26_2).f0))).setCell ⟨gb178, 1, none⟩ (.slice A177_1 ((rd_T41 l1 x26_2).f1).length c177_1)).setCell ⟨gb178, 2, none⟩ (.slice A177_2 ((rd_T41 l1 x26_2).f2).length c177_2))) ?hg ?ho ?hn ?hr ?_; (case ho => rfl); (case hg => rfl); (case hn => rfl); (case hr => first | (go_simp; done) | (go_simp; rfl) | (have hq0_ := (blk_cell BK178.out 0).trans (show _ = some _ from rfl); have hf0_ := blk_frozen BK178.out 0; have hq1_ := (blk_cell BK178.out 1).trans (show _ = some _ from rfl); have hf1_ := blk_frozen BK178.out 1; have hq2_ := (blk_cell BK178.out 2).trans (show _ = some _ from rfl); have hf2_ := blk_frozen BK178.out 2; first | (go_simp; done) | (go_simp; rfl))); intro w23 hw; replace HO_6 : Aside0 (Kd.R (Kd.int .u32) 43 w23 w.heap.size (fun k_ => some k_ ≠ (v175 : Value).ownBlock) v172 t171) := ⟨(by rw [hw]; exact (by (with_reducible repeat (first | apply Kd.R_alloc | apply Kd.R_drewN | apply Kd.R_drew)); exact Kd.R_mono (Kd.R_far (p := ⟨gb178, 2, none⟩) (Kd.R_far (p := ⟨gb178, 1, none⟩) (Kd.R_far (p := ⟨gb178, 0, none⟩) (Kd.R_types HO_6.out BK178.out (by decide)) (fun _ hk => hk.2) (.string ((rd_T41 l1 x26_2).f0))) (fun _ hk => hk.2) (.slice A177_1 ((rd_T41 l1 x26_2).f1).length c177_1)) (fun _ hk => hk.2) (.slice A177_2 ((rd_T41 l1 x26_2).f2).length c177_2)) (fun _ hk => hk.1)))⟩; replace HO_7 : Aside0 (Kd.R (Kd.int .u32) 43 w23 w.heap.size (fun k_ => some k_ ≠ (v172 : Value).ownBlock) v175 t174) := ⟨(by rw [hw]; exact (by (with_reducible repeat (first | apply Kd.R_alloc | apply Kd.R_drewN | apply Kd.R_drew)); exact Kd.R_mono (Kd.R_far (p := ⟨gb178, 2, none⟩) (Kd.R_far (p := ⟨gb178, 1, none⟩) (Kd.R_far (p := ⟨gb178, 0, none⟩) (Kd.R_types HO_7.out BK178.out (by decide)) (fun _ hk => hk.2) (.string ((rd_T41 l1 x26_2).f0))) (fun _ hk => hk.2) (.slice A177_1 ((rd_T41 l1 x26_2).f1).length c177_1)) (fun _ hk => hk.2) (.slice A177_2 ((rd_T41 l1 x26_2).f2).length c177_2)) (fun _ hk => hk.1)))⟩; replace HO_8 : Aside0 (Kd.R Kd.string 9 w23 w.heap.size (fun _ => True) u8 x8_2) := ⟨(by rw [hw]; exact (by (with_reducible repeat (first | apply Kd.R_alloc | apply Kd.R_drewN | apply Kd.R_drew)); exact Kd.R_mono (Kd.R_far (p := ⟨gb178, 2, none⟩) (Kd.R_far (p := ⟨gb178, 1, none⟩) (Kd.R_far (p := ⟨gb178, 0, none⟩) (Kd.R_types HO_8.out BK178.out (by decide)) (fun _ hk => hk.2) (.string ((rd_T41 l1 x26_2).f0))) (fun _ hk => hk.2) (.slice A177_1 ((rd_T41 l1 x26_2).f1).length c177_1)) (fun _ hk => hk.2) (.slice A177_2 ((rd_T41 l1 x26_2).f2).length c177_2)) (fun _ hk => trivial)))⟩; replace BK178 : Aside0 (w23.heap[gb178]? = some (.cells #[.string ((rd_T41 l1 x26_2).f0), .slice A177_1 ((rd_T41 l1 x26_2).f1).length c177_1, .slice A177_2 ((rd_T41 l1 x26_2).f2).length c177_2] 41 (0, 0))) := ⟨(by rw [hw]; exact (by refine bU ?_; refine blk_put (cs := #[.string ((rd_T41 l1 x26_2).f0), .slice A177_1 ((rd_T41 l1 x26_2).f1).length c177_1, .slice none 0 0]) ?_ 2 _ rfl; refine bU ?_; refine blk_put (cs := #[.string ((rd_T41 l1 x26_2).f0), .slice none 0 0, .slice none 0 0]) ?_ 1 _ rfl; refine bU ?_; refine blk_put (cs := #[.string (⟨#[]⟩ : ByteArray), .slice none 0 0, .slice none 0 0]) ?_ 0 _ rfl; refine bU ?_; exact BK178.out))⟩; replace HB : Aside0 (Below w.heap.size w w23) := ⟨(by rw [hw]; exact (lV1 GE178))⟩; clear hw; have hcz24_0 := cz BK178 0 (.string ((rd_T41 l1 x26_2).f0)); have hcz24_1 := cz BK178 1 (.slice A177_1 ((rd_T41 l1 x26_2).f1).length c177_1); have hcz24_2 := cz BK178 2 (.slice A177_2 ((rd_T41 l1 x26_2).f2).length c177_2); have hfz24_0 := fz BK178 0; have hfz24_1 := fz BK178 1; have hfz24_2 := fz BK178 2) | (go_at_call 16; (with_reducible refine (spec_l21At.calls k2 _ _ l0 ((rd_T41 l1 x26_2).f0) t179 _ ?side1 ?side2 A18.out).mono ?_); (case side1 => exact cU (Kd.C_below HR0.out HB.out)); (case side2 => exact HC0.out); rintro e w25 ⟨rfl, hb⟩; replace HO_6 := Aside0.mk (Kd.R_below (rU HO_6.out) hb); replace HO_7 := Aside0.mk (Kd.R_below (rU HO_7.out) hb); replace HO_8 := Aside0.mk (Kd.R_below (rU HO_8.out) hb); replace BK178 := bB (bV BK178) hb; replace HB := bH (lV1 GE178) hb; (try clear hb); have hcz26_0 := cz BK178 0 (.string ((rd_T41 l1 x26_2).f0)); have hcz26_1 := cz BK178 1 (.slice A177_1 ((rd_T41 l1 x26_2).f1).length c177_1); have hcz26_2 := cz BK178 2 (.slice A177_2 ((rd_T41 l1 x26_2).f2).length c177_2); have hfz26_0 := fz BK178 0; have hfz26_1 := fz BK178 1; have hfz26_2 := fz BK178 2) | ((with_reducible refine gate_builtin (b := .append) (xs := #[.tmp 48, .tmp 51]) rfl ?_); at_builtin; refine Kd.R_append Kd.string (w0 := w) w.heap.size rfl (.tmp 48) (.tmp 51) 24 9 (.string ⟨#[]⟩) 16 rfl Try.underlying24 info9 rfl (by decide) (by omega) u8 x8_2 ((rd_T41 l1 x26_2).f0) [.string ((rd_T41 l1 x26_2).f0)] (fun _ => True) (fun _ => False) rfl rfl ?aP (fun _ hk => hk.elim) ?aF ?aO ?aB ?aS ?aL ?_; (case aP => exact rfl); (case aB => exact (lV1 GE178)); (case aF => exact (fun _ _ => trivial)); (case aO => exact (rU HO_8.out)); (case aS => exact (below_size (lV1 GE178))); (case aL => have := LMc20.out; omega); intro v181 w27 ho hb hg hat; rw [← Ny180.out] at ho; replace HO_6 := Aside0.mk (Kd.R_over' (rU HO_6.out) (Kd.R_typed (rU HO_8.out)) (by decide) hg); replace HO_7 := Aside0.mk (Kd.R_over' (rU HO_7.out) (Kd.R_typed (rU HO_8.out)) (by decide) hg); replace BK178 := Aside0.mk (blk_grown (g := gb178) (o := .cells #[.string ((rd_T41 l1 x26_2).f0), .slice A177_1 ((rd_T41 l1 x26_2).f1).length c177_1, .slice A177_2 ((rd_T41 l1 x26_2).f2).length c177_2] 41 (0, 0)) (bV BK178) hg (Kd.R_ne HO_8.out BK178.out (by decide))); replace HB := Aside0.mk hb; have HO182 := Aside0.mk ho; clear HO_8; clear ho hb hg hat)))
           go_roundg k2
           case measure => have := HJ2.out; have := HK2.out; omega
           case rel => exact ⟨(y180), (wrap64 (x26_2 + 1)), tE, H', ⟨by have := HJ2.out; have := HK2.out; omega⟩, ⟨by (with_reducible repeat (first | apply Kd.R_alloc | apply Kd.R_drewN | apply Kd.R_drew)); exact HO_6.out⟩, ⟨by (with_reducible repeat (first | apply Kd.R_alloc | apply Kd.R_drewN | apply Kd.R_drew)); exact HO_7.out⟩, ⟨by (with_reducible repeat (first | apply Kd.R_alloc | apply Kd.R_drewN | apply Kd.R_drew)); exact HO182.out⟩, ⟨by repeat (first | (with_reducible first | exact HB.out | apply below_alloc | apply pw_below_drewN | apply below_drew1 | refine below_set ?_ GE178.out) | exact HB.out)⟩⟩
          ·rw [if_neg c20] at H
           exact absurd H (by simp)
         ·rw [if_neg c19] at H
          have c19b0 : decide (t179 < 0) = false := decide_eq_false c19
          clear c19
          by_cases c28 : 0 ≤ t179
          ·rw [if_pos c28] at H
           have c28b0 : decide (0 ≤ t179) = true := decide_eq_true c28
           clear c28
           by_cases c29 : t179 < (t171.length : Int)
           ·rw [if_pos c29] at H
            have c29b0 : decide (t179 < (t171.length : Int)) = true := decide_eq_true c29
            clear c29
            by_cases c30 : x26_2 < (t174.length : Int)
            ·rw [if_pos c30] at H
             have c30b0 : decide (x26_2 < (t174.length : Int)) = true := decide_eq_true c30
             clear c30
             by_cases c31 : (rd t171 t179) = (rd t174 x26_2)
             ·rw [if_pos c31] at H
              have c31b0 : ((rd t171 t179) == (rd t174 x26_2)) = true := beq_iff_eq.mpr c31
              have c31b1 : ((rd t171 t179) != (rd t174 x26_2)) = false := bne_eq_false_iff_eq.mpr c31
              clear c31
              have H' := Aside0.mk H
              clear H
              have p177 : 0 ≤ (x26_2 : Int) := of_decide_eq_true hE
              have q177 : x26_2 < (l1.length : Int) := of_decide_eq_true hE
              obtain ⟨ad177, A177_1, c177_1, A177_2, c177_2, e177, hx177_0, hx177_1, hx177_2, hl177_1, hi177_1, hl177_2, hi177_2⟩ := at_T41 HR1.out x26_2 p177 q177
              cases e177
              replace hx177_0 := (HB.out.cell (World.block_lt_of_cell? w _ hx177_0)).trans hx177_0
              replace hx177_1 := (HB.out.cell (World.block_lt_of_cell? w _ hx177_1)).trans hx177_1
              replace hx177_2 := (HB.out.cell (World.block_lt_of_cell? w _ hx177_2)).trans hx177_2
              have HR177_1 := Aside0.mk hi177_1
              have HC177_1 := Aside0.mk hl177_1
              clear hi177_1 hl177_1
              have HR177_2 := Aside0.mk hi177_2
              have HC177_2 := Aside0.mk hl177_2
              clear hi177_2 hl177_2
              replace p177 := eq_true p177
              replace q177 := eq_true q177
              go_wp2_with (first | ((with_reducible refine gate_dst (N := 10) rfl ?_); refine box_event rfl (N := 10) rfl (cs := #[.string (⟨#[]⟩ : ByteArray), .slice none 0 0, .slice none 0 0]) (t := 41) sE ?_; intro gb178 hg w32 hbox hb; replace HO_6 := Aside0.mk (Kd.R_below (rU HO_6.out) hb); replace HO_7 := Aside0.mk (Kd.R_below (rU HO_7.out) hb); replace HO_8 := Aside0.mk (Kd.R_below (rU HO_8.out) hb); have BK178 := Aside0.mk hbox; have GW178 := gS w hg (lU); have GE178 := gS w hg (lU); replace HB := bH (lU) hb; clear hb hbox hg; have hcz33_0 := cz BK178 0 (.string (⟨#[]⟩ : ByteArray)); have hcz33_1 := cz BK178 1 (.slice none 0 0); have hcz33_2 := cz BK178 2 (.slice none 0 0); have hfz33_0 := fz BK178 0; have hfz33_1 := fz BK178 1; have hfz33_2 := fz BK178 2) | ((with_reducible refine gate_store (t := 41) (p := 10) rfl ?_); (try (rw [drewN_self w32]; generalize hq_ : World.drewN w32 _ = w32; replace HO_6 := Aside0.mk (Kd.R_at hq_ HO_6.out); replace HO_7 := Aside0.mk (Kd.R_at hq_ HO_7.out); replace HO_8 := Aside0.mk (Kd.R_at hq_ HO_8.out); replace BK178 := Aside0.mk (blk_at hq_ BK178.out); replace HB := Aside0.mk (below_at hq_ HB.out); clear hq_)); refine store_event (t := 41) (p := 10) (v := ?vo_w34) (w1 := (((w32.setCell ⟨gb178, 0, none⟩ (.string ((rd_T41 l1 x26_2).f0))).setCell ⟨gb178, 1, none⟩ (.slice A177_1 ((rd_T41 l1 x26_2).f1).length c177_1)).setCell ⟨gb178, 2, none⟩ (.slice A177_2 ((rd_T41 l1 x26_2).f2).length c177_2))) ?hg ?ho ?hn ?hr ?_; (case ho => rfl); (case hg => rfl); (case hn => rfl); (case hr => first | (go_simp; done) | (go_simp; rfl) | (have hq0_ := (blk_cell BK178.out 0).trans (show _ = some _ from rfl); have hf0_ := blk_frozen BK178.out 0; have hq1_ := (blk_cell BK178.out 1).trans (show _ = some _ from rfl); have hf1_ := blk_frozen BK178.out 1; have hq2_ := (blk_cell BK178.out 2).trans (show _ = some _ from rfl); have hf2_ := blk_frozen BK178.out 2; first | (go_simp; done) | (go_simp; rfl))); intro w34 hw; replace HO_6 : Aside0 (Kd.R (Kd.int .u32) 43 w34 w.heap.size (fun k_ => some k_ ≠ (v175 : Value).ownBlock) v172 t171) := ⟨(by rw [hw]; exact (by (with_reducible repeat (first | apply Kd.R_alloc | apply Kd.R_drewN | apply Kd.R_drew)); exact Kd.R_mono (Kd.R_far (p := ⟨gb178, 2, none⟩) (Kd.R_far (p := ⟨gb178, 1, none⟩) (Kd.R_far (p := ⟨gb178, 0, none⟩) (Kd.R_types HO_6.out BK178.out (by decide)) (fun _ hk => hk.2) (.string ((rd_T41 l1 x26_2).f0))) (fun _ hk => hk.2) (.slice A177_1 ((rd_T41 l1 x26_2).f1).length c177_1)) (fun _ hk => hk.2) (.slice A177_2 ((rd_T41 l1 x26_2).f2).length c177_2)) (fun _ hk => hk.1)))⟩; replace HO_7 : Aside0 (Kd.R (Kd.int .u32) 43 w34 w.heap.size (fun k_ => some k_ ≠ (v172 : Value).ownBlock) v175 t174) := ⟨(by rw [hw]; exact (by (with_reducible repeat (first | apply Kd.R_alloc | apply Kd.R_drewN | apply Kd.R_drew)); exact Kd.R_mono (Kd.R_far (p := ⟨gb178, 2, none⟩) (Kd.R_far (p := ⟨gb178, 1, none⟩) (Kd.R_far (p := ⟨gb178, 0, none⟩) (Kd.R_types HO_7.out BK178.out (by decide)) (fun _ hk => hk.2) (.string ((rd_T41 l1 x26_2).f0))) (fun _ hk => hk.2) (.slice A177_1 ((rd_T41 l1 x26_2).f1).length c177_1)) (fun _ hk => hk.2) (.slice A177_2 ((rd_T41 l1 x26_2).f2).length c177_2)) (fun _ hk => hk.1)))⟩; replace HO_8 : Aside0 (Kd.R Kd.string 9 w34 w.heap.size (fun _ => True) u8 x8_2) := ⟨(by rw [hw]; exact (by (with_reducible repeat (first | apply Kd.R_alloc | apply Kd.R_drewN | apply Kd.R_drew)); exact Kd.R_mono (Kd.R_far (p := ⟨gb178, 2, none⟩) (Kd.R_far (p := ⟨gb178, 1, none⟩) (Kd.R_far (p := ⟨gb178, 0, none⟩) (Kd.R_types HO_8.out BK178.out (by decide)) (fun _ hk => hk.2) (.string ((rd_T41 l1 x26_2).f0))) (fun _ hk => hk.2) (.slice A177_1 ((rd_T41 l1 x26_2).f1).length c177_1)) (fun _ hk => hk.2) (.slice A177_2 ((rd_T41 l1 x26_2).f2).length c177_2)) (fun _ hk => trivial)))⟩; replace BK178 : Aside0 (w34.heap[gb178]? = some (.cells #[.string ((rd_T41 l1 x26_2).f0), .slice A177_1 ((rd_T41 l1 x26_2).f1).length c177_1, .slice A177_2 ((rd_T41 l1 x26_2).f2).length c177_2] 41 (0, 0))) := ⟨(by rw [hw]; exact (by refine bU ?_; refine blk_put (cs := #[.string ((rd_T41 l1 x26_2).f0), .slice A177_1 ((rd_T41 l1 x26_2).f1).length c177_1, .slice none 0 0]) ?_ 2 _ rfl; refine bU ?_; refine blk_put (cs := #[.string ((rd_T41 l1 x26_2).f0), .slice none 0 0, .slice none 0 0]) ?_ 1 _ rfl; refine bU ?_; refine blk_put (cs := #[.string (⟨#[]⟩ : ByteArray), .slice none 0 0, .slice none 0 0]) ?_ 0 _ rfl; refine bU ?_; exact BK178.out))⟩; replace HB : Aside0 (Below w.heap.size w w34) := ⟨(by rw [hw]; exact (lV1 GE178))⟩; clear hw; have hcz35_0 := cz BK178 0 (.string ((rd_T41 l1 x26_2).f0)); have hcz35_1 := cz BK178 1 (.slice A177_1 ((rd_T41 l1 x26_2).f1).length c177_1); have hcz35_2 := cz BK178 2 (.slice A177_2 ((rd_T41 l1 x26_2).f2).length c177_2); have hfz35_0 := fz BK178 0; have hfz35_1 := fz BK178 1; have hfz35_2 := fz BK178 2) | (go_at_call 16; (with_reducible refine (spec_l21At.calls k2 _ _ l0 ((rd_T41 l1 x26_2).f0) t179 _ ?side1 ?side2 A18.out).mono ?_); (case side1 => exact cU (Kd.C_below HR0.out HB.out)); (case side2 => exact HC0.out); rintro e w36 ⟨rfl, hb⟩; replace HO_6 := Aside0.mk (Kd.R_below (rU HO_6.out) hb); replace HO_7 := Aside0.mk (Kd.R_below (rU HO_7.out) hb); replace HO_8 := Aside0.mk (Kd.R_below (rU HO_8.out) hb); replace BK178 := bB (bV BK178) hb; replace HB := bH (lV1 GE178) hb; (try clear hb); obtain ⟨Ao37, co37, eo37⟩ := Kd.R_slice HO_6.out; subst eo37; have p183 : 0 ≤ (t179 : Int) := of_decide_eq_true hE; have q183 : t179 < (t171.length : Int) := of_decide_eq_true hE; obtain ⟨ad183, e183, hx183_0⟩ := Kd.at_int (Kd.R_reads' HO_6.out).2.2 t179 p183 q183; cases e183; replace p183 := eq_true p183; replace q183 := eq_true q183; obtain ⟨Ao38, co38, eo38⟩ := Kd.R_slice HO_7.out; subst eo38; have p184 : 0 ≤ (x26_2 : Int) := of_decide_eq_true hE; have q184 : x26_2 < (t174.length : Int) := of_decide_eq_true hE; obtain ⟨ad184, e184, hx184_0⟩ := Kd.at_int (Kd.R_reads' HO_7.out).2.2 x26_2 p184 q184; cases e184; replace p184 := eq_true p184; replace q184 := eq_true q184))
              repeat (go_quiet (first | ((with_reducible refine gate_dst (N := 10) rfl ?_); refine box_event rfl (N := 10) rfl (cs := #[.string (⟨#[]⟩ : ByteArray), .slice none 0 0, .slice none 0 0]) (t := 41) sE ?_; intro gb178 hg w32 hbox hb; replace HO_6 := Aside0.mk (Kd.R_below (rU HO_6.out) hb); replace HO_7 := Aside0.mk (Kd.R_below (rU HO_7.out) hb); replace HO_8 := Aside0.mk (Kd.R_below (rU HO_8.out) hb); have BK178 := Aside0.mk hbox; have GW178 := gS w hg (lU); have GE178 := gS w hg (lU); replace HB := bH (lU) hb; clear hb hbox hg; have hcz33_0 := cz BK178 0 (.string (⟨#[]⟩ : ByteArray)); have hcz33_1 := cz BK178 1 (.slice none 0 0); have hcz33_2 := cz BK178 2 (.slice none 0 0); have hfz33_0 := fz BK178 0; have hfz33_1 := fz BK178 1; have hfz33_2 := fz BK178 2) | ((with_reducible refine gate_store (t := 41) (p := 10) rfl ?_); (try (rw [drewN_self w32]; generalize hq_ : World.drewN w32 _ = w32; replace HO_6 := Aside0.mk (Kd.R_at hq_ HO_6.out); replace HO_7 := Aside0.mk (Kd.R_at hq_ HO_7.out); replace HO_8 := Aside0.mk (Kd.R_at hq_ HO_8.out); replace BK178 := Aside0.mk (blk_at hq_ BK178.out); replace HB := Aside0.mk (below_at hq_ HB.out); clear hq_)); refine store_event (t := 41) (p := 10) (v := ?vo_w34) (w1 := (((w32.setCell ⟨gb178, 0, none⟩ (.string ((rd_T41 l1 x26_2).f0))).setCell ⟨gb178, 1, none⟩ (.slice A177_1 ((rd_T41 l1 x26_2).f1).length c177_1)).setCell ⟨gb178, 2, none⟩ (.slice A177_2 ((rd_T41 l1 x26_2).f2).length c177_2))) ?hg ?ho ?hn ?hr ?_; (case ho => rfl); (case hg => rfl); (case hn => rfl); (case hr => first | (go_simp; done) | (go_simp; rfl) | (have hq0_ := (blk_cell BK178.out 0).trans (show _ = some _ from rfl); have hf0_ := blk_frozen BK178.out 0; have hq1_ := (blk_cell BK178.out 1).trans (show _ = some _ from rfl); have hf1_ := blk_frozen BK178.out 1; have hq2_ := (blk_cell BK178.out 2).trans (show _ = some _ from rfl); have hf2_ := blk_frozen BK178.out 2; first | (go_simp; done) | (go_simp; rfl))); intro w34 hw; replace HO_6 : Aside0 (Kd.R (Kd.int .u32) 43 w34 w.heap.size (fun k_ => some k_ ≠ (v175 : Value).ownBlock) v172 t171) := ⟨(by rw [hw]; exact (by (with_reducible repeat (first | apply Kd.R_alloc | apply Kd.R_drewN | apply Kd.R_drew)); exact Kd.R_mono (Kd.R_far (p := ⟨gb178, 2, none⟩) (Kd.R_far (p := ⟨gb178, 1, none⟩) (Kd.R_far (p := ⟨gb178, 0, none⟩) (Kd.R_types HO_6.out BK178.out (by decide)) (fun _ hk => hk.2) (.string ((rd_T41 l1 x26_2).f0))) (fun _ hk => hk.2) (.slice A177_1 ((rd_T41 l1 x26_2).f1).length c177_1)) (fun _ hk => hk.2) (.slice A177_2 ((rd_T41 l1 x26_2).f2).length c177_2)) (fun _ hk => hk.1)))⟩; replace HO_7 : Aside0 (Kd.R (Kd.int .u32) 43 w34 w.heap.size (fun k_ => some k_ ≠ (v172 : Value).ownBlock) v175 t174) := ⟨(by rw [hw]; exact (by (with_reducible repeat (first | apply Kd.R_alloc | apply Kd.R_drewN | apply Kd.R_drew)); exact Kd.R_mono (Kd.R_far (p := ⟨gb178, 2, none⟩) (Kd.R_far (p := ⟨gb178, 1, none⟩) (Kd.R_far (p := ⟨gb178, 0, none⟩) (Kd.R_types HO_7.out BK178.out (by decide)) (fun _ hk => hk.2) (.string ((rd_T41 l1 x26_2).f0))) (fun _ hk => hk.2) (.slice A177_1 ((rd_T41 l1 x26_2).f1).length c177_1)) (fun _ hk => hk.2) (.slice A177_2 ((rd_T41 l1 x26_2).f2).length c177_2)) (fun _ hk => hk.1)))⟩; replace HO_8 : Aside0 (Kd.R Kd.string 9 w34 w.heap.size (fun _ => True) u8 x8_2) := ⟨(by rw [hw]; exact (by (with_reducible repeat (first | apply Kd.R_alloc | apply Kd.R_drewN | apply Kd.R_drew)); exact Kd.R_mono (Kd.R_far (p := ⟨gb178, 2, none⟩) (Kd.R_far (p := ⟨gb178, 1, none⟩) (Kd.R_far (p := ⟨gb178, 0, none⟩) (Kd.R_types HO_8.out BK178.out (by decide)) (fun _ hk => hk.2) (.string ((rd_T41 l1 x26_2).f0))) (fun _ hk => hk.2) (.slice A177_1 ((rd_T41 l1 x26_2).f1).length c177_1)) (fun _ hk => hk.2) (.slice A177_2 ((rd_T41 l1 x26_2).f2).length c177_2)) (fun _ hk => trivial)))⟩; replace BK178 : Aside0 (w34.heap[gb178]? = some (.cells #[.string ((rd_T41 l1 x26_2).f0), .slice A177_1 ((rd_T41 l1 x26_2).f1).length c177_1, .slice A177_2 ((rd_T41 l1 x26_2).f2).length c177_2] 41 (0, 0))) := ⟨(by rw [hw]; exact (by refine bU ?_; refine blk_put (cs := #[.string ((rd_T41 l1 x26_2).f0), .slice A177_1 ((rd_T41 l1 x26_2).f1).length c177_1, .slice none 0 0]) ?_ 2 _ rfl; refine bU ?_; refine blk_put (cs := #[.string ((rd_T41 l1 x26_2).f0), .slice none 0 0, .slice none 0 0]) ?_ 1 _ rfl; refine bU ?_; refine blk_put (cs := #[.string (⟨#[]⟩ : ByteArray), .slice none 0 0, .slice none 0 0]) ?_ 0 _ rfl; refine bU ?_; exact BK178.out))⟩; replace HB : Aside0 (Below w.heap.size w w34) := ⟨(by rw [hw]; exact (lV1 GE178))⟩; clear hw; have hcz35_0 := cz BK178 0 (.string ((rd_T41 l1 x26_2).f0)); have hcz35_1 := cz BK178 1 (.slice A177_1 ((rd_T41 l1 x26_2).f1).length c177_1); have hcz35_2 := cz BK178 2 (.slice A177_2 ((rd_T41 l1 x26_2).f2).length c177_2); have hfz35_0 := fz BK178 0; have hfz35_1 := fz BK178 1; have hfz35_2 := fz BK178 2) | (go_at_call 16; (with_reducible refine (spec_l21At.calls k2 _ _ l0 ((rd_T41 l1 x26_2).f0) t179 _ ?side1 ?side2 A18.out).mono ?_); (case side1 => exact cU (Kd.C_below HR0.out HB.out)); (case side2 => exact HC0.out); rintro e w36 ⟨rfl, hb⟩; replace HO_6 := Aside0.mk (Kd.R_below (rU HO_6.out) hb); replace HO_7 := Aside0.mk (Kd.R_below (rU HO_7.out) hb); replace HO_8 := Aside0.mk (Kd.R_below (rU HO_8.out) hb); replace BK178 := bB (bV BK178) hb; replace HB := bH (lV1 GE178) hb; (try clear hb); obtain ⟨Ao37, co37, eo37⟩ := Kd.R_slice HO_6.out; subst eo37; have p183 : 0 ≤ (t179 : Int) := of_decide_eq_true hE; have q183 : t179 < (t171.length : Int) := of_decide_eq_true hE; obtain ⟨ad183, e183, hx183_0⟩ := Kd.at_int (Kd.R_reads' HO_6.out).2.2 t179 p183 q183; cases e183; replace p183 := eq_true p183; replace q183 := eq_true q183; obtain ⟨Ao38, co38, eo38⟩ := Kd.R_slice HO_7.out; subst eo38; have p184 : 0 ≤ (x26_2 : Int) := of_decide_eq_true hE; have q184 : x26_2 < (t174.length : Int) := of_decide_eq_true hE; obtain ⟨ad184, e184, hx184_0⟩ := Kd.at_int (Kd.R_reads' HO_7.out).2.2 x26_2 p184 q184; cases e184; replace p184 := eq_true p184; replace q184 := eq_true q184)); try go_wp2_with (first | ((with_reducible refine gate_dst (N := 10) rfl ?_); refine box_event rfl (N := 10) rfl (cs := #[.string (⟨#[]⟩ : ByteArray), .slice none 0 0, .slice none 0 0]) (t := 41) sE ?_; intro gb178 hg w32 hbox hb; replace HO_6 := Aside0.mk (Kd.R_below (rU HO_6.out) hb); replace HO_7 := Aside0.mk (Kd.R_below (rU HO_7.out) hb); replace HO_8 := Aside0.mk (Kd.R_below (rU HO_8.out) hb); have BK178 := Aside0.mk hbox; have GW178 := gS w hg (lU); have GE178 := gS w hg (lU); replace HB := bH (lU) hb; clear hb hbox hg; have hcz33_0 := cz BK178 0 (.string (⟨#[]⟩ : ByteArray)); have hcz33_1 := cz BK178 1 (.slice none 0 0); have hcz33_2 := cz BK178 2 (.slice none 0 0); have hfz33_0 := fz BK178 0; have hfz33_1 := fz BK178 1; have hfz33_2 := fz BK178 2) | ((with_reducible refine gate_store (t := 41) (p := 10) rfl ?_); (try (rw [drewN_self w32]; generalize hq_ : World.drewN w32 _ = w32; replace HO_6 := Aside0.mk (Kd.R_at hq_ HO_6.out); replace HO_7 := Aside0.mk (Kd.R_at hq_ HO_7.out); replace HO_8 := Aside0.mk (Kd.R_at hq_ HO_8.out); replace BK178 := Aside0.mk (blk_at hq_ BK178.out); replace HB := Aside0.mk (below_at hq_ HB.out); clear hq_)); refine store_event (t := 41) (p := 10) (v := ?vo_w34) (w1 := (((w32.setCell ⟨gb178, 0, none⟩ (.string ((rd_T41 l1 x26_2).f0))).setCell ⟨gb178, 1, none⟩ (.slice A177_1 ((rd_T41 l1 x26_2).f1).length c177_1)).setCell ⟨gb178, 2, none⟩ (.slice A177_2 ((rd_T41 l1 x26_2).f2).length c177_2))) ?hg ?ho ?hn ?hr ?_; (case ho => rfl); (case hg => rfl); (case hn => rfl); (case hr => first | (go_simp; done) | (go_simp; rfl) | (have hq0_ := (blk_cell BK178.out 0).trans (show _ = some _ from rfl); have hf0_ := blk_frozen BK178.out 0; have hq1_ := (blk_cell BK178.out 1).trans (show _ = some _ from rfl); have hf1_ := blk_frozen BK178.out 1; have hq2_ := (blk_cell BK178.out 2).trans (show _ = some _ from rfl); have hf2_ := blk_frozen BK178.out 2; first | (go_simp; done) | (go_simp; rfl))); intro w34 hw; replace HO_6 : Aside0 (Kd.R (Kd.int .u32) 43 w34 w.heap.size (fun k_ => some k_ ≠ (v175 : Value).ownBlock) v172 t171) := ⟨(by rw [hw]; exact (by (with_reducible repeat (first | apply Kd.R_alloc | apply Kd.R_drewN | apply Kd.R_drew)); exact Kd.R_mono (Kd.R_far (p := ⟨gb178, 2, none⟩) (Kd.R_far (p := ⟨gb178, 1, none⟩) (Kd.R_far (p := ⟨gb178, 0, none⟩) (Kd.R_types HO_6.out BK178.out (by decide)) (fun _ hk => hk.2) (.string ((rd_T41 l1 x26_2).f0))) (fun _ hk => hk.2) (.slice A177_1 ((rd_T41 l1 x26_2).f1).length c177_1)) (fun _ hk => hk.2) (.slice A177_2 ((rd_T41 l1 x26_2).f2).length c177_2)) (fun _ hk => hk.1)))⟩; replace HO_7 : Aside0 (Kd.R (Kd.int .u32) 43 w34 w.heap.size (fun k_ => some k_ ≠ (v172 : Value).ownBlock) v175 t174) := ⟨(by rw [hw]; exact (by (with_reducible repeat (first | apply Kd.R_alloc | apply Kd.R_drewN | apply Kd.R_drew)); exact Kd.R_mono (Kd.R_far (p := ⟨gb178, 2, none⟩) (Kd.R_far (p := ⟨gb178, 1, none⟩) (Kd.R_far (p := ⟨gb178, 0, none⟩) (Kd.R_types HO_7.out BK178.out (by decide)) (fun _ hk => hk.2) (.string ((rd_T41 l1 x26_2).f0))) (fun _ hk => hk.2) (.slice A177_1 ((rd_T41 l1 x26_2).f1).length c177_1)) (fun _ hk => hk.2) (.slice A177_2 ((rd_T41 l1 x26_2).f2).length c177_2)) (fun _ hk => hk.1)))⟩; replace HO_8 : Aside0 (Kd.R Kd.string 9 w34 w.heap.size (fun _ => True) u8 x8_2) := ⟨(by rw [hw]; exact (by (with_reducible repeat (first | apply Kd.R_alloc | apply Kd.R_drewN | apply Kd.R_drew)); exact Kd.R_mono (Kd.R_far (p := ⟨gb178, 2, none⟩) (Kd.R_far (p := ⟨gb178, 1, none⟩) (Kd.R_far (p := ⟨gb178, 0, none⟩) (Kd.R_types HO_8.out BK178.out (by decide)) (fun _ hk => hk.2) (.string ((rd_T41 l1 x26_2).f0))) (fun _ hk => hk.2) (.slice A177_1 ((rd_T41 l1 x26_2).f1).length c177_1)) (fun _ hk => hk.2) (.slice A177_2 ((rd_T41 l1 x26_2).f2).length c177_2)) (fun _ hk => trivial)))⟩; replace BK178 : Aside0 (w34.heap[gb178]? = some (.cells #[.string ((rd_T41 l1 x26_2).f0), .slice A177_1 ((rd_T41 l1 x26_2).f1).length c177_1, .slice A177_2 ((rd_T41 l1 x26_2).f2).length c177_2] 41 (0, 0))) := ⟨(by rw [hw]; exact (by refine bU ?_; refine blk_put (cs := #[.string ((rd_T41 l1 x26_2).f0), .slice A177_1 ((rd_T41 l1 x26_2).f1).length c177_1, .slice none 0 0]) ?_ 2 _ rfl; refine bU ?_; refine blk_put (cs := #[.string ((rd_T41 l1 x26_2).f0), .slice none 0 0, .slice none 0 0]) ?_ 1 _ rfl; refine bU ?_; refine blk_put (cs := #[.string (⟨#[]⟩ : ByteArray), .slice none 0 0, .slice none 0 0]) ?_ 0 _ rfl; refine bU ?_; exact BK178.out))⟩; replace HB : Aside0 (Below w.heap.size w w34) := ⟨(by rw [hw]; exact (lV1 GE178))⟩; clear hw; have hcz35_0 := cz BK178 0 (.string ((rd_T41 l1 x26_2).f0)); have hcz35_1 := cz BK178 1 (.slice A177_1 ((rd_T41 l1 x26_2).f1).length c177_1); have hcz35_2 := cz BK178 2 (.slice A177_2 ((rd_T41 l1 x26_2).f2).length c177_2); have hfz35_0 := fz BK178 0; have hfz35_1 := fz BK178 1; have hfz35_2 := fz BK178 2) | (go_at_call 16; (with_reducible refine (spec_l21At.calls k2 _ _ l0 ((rd_T41 l1 x26_2).f0) t179 _ ?side1 ?side2 A18.out).mono ?_); (case side1 => exact cU (Kd.C_below HR0.out HB.out)); (case side2 => exact HC0.out); rintro e w36 ⟨rfl, hb⟩; replace HO_6 := Aside0.mk (Kd.R_below (rU HO_6.out) hb); replace HO_7 := Aside0.mk (Kd.R_below (rU HO_7.out) hb); replace HO_8 := Aside0.mk (Kd.R_below (rU HO_8.out) hb); replace BK178 := bB (bV BK178) hb; replace HB := bH (lV1 GE178) hb; (try clear hb); obtain ⟨Ao37, co37, eo37⟩ := Kd.R_slice HO_6.out; subst eo37; have p183 : 0 ≤ (t179 : Int) := of_decide_eq_true hE; have q183 : t179 < (t171.length : Int) := of_decide_eq_true hE; obtain ⟨ad183, e183, hx183_0⟩ := Kd.at_int (Kd.R_reads' HO_6.out).2.2 t179 p183 q183; cases e183; replace p183 := eq_true p183; replace q183 := eq_true q183; obtain ⟨Ao38, co38, eo38⟩ := Kd.R_slice HO_7.out; subst eo38; have p184 : 0 ≤ (x26_2 : Int) := of_decide_eq_true hE; have q184 : x26_2 < (t174.length : Int) := of_decide_eq_true hE; obtain ⟨ad184, e184, hx184_0⟩ := Kd.at_int (Kd.R_reads' HO_7.out).2.2 x26_2 p184 q184; cases e184; replace p184 := eq_true p184; replace q184 := eq_true q184)))
              go_roundg k2
              case measure => have := HJ2.out; have := HK2.out; omega
              case rel => exact ⟨(x8_2), (wrap64 (x26_2 + 1)), tE, H', ⟨by have := HJ2.out; have := HK2.out; omega⟩, ⟨by (with_reducible repeat (first | apply Kd.R_alloc | apply Kd.R_drewN | apply Kd.R_drew)); exact HO_6.out⟩, ⟨by (with_reducible repeat (first | apply Kd.R_alloc | apply Kd.R_drewN | apply Kd.R_drew)); exact HO_7.out⟩, ⟨by (with_reducible repeat (first | apply Kd.R_alloc | apply Kd.R_drewN | apply Kd.R_drew)); exact HO_8.out⟩, ⟨by repeat (first | (with_reducible first | exact HB.out | apply below_alloc | apply pw_below_drewN | apply below_drew1 | refine below_set ?_ GE178.out) | exact HB.out)⟩⟩
             ·rw [if_neg c31] at H
              have c31b0 : ((rd t171 t179) == (rd t174 x26_2)) = false := beq_eq_false_iff_ne.mpr c31
              have c31b1 : ((rd t171 t179) != (rd t174 x26_2)) = true := bne_iff_ne.mpr c31
              by_cases c39 : x8_2.length < 8796093022208
              ·rw [if_pos c39] at H
               have LMc39 := Aside0.mk c39
               clear c39
               obtain ⟨y185, hy185⟩ : ∃ y_ : List ByteArray, y_ = (x8_2 ++ [(rd_T41 l1 x26_2).f0]) := ⟨_, rfl⟩
               replace H : (spec_StaleBetween.l0 k2 l0 t171 t174 y185 l1 (l1.length : Int) (wrap64 (x26_2 + 1))) = some (r1, r2) := by first | (rw [hy185]; with_reducible exact H) | (have H2_ := (Option.bind_some _ _).symm.trans H; rw [hy185]; with_reducible exact H2_) | (have H2_ := (Option.bind_some _ _).symm.trans H; with_reducible exact H2_) | with_reducible exact H | (rw [hy185]; exact H) | exact H
               have Ny185 := Aside0.mk hy185
               clear hy185
               have H' := Aside0.mk H
               clear H
               have p177 : 0 ≤ (x26_2 : Int) := of_decide_eq_true hE
               have q177 : x26_2 < (l1.length : Int) := of_decide_eq_true hE
               obtain ⟨ad177, A177_1, c177_1, A177_2, c177_2, e177, hx177_0, hx177_1, hx177_2, hl177_1, hi177_1, hl177_2, hi177_2⟩ := at_T41 HR1.out x26_2 p177 q177
               cases e177
               replace hx177_0 := (HB.out.cell (World.block_lt_of_cell? w _ hx177_0)).trans hx177_0
               replace hx177_1 := (HB.out.cell (World.block_lt_of_cell? w _ hx177_1)).trans hx177_1
               replace hx177_2 := (HB.out.cell (World.block_lt_of_cell? w _ hx177_2)).trans hx177_2
               have HR177_1 := Aside0.mk hi177_1
               have HC177_1 := Aside0.mk hl177_1
               clear hi177_1 hl177_1
               have HR177_2 := Aside0.mk hi177_2
               have HC177_2 := Aside0.mk hl177_2
               clear hi177_2 hl177_2
               replace p177 := eq_true p177
               replace q177 := eq_true q177
               go_wp2_with (first | ((with_reducible refine gate_dst (N := 10) rfl ?_); refine box_event rfl (N := 10) rfl (cs := #[.string (⟨#[]⟩ : ByteArray), .slice none 0 0, .slice none 0 0]) (t := 41) sE ?_; intro gb178 hg w40 hbox hb; replace HO_6 := Aside0.mk (Kd.R_below (rU HO_6.out) hb); replace HO_7 := Aside0.mk (Kd.R_below (rU HO_7.out) hb); replace HO_8 := Aside0.mk (Kd.R_below (rU HO_8.out) hb); have BK178 := Aside0.mk hbox; have GW178 := gS w hg (lU); have GE178 := gS w hg (lU); replace HB := bH (lU) hb; clear hb hbox hg; have hcz41_0 := cz BK178 0 (.string (⟨#[]⟩ : ByteArray)); have hcz41_1 := cz BK178 1 (.slice none 0 0); have hcz41_2 := cz BK178 2 (.slice none 0 0); have hfz41_0 := fz BK178 0; have hfz41_1 := fz BK178 1; have hfz41_2 := fz BK178 2) | ((with_reducible refine gate_store (t := 41) (p := 10) rfl ?_); (try (rw [drewN_self w40]; generalize hq_ : World.drewN w40 _ = w40; replace HO_6 := Aside0.mk (Kd.R_at hq_ HO_6.out); replace HO_7 := Aside0.mk (Kd.R_at hq_ HO_7.out); replace HO_8 := Aside0.mk (Kd.R_at hq_ HO_8.out); replace BK178 := Aside0.mk (blk_at hq_ BK178.out); replace HB := Aside0.mk (below_at hq_ HB.out); clear hq_)); refine store_event (t := 41) (p := 10) (v := ?vo_w42) (w1 := (((w40.setCell ⟨gb178, 0, none⟩ (.string ((rd_T41 l1 x26_2).f0))).setCell ⟨gb178, 1, none⟩ (.slice A177_1 ((rd_T41 l1 x26_2).f1).length c177_1)).setCell ⟨gb178, 2, none⟩ (.slice A177_2 ((rd_T41 l1 x26_2).f2).length c177_2))) ?hg ?ho ?hn ?hr ?_; (case ho => rfl); (case hg => rfl); (case hn => rfl); (case hr => first | (go_simp; done) | (go_simp; rfl) | (have hq0_ := (blk_cell BK178.out 0).trans (show _ = some _ from rfl); have hf0_ := blk_frozen BK178.out 0; have hq1_ := (blk_cell BK178.out 1).trans (show _ = some _ from rfl); have hf1_ := blk_frozen BK178.out 1; have hq2_ := (blk_cell BK178.out 2).trans (show _ = some _ from rfl); have hf2_ := blk_frozen BK178.out 2; first | (go_simp; done) | (go_simp; rfl))); intro w42 hw; replace HO_6 : Aside0 (Kd.R (Kd.int .u32) 43 w42 w.heap.size (fun k_ => some k_ ≠ (v175 : Value).ownBlock) v172 t171) := ⟨(by rw [hw]; exact (by (with_reducible repeat (first | apply Kd.R_alloc | apply Kd.R_drewN | apply Kd.R_drew)); exact Kd.R_mono (Kd.R_far (p := ⟨gb178, 2, none⟩) (Kd.R_far (p := ⟨gb178, 1, none⟩) (Kd.R_far (p := ⟨gb178, 0, none⟩) (Kd.R_types HO_6.out BK178.out (by decide)) (fun _ hk => hk.2) (.string ((rd_T41 l1 x26_2).f0))) (fun _ hk => hk.2) (.slice A177_1 ((rd_T41 l1 x26_2).f1).length c177_1)) (fun _ hk => hk.2) (.slice A177_2 ((rd_T41 l1 x26_2).f2).length c177_2)) (fun _ hk => hk.1)))⟩; replace HO_7 : Aside0 (Kd.R (Kd.int .u32) 43 w42 w.heap.size (fun k_ => some k_ ≠ (v172 : Value).ownBlock) v175 t174) := ⟨(by rw [hw]; exact (by (with_reducible repeat (first | apply Kd.R_alloc | apply Kd.R_drewN | apply Kd.R_drew)); exact Kd.R_mono (Kd.R_far (p := ⟨gb178, 2, none⟩) (Kd.R_far (p := ⟨gb178, 1, none⟩) (Kd.R_far (p := ⟨gb178, 0, none⟩) (Kd.R_types HO_7.out BK178.out (by decide)) (fun _ hk => hk.2) (.string ((rd_T41 l1 x26_2).f0))) (fun _ hk => hk.2) (.slice A177_1 ((rd_T41 l1 x26_2).f1).length c177_1)) (fun _ hk => hk.2) (.slice A177_2 ((rd_T41 l1 x26_2).f2).length c177_2)) (fun _ hk => hk.1)))⟩; replace HO_8 : Aside0 (Kd.R Kd.string 9 w42 w.heap.size (fun _ => True) u8 x8_2) := ⟨(by rw [hw]; exact (by (with_reducible repeat (first | apply Kd.R_alloc | apply Kd.R_drewN | apply Kd.R_drew)); exact Kd.R_mono (Kd.R_far (p := ⟨gb178, 2, none⟩) (Kd.R_far (p := ⟨gb178, 1, none⟩) (Kd.R_far (p := ⟨gb178, 0, none⟩) (Kd.R_types HO_8.out BK178.out (by decide)) (fun _ hk => hk.2) (.string ((rd_T41 l1 x26_2).f0))) (fun _ hk => hk.2) (.slice A177_1 ((rd_T41 l1 x26_2).f1).length c177_1)) (fun _ hk => hk.2) (.slice A177_2 ((rd_T41 l1 x26_2).f2).length c177_2)) (fun _ hk => trivial)))⟩; replace BK178 : Aside0 (w42.heap[gb178]? = some (.cells #[.string ((rd_T41 l1 x26_2).f0), .slice A177_1 ((rd_T41 l1 x26_2).f1).length c177_1, .slice A177_2 ((rd_T41 l1 x26_2).f2).length c177_2] 41 (0, 0))) := ⟨(by rw [hw]; exact (by refine bU ?_; refine blk_put (cs := #[.string ((rd_T41 l1 x26_2).f0), .slice A177_1 ((rd_T41 l1 x26_2).f1).length c177_1, .slice none 0 0]) ?_ 2 _ rfl; refine bU ?_; refine blk_put (cs := #[.string ((rd_T41 l1 x26_2).f0), .slice none 0 0, .slice none 0 0]) ?_ 1 _ rfl; refine bU ?_; refine blk_put (cs := #[.string (⟨#[]⟩ : ByteArray), .slice none 0 0, .slice none 0 0]) ?_ 0 _ rfl; refine bU ?_; exact BK178.out))⟩; replace HB : Aside0 (Below w.heap.size w w42) := ⟨(by rw [hw]; exact (lV1 GE178))⟩; clear hw; have hcz43_0 := cz BK178 0 (.string ((rd_T41 l1 x26_2).f0)); have hcz43_1 := cz BK178 1 (.slice A177_1 ((rd_T41 l1 x26_2).f1).length c177_1); have hcz43_2 := cz BK178 2 (.slice A177_2 ((rd_T41 l1 x26_2).f2).length c177_2); have hfz43_0 := fz BK178 0; have hfz43_1 := fz BK178 1; have hfz43_2 := fz BK178 2) | (go_at_call 16; (with_reducible refine (spec_l21At.calls k2 _ _ l0 ((rd_T41 l1 x26_2).f0) t179 _ ?side1 ?side2 A18.out).mono ?_); (case side1 => exact cU (Kd.C_below HR0.out HB.out)); (case side2 => exact HC0.out); rintro e w44 ⟨rfl, hb⟩; replace HO_6 := Aside0.mk (Kd.R_below (rU HO_6.out) hb); replace HO_7 := Aside0.mk (Kd.R_below (rU HO_7.out) hb); replace HO_8 := Aside0.mk (Kd.R_below (rU HO_8.out) hb); replace BK178 := bB (bV BK178) hb; replace HB := bH (lV1 GE178) hb; (try clear hb); obtain ⟨Ao45, co45, eo45⟩ := Kd.R_slice HO_6.out; subst eo45; have p183 : 0 ≤ (t179 : Int) := of_decide_eq_true hE; have q183 : t179 < (t171.length : Int) := of_decide_eq_true hE; obtain ⟨ad183, e183, hx183_0⟩ := Kd.at_int (Kd.R_reads' HO_6.out).2.2 t179 p183 q183; cases e183; replace p183 := eq_true p183; replace q183 := eq_true q183; obtain ⟨Ao46, co46, eo46⟩ := Kd.R_slice HO_7.out; subst eo46; have p184 : 0 ≤ (x26_2 : Int) := of_decide_eq_true hE; have q184 : x26_2 < (t174.length : Int) := of_decide_eq_true hE; obtain ⟨ad184, e184, hx184_0⟩ := Kd.at_int (Kd.R_reads' HO_7.out).2.2 x26_2 p184 q184; cases e184; replace p184 := eq_true p184; replace q184 := eq_true q184; have hcz47_0 := cz BK178 0 (.string ((rd_T41 l1 x26_2).f0)); have hcz47_1 := cz BK178 1 (.slice A177_1 ((rd_T41 l1 x26_2).f1).length c177_1); have hcz47_2 := cz BK178 2 (.slice A177_2 ((rd_T41 l1 x26_2).f2).length c177_2); have hfz47_0 := fz BK178 0; have hfz47_1 := fz BK178 1; have hfz47_2 := fz BK178 2) | ((with_reducible refine gate_builtin (b := .append) (xs := #[.tmp 48, .tmp 51]) rfl ?_); at_builtin; refine Kd.R_append Kd.string (w0 := w) w.heap.size rfl (.tmp 48) (.tmp 51) 24 9 (.string ⟨#[]⟩) 16 rfl Try.underlying24 info9 rfl (by decide) (by omega) u8 x8_2 ((rd_T41 l1 x26_2).f0) [.string ((rd_T41 l1 x26_2).f0)] (fun _ => True) (fun _ => False) rfl rfl ?aP (fun _ hk => hk.elim) ?aF ?aO ?aB ?aS ?aL ?_; (case aP => exact rfl); (case aB => exact (lV1 GE178)); (case aF => exact (fun _ _ => trivial)); (case aO => exact (rU HO_8.out)); (case aS => exact (below_size (lV1 GE178))); (case aL => have := LMc39.out; omega); intro v186 w48 ho hb hg hat; rw [← Ny185.out] at ho; replace HO_6 := Aside0.mk (Kd.R_over' (rU HO_6.out) (Kd.R_typed (rU HO_8.out)) (by decide) hg); replace HO_7 := Aside0.mk (Kd.R_over' (rU HO_7.out) (Kd.R_typed (rU HO_8.out)) (by decide) hg); replace BK178 := Aside0.mk (blk_grown (g := gb178) (o := .cells #[.string ((rd_T41 l1 x26_2).f0), .slice A177_1 ((rd_T41 l1 x26_2).f1).length c177_1, .slice A177_2 ((rd_T41 l1 x26_2).f2).length c177_2] 41 (0, 0)) (bV BK178) hg (Kd.R_ne HO_8.out BK178.out (by decide))); replace HB := Aside0.mk hb; have HO187 := Aside0.mk ho; clear HO_8; clear ho hb hg hat))
               repeat (go_quiet (first | ((with_reducible refine gate_dst (N := 10) rfl ?_); refine box_event rfl (N := 10) rfl (cs := #[.string (⟨#[]⟩ : ByteArray), .slice none 0 0, .slice none 0 0]) (t := 41) sE ?_; intro gb178 hg w40 hbox hb; replace HO_6 := Aside0.mk (Kd.R_below (rU HO_6.out) hb); replace HO_7 := Aside0.mk (Kd.R_below (rU HO_7.out) hb); replace HO_8 := Aside0.mk (Kd.R_below (rU HO_8.out) hb); have BK178 := Aside0.mk hbox; have GW178 := gS w hg (lU); have GE178 := gS w hg (lU); replace HB := bH (lU) hb; clear hb hbox hg; have hcz41_0 := cz BK178 0 (.string (⟨#[]⟩ : ByteArray)); have hcz41_1 := cz BK178 1 (.slice none 0 0); have hcz41_2 := cz BK178 2 (.slice none 0 0); have hfz41_0 := fz BK178 0; have hfz41_1 := fz BK178 1; have hfz41_2 := fz BK178 2) | ((with_reducible refine gate_store (t := 41) (p := 10) rfl ?_); (try (rw [drewN_self w40]; generalize hq_ : World.drewN w40 _ = w40; replace HO_6 := Aside0.mk (Kd.R_at hq_ HO_6.out); replace HO_7 := Aside0.mk (Kd.R_at hq_ HO_7.out); replace HO_8 := Aside0.mk (Kd.R_at hq_ HO_8.out); replace BK178 := Aside0.mk (blk_at hq_ BK178.out); replace HB := Aside0.mk (below_at hq_ HB.out); clear hq_)); refine store_event (t := 41) (p := 10) (v := ?vo_w42) (w1 := (((w40.setCell ⟨gb178, 0, none⟩ (.string ((rd_T41 l1 x26_2).f0))).setCell ⟨gb178, 1, none⟩ (.slice A177_1 ((rd_T41 l1 x26_2).f1).length c177_1)).setCell ⟨gb178, 2, none⟩ (.slice A177_2 ((rd_T41 l1 x26_2).f2).length c177_2))) ?hg ?ho ?hn ?hr ?_; (case ho => rfl); (case hg => rfl); (case hn => rfl); (case hr => first | (go_simp; done) | (go_simp; rfl) | (have hq0_ := (blk_cell BK178.out 0).trans (show _ = some _ from rfl); have hf0_ := blk_frozen BK178.out 0; have hq1_ := (blk_cell BK178.out 1).trans (show _ = some _ from rfl); have hf1_ := blk_frozen BK178.out 1; have hq2_ := (blk_cell BK178.out 2).trans (show _ = some _ from rfl); have hf2_ := blk_frozen BK178.out 2; first | (go_simp; done) | (go_simp; rfl))); intro w42 hw; replace HO_6 : Aside0 (Kd.R (Kd.int .u32) 43 w42 w.heap.size (fun k_ => some k_ ≠ (v175 : Value).ownBlock) v172 t171) := ⟨(by rw [hw]; exact (by (with_reducible repeat (first | apply Kd.R_alloc | apply Kd.R_drewN | apply Kd.R_drew)); exact Kd.R_mono (Kd.R_far (p := ⟨gb178, 2, none⟩) (Kd.R_far (p := ⟨gb178, 1, none⟩) (Kd.R_far (p := ⟨gb178, 0, none⟩) (Kd.R_types HO_6.out BK178.out (by decide)) (fun _ hk => hk.2) (.string ((rd_T41 l1 x26_2).f0))) (fun _ hk => hk.2) (.slice A177_1 ((rd_T41 l1 x26_2).f1).length c177_1)) (fun _ hk => hk.2) (.slice A177_2 ((rd_T41 l1 x26_2).f2).length c177_2)) (fun _ hk => hk.1)))⟩; replace HO_7 : Aside0 (Kd.R (Kd.int .u32) 43 w42 w.heap.size (fun k_ => some k_ ≠ (v172 : Value).ownBlock) v175 t174) := ⟨(by rw [hw]; exact (by (with_reducible repeat (first | apply Kd.R_alloc | apply Kd.R_drewN | apply Kd.R_drew)); exact Kd.R_mono (Kd.R_far (p := ⟨gb178, 2, none⟩) (Kd.R_far (p := ⟨gb178, 1, none⟩) (Kd.R_far (p := ⟨gb178, 0, none⟩) (Kd.R_types HO_7.out BK178.out (by decide)) (fun _ hk => hk.2) (.string ((rd_T41 l1 x26_2).f0))) (fun _ hk => hk.2) (.slice A177_1 ((rd_T41 l1 x26_2).f1).length c177_1)) (fun _ hk => hk.2) (.slice A177_2 ((rd_T41 l1 x26_2).f2).length c177_2)) (fun _ hk => hk.1)))⟩; replace HO_8 : Aside0 (Kd.R Kd.string 9 w42 w.heap.size (fun _ => True) u8 x8_2) := ⟨(by rw [hw]; exact (by (with_reducible repeat (first | apply Kd.R_alloc | apply Kd.R_drewN | apply Kd.R_drew)); exact Kd.R_mono (Kd.R_far (p := ⟨gb178, 2, none⟩) (Kd.R_far (p := ⟨gb178, 1, none⟩) (Kd.R_far (p := ⟨gb178, 0, none⟩) (Kd.R_types HO_8.out BK178.out (by decide)) (fun _ hk => hk.2) (.string ((rd_T41 l1 x26_2).f0))) (fun _ hk => hk.2) (.slice A177_1 ((rd_T41 l1 x26_2).f1).length c177_1)) (fun _ hk => hk.2) (.slice A177_2 ((rd_T41 l1 x26_2).f2).length c177_2)) (fun _ hk => trivial)))⟩; replace BK178 : Aside0 (w42.heap[gb178]? = some (.cells #[.string ((rd_T41 l1 x26_2).f0), .slice A177_1 ((rd_T41 l1 x26_2).f1).length c177_1, .slice A177_2 ((rd_T41 l1 x26_2).f2).length c177_2] 41 (0, 0))) := ⟨(by rw [hw]; exact (by refine bU ?_; refine blk_put (cs := #[.string ((rd_T41 l1 x26_2).f0), .slice A177_1 ((rd_T41 l1 x26_2).f1).length c177_1, .slice none 0 0]) ?_ 2 _ rfl; refine bU ?_; refine blk_put (cs := #[.string ((rd_T41 l1 x26_2).f0), .slice none 0 0, .slice none 0 0]) ?_ 1 _ rfl; refine bU ?_; refine blk_put (cs := #[.string (⟨#[]⟩ : ByteArray), .slice none 0 0, .slice none 0 0]) ?_ 0 _ rfl; refine bU ?_; exact BK178.out))⟩; replace HB : Aside0 (Below w.heap.size w w42) := ⟨(by rw [hw]; exact (lV1 GE178))⟩; clear hw; have hcz43_0 := cz BK178 0 (.string ((rd_T41 l1 x26_2).f0)); have hcz43_1 := cz BK178 1 (.slice A177_1 ((rd_T41 l1 x26_2).f1).length c177_1); have hcz43_2 := cz BK178 2 (.slice A177_2 ((rd_T41 l1 x26_2).f2).length c177_2); have hfz43_0 := fz BK178 0; have hfz43_1 := fz BK178 1; have hfz43_2 := fz BK178 2) | (go_at_call 16; (with_reducible refine (spec_l21At.calls k2 _ _ l0 ((rd_T41 l1 x26_2).f0) t179 _ ?side1 ?side2 A18.out).mono ?_); (case side1 => exact cU (Kd.C_below HR0.out HB.out)); (case side2 => exact HC0.out); rintro e w44 ⟨rfl, hb⟩; replace HO_6 := Aside0.mk (Kd.R_below (rU HO_6.out) hb); replace HO_7 := Aside0.mk (Kd.R_below (rU HO_7.out) hb); replace HO_8 := Aside0.mk (Kd.R_below (rU HO_8.out) hb); replace BK178 := bB (bV BK178) hb; replace HB := bH (lV1 GE178) hb; (try clear hb); obtain ⟨Ao45, co45, eo45⟩ := Kd.R_slice HO_6.out; subst eo45; have p183 : 0 ≤ (t179 : Int) := of_decide_eq_true hE; have q183 : t179 < (t171.length : Int) := of_decide_eq_true hE; obtain ⟨ad183, e183, hx183_0⟩ := Kd.at_int (Kd.R_reads' HO_6.out).2.2 t179 p183 q183; cases e183; replace p183 := eq_true p183; replace q183 := eq_true q183; obtain ⟨Ao46, co46, eo46⟩ := Kd.R_slice HO_7.out; subst eo46; have p184 : 0 ≤ (x26_2 : Int) := of_decide_eq_true hE; have q184 : x26_2 < (t174.length : Int) := of_decide_eq_true hE; obtain ⟨ad184, e184, hx184_0⟩ := Kd.at_int (Kd.R_reads' HO_7.out).2.2 x26_2 p184 q184; cases e184; replace p184 := eq_true p184; replace q184 := eq_true q184; have hcz47_0 := cz BK178 0 (.string ((rd_T41 l1 x26_2).f0)); have hcz47_1 := cz BK178 1 (.slice A177_1 ((rd_T41 l1 x26_2).f1).length c177_1); have hcz47_2 := cz BK178 2 (.slice A177_2 ((rd_T41 l1 x26_2).f2).length c177_2); have hfz47_0 := fz BK178 0; have hfz47_1 := fz BK178 1; have hfz47_2 := fz BK178 2) | ((with_reducible refine gate_builtin (b := .append) (xs := #[.tmp 48, .tmp 51]) rfl ?_); at_builtin; refine Kd.R_append Kd.string (w0 := w) w.heap.size rfl (.tmp 48) (.tmp 51) 24 9 (.string ⟨#[]⟩) 16 rfl Try.underlying24 info9 rfl (by decide) (by omega) u8 x8_2 ((rd_T41 l1 x26_2).f0) [.string ((rd_T41 l1 x26_2).f0)] (fun _ => True) (fun _ => False) rfl rfl ?aP (fun _ hk => hk.elim) ?aF ?aO ?aB ?aS ?aL ?_; (case aP => exact rfl); (case aB => exact (lV1 GE178)); (case aF => exact (fun _ _ => trivial)); (case aO => exact (rU HO_8.out)); (case aS => exact (below_size (lV1 GE178))); (case aL => have := LMc39.out; omega); intro v186 w48 ho hb hg hat; rw [← Ny185.out] at ho; replace HO_6 := Aside0.mk (Kd.R_over' (rU HO_6.out) (Kd.R_typed (rU HO_8.out)) (by decide) hg); replace HO_7 := Aside0.mk (Kd.R_over' (rU HO_7.out) (Kd.R_typed (rU HO_8.out)) (by decide) hg); replace BK178 := Aside0.mk (blk_grown (g := gb178) (o := .cells #[.string ((rd_T41 l1 x26_2).f0), .slice A177_1 ((rd_T41 l1 x26_2).f1).length c177_1, .slice A177_2 ((rd_T41 l1 x26_2).f2).length c177_2] 41 (0, 0)) (bV BK178) hg (Kd.R_ne HO_8.out BK178.out (by decide))); replace HB := Aside0.mk hb; have HO187 := Aside0.mk ho; clear HO_8; clear ho hb hg hat)); try go_wp2_with (first | ((with_reducible refine gate_dst (N := 10) rfl ?_); refine box_event rfl (N := 10) rfl (cs := #[.string (⟨#[]⟩ : ByteArray), .slice none 0 0, .slice none 0 0]) (t := 41) sE ?_; intro gb178 hg w40 hbox hb; replace HO_6 := Aside0.mk (Kd.R_below (rU HO_6.out) hb); replace HO_7 := Aside0.mk (Kd.R_below (rU HO_7.out) hb); replace HO_8 := Aside0.mk (Kd.R_below (rU HO_8.out) hb); have BK178 := Aside0.mk hbox; have GW178 := gS w hg (lU); have GE178 := gS w hg (lU); replace HB := bH (lU) hb; clear hb hbox hg; have hcz41_0 := cz BK178 0 (.string (⟨#[]⟩ : ByteArray)); have hcz41_1 := cz BK178 1 (.slice none 0 0); have hcz41_2 := cz BK178 2 (.slice none 0 0); have hfz41_0 := fz BK178 0; have hfz41_1 := fz BK178 1; have hfz41_2 := fz BK178 2) | ((with_reducible refine gate_store (t := 41) (p := 10) rfl ?_); (try (rw [drewN_self w40]; generalize hq_ : World.drewN w40 _ = w40; replace HO_6 := Aside0.mk (Kd.R_at hq_ HO_6.out); replace HO_7 := Aside0.mk (Kd.R_at hq_ HO_7.out); replace HO_8 := Aside0.mk (Kd.R_at hq_ HO_8.out); replace BK178 := Aside0.mk (blk_at hq_ BK178.out); replace HB := Aside0.mk (below_at hq_ HB.out); clear hq_)); refine store_event (t := 41) (p := 10) (v := ?vo_w42) (w1 := (((w40.setCell ⟨gb178, 0, none⟩ (.string ((rd_T41 l1 x26_2).f0))).setCell ⟨gb178, 1, none⟩ (.slice A177_1 ((rd_T41 l1 x26_2).f1).length c177_1)).setCell ⟨gb178, 2, none⟩ (.slice A177_2 ((rd_T41 l1 x26_2).f2).length c177_2))) ?hg ?ho ?hn ?hr ?_; (case ho => rfl); (case hg => rfl); (case hn => rfl); (case hr => first | (go_simp; done) | (go_simp; rfl) | (have hq0_ := (blk_cell BK178.out 0).trans (show _ = some _ from rfl); have hf0_ := blk_frozen BK178.out 0; have hq1_ := (blk_cell BK178.out 1).trans (show _ = some _ from rfl); have hf1_ := blk_frozen BK178.out 1; have hq2_ := (blk_cell BK178.out 2).trans (show _ = some _ from rfl); have hf2_ := blk_frozen BK178.out 2; first | (go_simp; done) | (go_simp; rfl))); intro w42 hw; replace HO_6 : Aside0 (Kd.R (Kd.int .u32) 43 w42 w.heap.size (fun k_ => some k_ ≠ (v175 : Value).ownBlock) v172 t171) := ⟨(by rw [hw]; exact (by (with_reducible repeat (first | apply Kd.R_alloc | apply Kd.R_drewN | apply Kd.R_drew)); exact Kd.R_mono (Kd.R_far (p := ⟨gb178, 2, none⟩) (Kd.R_far (p := ⟨gb178, 1, none⟩) (Kd.R_far (p := ⟨gb178, 0, none⟩) (Kd.R_types HO_6.out BK178.out (by decide)) (fun _ hk => hk.2) (.string ((rd_T41 l1 x26_2).f0))) (fun _ hk => hk.2) (.slice A177_1 ((rd_T41 l1 x26_2).f1).length c177_1)) (fun _ hk => hk.2) (.slice A177_2 ((rd_T41 l1 x26_2).f2).length c177_2)) (fun _ hk => hk.1)))⟩; replace HO_7 : Aside0 (Kd.R (Kd.int .u32) 43 w42 w.heap.size (fun k_ => some k_ ≠ (v172 : Value).ownBlock) v175 t174) := ⟨(by rw [hw]; exact (by (with_reducible repeat (first | apply Kd.R_alloc | apply Kd.R_drewN | apply Kd.R_drew)); exact Kd.R_mono (Kd.R_far (p := ⟨gb178, 2, none⟩) (Kd.R_far (p := ⟨gb178, 1, none⟩) (Kd.R_far (p := ⟨gb178, 0, none⟩) (Kd.R_types HO_7.out BK178.out (by decide)) (fun _ hk => hk.2) (.string ((rd_T41 l1 x26_2).f0))) (fun _ hk => hk.2) (.slice A177_1 ((rd_T41 l1 x26_2).f1).length c177_1)) (fun _ hk => hk.2) (.slice A177_2 ((rd_T41 l1 x26_2).f2).length c177_2)) (fun _ hk => hk.1)))⟩; replace HO_8 : Aside0 (Kd.R Kd.string 9 w42 w.heap.size (fun _ => True) u8 x8_2) := ⟨(by rw [hw]; exact (by (with_reducible repeat (first | apply Kd.R_alloc | apply Kd.R_drewN | apply Kd.R_drew)); exact Kd.R_mono (Kd.R_far (p := ⟨gb178, 2, none⟩) (Kd.R_far (p := ⟨gb178, 1, none⟩) (Kd.R_far (p := ⟨gb178, 0, none⟩) (Kd.R_types HO_8.out BK178.out (by decide)) (fun _ hk => hk.2) (.string ((rd_T41 l1 x26_2).f0))) (fun _ hk => hk.2) (.slice A177_1 ((rd_T41 l1 x26_2).f1).length c177_1)) (fun _ hk => hk.2) (.slice A177_2 ((rd_T41 l1 x26_2).f2).length c177_2)) (fun _ hk => trivial)))⟩; replace BK178 : Aside0 (w42.heap[gb178]? = some (.cells #[.string ((rd_T41 l1 x26_2).f0), .slice A177_1 ((rd_T41 l1 x26_2).f1).length c177_1, .slice A177_2 ((rd_T41 l1 x26_2).f2).length c177_2] 41 (0, 0))) := ⟨(by rw [hw]; exact (by refine bU ?_; refine blk_put (cs := #[.string ((rd_T41 l1 x26_2).f0), .slice A177_1 ((rd_T41 l1 x26_2).f1).length c177_1, .slice none 0 0]) ?_ 2 _ rfl; refine bU ?_; refine blk_put (cs := #[.string ((rd_T41 l1 x26_2).f0), .slice none 0 0, .slice none 0 0]) ?_ 1 _ rfl; refine bU ?_; refine blk_put (cs := #[.string (⟨#[]⟩ : ByteArray), .slice none 0 0, .slice none 0 0]) ?_ 0 _ rfl; refine bU ?_; exact BK178.out))⟩; replace HB : Aside0 (Below w.heap.size w w42) := ⟨(by rw [hw]; exact (lV1 GE178))⟩; clear hw; have hcz43_0 := cz BK178 0 (.string ((rd_T41 l1 x26_2).f0)); have hcz43_1 := cz BK178 1 (.slice A177_1 ((rd_T41 l1 x26_2).f1).length c177_1); have hcz43_2 := cz BK178 2 (.slice A177_2 ((rd_T41 l1 x26_2).f2).length c177_2); have hfz43_0 := fz BK178 0; have hfz43_1 := fz BK178 1; have hfz43_2 := fz BK178 2) | (go_at_call 16; (with_reducible refine (spec_l21At.calls k2 _ _ l0 ((rd_T41 l1 x26_2).f0) t179 _ ?side1 ?side2 A18.out).mono ?_); (case side1 => exact cU (Kd.C_below HR0.out HB.out)); (case side2 => exact HC0.out); rintro e w44 ⟨rfl, hb⟩; replace HO_6 := Aside0.mk (Kd.R_below (rU HO_6.out) hb); replace HO_7 := Aside0.mk (Kd.R_below (rU HO_7.out) hb); replace HO_8 := Aside0.mk (Kd.R_below (rU HO_8.out) hb); replace BK178 := bB (bV BK178) hb; replace HB := bH (lV1 GE178) hb; (try clear hb); obtain ⟨Ao45, co45, eo45⟩ := Kd.R_slice HO_6.out; subst eo45; have p183 : 0 ≤ (t179 : Int) := of_decide_eq_true hE; have q183 : t179 < (t171.length : Int) := of_decide_eq_true hE; obtain ⟨ad183, e183, hx183_0⟩ := Kd.at_int (Kd.R_reads' HO_6.out).2.2 t179 p183 q183; cases e183; replace p183 := eq_true p183; replace q183 := eq_true q183; obtain ⟨Ao46, co46, eo46⟩ := Kd.R_slice HO_7.out; subst eo46; have p184 : 0 ≤ (x26_2 : Int) := of_decide_eq_true hE; have q184 : x26_2 < (t174.length : Int) := of_decide_eq_true hE; obtain ⟨ad184, e184, hx184_0⟩ := Kd.at_int (Kd.R_reads' HO_7.out).2.2 x26_2 p184 q184; cases e184; replace p184 := eq_true p184; replace q184 := eq_true q184; have hcz47_0 := cz BK178 0 (.string ((rd_T41 l1 x26_2).f0)); have hcz47_1 := cz BK178 1 (.slice A177_1 ((rd_T41 l1 x26_2).f1).length c177_1); have hcz47_2 := cz BK178 2 (.slice A177_2 ((rd_T41 l1 x26_2).f2).length c177_2); have hfz47_0 := fz BK178 0; have hfz47_1 := fz BK178 1; have hfz47_2 := fz BK178 2) | ((with_reducible refine gate_builtin (b := .append) (xs := #[.tmp 48, .tmp 51]) rfl ?_); at_builtin; refine Kd.R_append Kd.string (w0 := w) w.heap.size rfl (.tmp 48) (.tmp 51) 24 9 (.string ⟨#[]⟩) 16 rfl Try.underlying24 info9 rfl (by decide) (by omega) u8 x8_2 ((rd_T41 l1 x26_2).f0) [.string ((rd_T41 l1 x26_2).f0)] (fun _ => True) (fun _ => False) rfl rfl ?aP (fun _ hk => hk.elim) ?aF ?aO ?aB ?aS ?aL ?_; (case aP => exact rfl); (case aB => exact (lV1 GE178)); (case aF => exact (fun _ _ => trivial)); (case aO => exact (rU HO_8.out)); (case aS => exact (below_size (lV1 GE178))); (case aL => have := LMc39.out; omega); intro v186 w48 ho hb hg hat; rw [← Ny185.out] at ho; replace HO_6 := Aside0.mk (Kd.R_over' (rU HO_6.out) (Kd.R_typed (rU HO_8.out)) (by decide) hg); replace HO_7 := Aside0.mk (Kd.R_over' (rU HO_7.out) (Kd.R_typed (rU HO_8.out)) (by decide) hg); replace BK178 := Aside0.mk (blk_grown (g := gb178) (o := .cells #[.string ((rd_T41 l1 x26_2).f0), .slice A177_1 ((rd_T41 l1 x26_2).f1).length c177_1, .slice A177_2 ((rd_T41 l1 x26_2).f2).length c177_2] 41 (0, 0)) (bV BK178) hg (Kd.R_ne HO_8.out BK178.out (by decide))); replace HB := Aside0.mk hb; have HO187 := Aside0.mk ho; clear HO_8; clear ho hb hg hat)))
               go_roundg k2
               case measure => have := HJ2.out; have := HK2.out; omega
               case rel => exact ⟨(y185), (wrap64 (x26_2 + 1)), tE, H', ⟨by have := HJ2.out; have := HK2.out; omega⟩, ⟨by (with_reducible repeat (first | apply Kd.R_alloc | apply Kd.R_drewN | apply Kd.R_drew)); exact HO_6.out⟩, ⟨by (with_reducible repeat (first | apply Kd.R_alloc | apply Kd.R_drewN | apply Kd.R_drew)); exact HO_7.out⟩, ⟨by (with_reducible repeat (first | apply Kd.R_alloc | apply Kd.R_drewN | apply Kd.R_drew)); exact HO187.out⟩, ⟨by repeat (first | (with_reducible first | exact HB.out | apply below_alloc | apply pw_below_drewN | apply below_drew1 | refine below_set ?_ GE178.out) | exact HB.out)⟩⟩
              ·rw [if_neg c39] at H
               exact absurd H (by simp)
            ·rw [if_neg c30] at H
             exact absurd H (by simp)
           ·rw [if_neg c29] at H
            exact absurd H (by simp)
          ·rw [if_neg c28] at H
           exact absurd H (by simp)
        ·rw [if_neg c17] at H
         exact absurd H (by simp)
       ·rw [if_neg c16] at H
        exact absurd H (by simp)
      ·rw [if_neg c15] at H
       have c15b0 : decide (x26_2 < (l1.length : Int)) = false := decide_eq_false c15
       clear c15
       simp only [Option.some.injEq, Prod.mk.injEq] at H
       obtain ⟨rfl, rfl⟩ := H
       go_wp2
       repeat (go_quiet (fail); try go_wp2)
       go_ret2
       exact ⟨_, eE, by (with_reducible repeat (first | apply Kd.R_alloc | apply Kd.R_drewN | apply Kd.R_drew)); exact HO_8.out, lU⟩
end Go.Proofs.Ytehkpnnidbghhab.PFnExactStaleBetween
namespace Go.Proofs.Ytehkpnnidbghhab.PFnExactStaleBetween
open Go.RowKit Go.Proofs.YtehkpnnidbghhabW.PrintWords Go.Proofs.YtehkpnnidbghhabW.PrintLast Go.Proofs.YtehkpnnidbghhabW.PrintMore
attribute [local go_sem] max2_int min2_int max_two min_two max_three min_three max_four min_four   -- for this text's walks alone
set_option linter.unusedVariables false
set_option linter.unusedSimpArgs false
def laws_toStringS.l0 : Nat → List ByteArray → List ByteArray → Int → Option (List ByteArray)
 | 0, _, _, _ => none
 | k + 1, x0, x3, x4 => if x4 < (x0.length : Int) then (if 0 ≤ x4 then (if x4 < (x3.length : Int) then (laws_toStringS.l0 k x0 (x3.set (x4 : Int).toNat (rdOf ByteArray.empty x0 x4)) (wrap64 (x4 + 1))) else (none)) else (none)) else (some x3)
def laws_toStringS.f (k : Nat) (l0 : List ByteArray) : Option (List ByteArray) := if 0 ≤ (l0.length : Int) then (if ((l0.length : Int) : Int).toNat ≤ 17592186044416 then (laws_toStringS.l0 k l0 (List.replicate ((l0.length : Int) : Int).toNat (⟨#[]⟩ : ByteArray)) 0) else (none)) else (none)
theorem laws_toStringS.mono_l : ∀ k, (∀ y0 y1 y2, LeO (laws_toStringS.l0 k y0 y1 y2) (laws_toStringS.l0 (k + 1) y0 y1 y2))
 | 0 => fun _ _ _ r h => by simp [laws_toStringS.l0] at h
 | k + 1 => by
  have ih0 := laws_toStringS.mono_l k
  ·intro y0 y1 y2
   unfold laws_toStringS.l0
   repeat' first
   | (with_reducible exact ih0 _ _ _)
   | (with_reducible first | exact LeO.refl _ | exact LeO.none _ | refine LeO.ite ?_ ?_ | refine LeO.bind ?_ (fun _ => ?_))
   | exact ih0 _ _ _ | exact LeO.none _ | refine LeO.ite ?_ ?_ | refine LeO.bind ?_ (fun _ => ?_)
theorem laws_toStringS.mono : ∀ a0 k, LeO (laws_toStringS.f k a0) (laws_toStringS.f (k + 1) a0) := by
 intro a0 k
 have ih0 := laws_toStringS.mono_l k
 unfold laws_toStringS.f
 repeat' first
   | (with_reducible exact ih0 _ _ _)
   | (with_reducible first | exact LeO.refl _ | exact LeO.none _ | refine LeO.ite ?_ ?_ | refine LeO.bind ?_ (fun _ => ?_))
   | exact ih0 _ _ _ | exact LeO.none _ | refine LeO.ite ?_ ?_ | refine LeO.bind ?_ (fun _ => ?_)
set_option maxHeartbeats 8000000 in
set_option maxRecDepth 100000 in
theorem laws_toStringS.calls (k : Nat) (A0 : Option Addr) (c0 : Nat) (l0 : List ByteArray) (r : List ByteArray) (w : World) (hr0 : Kd.C Kd.string w A0 l0.length l0) (hc0 : l0.length ≤ c0) (h : laws_toStringS.f k l0 = some r) :
  Calls Try.prog 29 #[.slice A0 l0.length c0] w fun e w' => ∃ v0_ : Value, e = .returned (v0_) ∧ Kd.R Kd.string 9 w' w.heap.size (fun _ => True) v0_ r ∧ Below w.heap.size w w' := by
 have HR0 := Aside0.mk hr0
 have HC0 := Aside0.mk hc0
 clear hr0 hc0
 have HB := Aside0.mk (Below.refl w.heap.size w)
 have H : (if 0 ≤ (l0.length : Int) then (if ((l0.length : Int) : Int).toNat ≤ 17592186044416 then (laws_toStringS.l0 k l0 (List.replicate ((l0.length : Int) : Int).toNat (⟨#[]⟩ : ByteArray)) 0) else (none)) else (none)) = some r := h
 clear h
 by_cases c2 : 0 ≤ (l0.length : Int)
 ·rw [if_pos c2] at H
  have c2b0 := eq_true c2
  have c2b1 : decide (0 ≤ (l0.length : Int)) = true := decide_eq_true c2
  clear c2
  by_cases c3 : ((l0.length : Int) : Int).toNat ≤ 17592186044416
  ·rw [if_pos c3] at H
   have c3b0 := eq_true c3
   have c3b1 : decide (((l0.length : Int) : Int).toNat ≤ 17592186044416) = true := decide_eq_true c3
   clear c3
   obtain ⟨y188, hy188⟩ : ∃ y_ : List ByteArray, y_ = (List.replicate ((l0.length : Int) : Int).toNat (⟨#[]⟩ : ByteArray)) := ⟨_, rfl⟩
   replace H : (laws_toStringS.l0 k l0 y188 0) = some r := by first | (rw [hy188]; with_reducible exact H) | (have H2_ := (Option.bind_some _ _).symm.trans H; rw [hy188]; with_reducible exact H2_) | (have H2_ := (Option.bind_some _ _).symm.trans H; with_reducible exact H2_) | with_reducible exact H | (rw [hy188]; exact H) | exact H
   have Ny188 := Aside0.mk hy188
   clear hy188
   have H' := Aside0.mk H
   clear H
   go_enter Try.func29, Try.ntmps29
   go_wp2_with (first | ((with_reducible refine gate_dst (N := 7) rfl ?_); refine Kd.R_make Kd.string _ 9 rfl (N := 7) rfl 24 _ _ rfl (l0.length : Int) rfl rfl Try.underlying24 (.string ⟨#[]⟩) 16 info9 rfl (by decide) (by omega) (⟨#[]⟩ : ByteArray) (ok := fun _ => True) (okp := fun _ => True) rfl (fun _ hk => hk) trivial (of_decide_eq_true hE) (Nat.le_trans (Nat.mul_le_mul_right _ (of_decide_eq_true hE : (l0.length : Int).toNat ≤ 17592186044416)) (by omega)) (Below.refl _ _) (Nat.le_refl _) ?_; intro v189 w4 ho5 hb hg_ hnew_; clear hg_ hnew_; (first | rw [← Ny188.out] at ho5 | (simp only [Int.reduceToNat] at ho5; rw [← Ny188.out] at ho5)); have HO190 := Aside0.mk (Kd.R_lower ho5 (below_size (lU))); replace HB := bH (lU) hb; clear hb ho5))
   (try simp only [Act.put, List.setIfInBounds_toArray, List.set_cons_zero, List.set_cons_succ])
   go_loopg [4] k (fun kq v4 w' => ∃ (x3_1 : List ByteArray) (x4_1 : Int), v4 = .int .i64 x4_1 ∧ Aside0 (laws_toStringS.l0 kq l0 x3_1 x4_1 = some r) ∧ Aside0 (kq ≤ k) ∧ Aside0 (Kd.R Kd.string 9 w' w.heap.size (fun _ => True) v189 x3_1) ∧ Aside0 (Below w.heap.size w w'))
   case atStart => exact ⟨(y188), (0), tE, H', ⟨Nat.le_refl _⟩, ⟨by (with_reducible repeat (first | apply Kd.R_alloc | apply Kd.R_drewN | apply Kd.R_drew)); exact HO190.out⟩, ⟨by repeat (first | (with_reducible first | exact HB.out | apply below_alloc | apply pw_below_drewN | apply below_drew1) | exact HB.out)⟩⟩
   case round =>
    clear H'
    try clear c2
    try clear c2b0
    try clear c2b1
    try clear p2
    try clear c3
    try clear c3b0
    try clear c3b1
    obtain ⟨x3_1, x4_1, rfl, HA, HK1, HO_3, HB⟩ := hrel
    cases gk with
    | zero => exact absurd HA.out (by simp [laws_toStringS.l0])
    | succ k1 =>
     have H := HA.out
     clear HA
     simp only [laws_toStringS.l0] at H
     by_cases c6 : x4_1 < (l0.length : Int)
     ·rw [if_pos c6] at H
      have c6b0 : decide (x4_1 < (l0.length : Int)) = true := decide_eq_true c6
      clear c6
      by_cases c7 : 0 ≤ x4_1
      ·rw [if_pos c7] at H
       have c7b0 : decide (0 ≤ x4_1) = true := decide_eq_true c7
       clear c7
       by_cases c8 : x4_1 < (x3_1.length : Int)
       ·rw [if_pos c8] at H
        have c8b0 : decide (x4_1 < (x3_1.length : Int)) = true := decide_eq_true c8
        clear c8
        obtain ⟨y192, hy192⟩ : ∃ y_ : List ByteArray, y_ = (x3_1.set (x4_1 : Int).toNat (rdOf ByteArray.empty l0 x4_1)) := ⟨_, rfl⟩
        replace H : (laws_toStringS.l0 k1 l0 y192 (wrap64 (x4_1 + 1))) = some r := by first | (rw [hy192]; with_reducible exact H) | (have H2_ := (Option.bind_some _ _).symm.trans H; rw [hy192]; with_reducible exact H2_) | (have H2_ := (Option.bind_some _ _).symm.trans H; with_reducible exact H2_) | with_reducible exact H | (rw [hy192]; exact H) | exact H
        have Ny192 := Aside0.mk hy192
        clear hy192
        have H' := Aside0.mk H
        clear H
        have p191 : 0 ≤ (x4_1 : Int) := of_decide_eq_true hE
        have q191 : x4_1 < (l0.length : Int) := of_decide_eq_true hE
        obtain ⟨ad191, e191, hx191_0⟩ := Kd.at_string HR0.out x4_1 p191 q191
        cases e191
        replace hx191_0 := (HB.out.cell (World.block_lt_of_cell? w _ hx191_0)).trans hx191_0
        replace p191 := eq_true p191
        replace q191 := eq_true q191
        have p9 : 0 ≤ (x4_1 : Int) := of_decide_eq_true hE
        have q9 : (x4_1 : Int) < ((x3_1.length : Int) : Int) := of_decide_eq_true hE
        obtain ⟨go9, co9, eo9, gb9, gl9, cl9, HG9⟩ := Kd.R_form HO_3.out (by omega)
        (first | cases eo9 | (injection eo9 with ea_ en_ ec_; (first | subst ea_ | (injection ea_ with ea_; subst ea_)); subst ec_; clear en_))
        have GB9 := Aside0.mk gb9
        have GG9 := Aside0.mk HG9
        clear gb9 gl9 HG9
        obtain ⟨hx9_0, hf9_0⟩ := Kd.R_celln (⟨#[]⟩ : ByteArray) HO_3.out (x4_1 : Int) p9 q9
        replace p9 := eq_true p9
        replace q9 := eq_true q9
        have HP10 := Kd.R_putg HO_3.out (x4_1 : Int) (rdOf ByteArray.empty l0 x4_1)
        go_wp2_with (first | ((with_reducible refine gate_store (t := 9) (p := 20) rfl ?_); refine store_event (t := 9) (p := 20) (v := ?vo_w11) (w1 := (wr.setCell ⟨go9, (x4_1 : Int).toNat, none⟩ (.string (rdOf ByteArray.empty l0 x4_1)))) ?hg ?ho ?hn ?hr ?_; (case ho => rfl); (case hg => rfl); (case hn => rfl); (case hr => exact sE); intro w11 hw; have hg : wr.grownBy w11 (some go9) := (by rw [hw]; exact HP10.2); have hp_ : Kd.R Kd.string 9 w11 w.heap.size (fun _ => True) (.slice (some ⟨go9, 0, none⟩) x3_1.length co9) y192 := (by rw [hw, Ny192.out]; exact HP10.1); clear HP10; replace HO_3 := Aside0.mk hp_; replace HB := Aside0.mk ((by rw [hw]; exact below_set (HB.out) GB9.out : Below w.heap.size w w11)); clear hg hw hp_))
        go_roundg k1
        case measure => have := HK1.out; omega
        case rel => exact ⟨(y192), (wrap64 (x4_1 + 1)), tE, H', ⟨by have := HK1.out; omega⟩, ⟨by (with_reducible repeat (first | apply Kd.R_alloc | apply Kd.R_drewN | apply Kd.R_drew)); exact HO_3.out⟩, ⟨by repeat (first | (with_reducible first | exact HB.out | apply below_alloc | apply pw_below_drewN | apply below_drew1) | exact HB.out)⟩⟩
       ·rw [if_neg c8] at H
        exact absurd H (by simp)
      ·rw [if_neg c7] at H
       exact absurd H (by simp)
     ·rw [if_neg c6] at H
      have c6b0 : decide (x4_1 < (l0.length : Int)) = false := decide_eq_false c6
      clear c6
      obtain rfl := Option.some.inj H
      go_wp2
      go_ret
      exact ⟨_, eE, by (with_reducible repeat (first | apply Kd.R_alloc | apply Kd.R_drewN | apply Kd.R_drew)); exact HO_3.out, lU⟩
  ·rw [if_neg c3] at H
   exact absurd H (by simp)
 ·rw [if_neg c2] at H
  exact absurd H (by simp)
def laws_toByteS.l0 : Nat → List Int → List Int → Int → Option (List Int)
 | 0, _, _, _ => none
 | k + 1, x0, x3, x4 => if x4 < (x0.length : Int) then (if 0 ≤ x4 then (if x4 < (x3.length : Int) then (laws_toByteS.l0 k x0 (x3.set (x4 : Int).toNat (rd x0 x4)) (wrap64 (x4 + 1))) else (none)) else (none)) else (some x3)
def laws_toByteS.f (k : Nat) (l0 : List Int) : Option (List Int) := if 0 ≤ (l0.length : Int) then (if ((l0.length : Int) : Int).toNat ≤ 281474976710656 then (laws_toByteS.l0 k l0 (List.replicate ((l0.length : Int) : Int).toNat 0) 0) else (none)) else (none)
theorem laws_toByteS.mono_l : ∀ k, (∀ y0 y1 y2, LeO (laws_toByteS.l0 k y0 y1 y2) (laws_toByteS.l0 (k + 1) y0 y1 y2))
 | 0 => fun _ _ _ r h => by simp [laws_toByteS.l0] at h
 | k + 1 => by
  have ih0 := laws_toByteS.mono_l k
  ·intro y0 y1 y2
   unfold laws_toByteS.l0
   repeat' first
   | (with_reducible exact ih0 _ _ _)
   | (with_reducible first | exact LeO.refl _ | exact LeO.none _ | refine LeO.ite ?_ ?_ | refine LeO.bind ?_ (fun _ => ?_))
   | exact ih0 _ _ _ | exact LeO.none _ | refine LeO.ite ?_ ?_ | refine LeO.bind ?_ (fun _ => ?_)
theorem laws_toByteS.mono : ∀ a0 k, LeO (laws_toByteS.f k a0) (laws_toByteS.f (k + 1) a0) := by
 intro a0 k
 have ih0 := laws_toByteS.mono_l k
 unfold laws_toByteS.f
 repeat' first
   | (with_reducible exact ih0 _ _ _)
   | (with_reducible first | exact LeO.refl _ | exact LeO.none _ | refine LeO.ite ?_ ?_ | refine LeO.bind ?_ (fun _ => ?_))
   | exact ih0 _ _ _ | exact LeO.none _ | refine LeO.ite ?_ ?_ | refine LeO.bind ?_ (fun _ => ?_)
set_option maxHeartbeats 8000000 in
set_option maxRecDepth 100000 in
theorem laws_toByteS.calls (k : Nat) (A0 : Option Addr) (c0 : Nat) (l0 : List Int) (r : List Int) (w : World) (hr0 : Kd.C (Kd.int .u8) w A0 l0.length l0) (hc0 : l0.length ≤ c0) (h : laws_toByteS.f k l0 = some r) :
  Calls Try.prog 30 #[.slice A0 l0.length c0] w fun e w' => ∃ v0_ : Value, e = .returned (v0_) ∧ Kd.R (Kd.int .u8) 5 w' w.heap.size (fun _ => True) v0_ r ∧ Below w.heap.size w w' := by
 have HR0 := Aside0.mk hr0
 have HC0 := Aside0.mk hc0
 clear hr0 hc0
 have HB := Aside0.mk (Below.refl w.heap.size w)
 have H : (if 0 ≤ (l0.length : Int) then (if ((l0.length : Int) : Int).toNat ≤ 281474976710656 then (laws_toByteS.l0 k l0 (List.replicate ((l0.length : Int) : Int).toNat 0) 0) else (none)) else (none)) = some r := h
 clear h
 by_cases c2 : 0 ≤ (l0.length : Int)
 ·rw [if_pos c2] at H
  have c2b0 := eq_true c2
  have c2b1 : decide (0 ≤ (l0.length : Int)) = true := decide_eq_true c2
  clear c2
  by_cases c3 : ((l0.length : Int) : Int).toNat ≤ 281474976710656
  ·rw [if_pos c3] at H
   have c3b0 := eq_true c3
   have c3b1 : decide (((l0.length : Int) : Int).toNat ≤ 281474976710656) = true := decide_eq_true c3
   clear c3
   obtain ⟨y193, hy193⟩ : ∃ y_ : List Int, y_ = (List.replicate ((l0.length : Int) : Int).toNat 0) := ⟨_, rfl⟩
   replace H : (laws_toByteS.l0 k l0 y193 0) = some r := by first | (rw [hy193]; with_reducible exact H) | (have H2_ := (Option.bind_some _ _).symm.trans H; rw [hy193]; with_reducible exact H2_) | (have H2_ := (Option.bind_some _ _).symm.trans H; with_reducible exact H2_) | with_reducible exact H | (rw [hy193]; exact H) | exact H
   have Ny193 := Aside0.mk hy193
   clear hy193
   have H' := Aside0.mk H
   clear H
   go_enter Try.func30, Try.ntmps30
   go_wp2_with (first | ((with_reducible refine gate_dst (N := 7) rfl ?_); refine Kd.R_make (Kd.int .u8) _ 5 rfl (N := 7) rfl 35 _ _ rfl (l0.length : Int) rfl rfl Try.underlying35 (.int .u8 0) 1 info5 rfl (by decide) (by omega) 0 (ok := fun _ => True) (okp := fun _ => True) rfl (fun _ hk => hk) trivial (of_decide_eq_true hE) (Nat.le_trans (Nat.mul_le_mul_right _ (of_decide_eq_true hE : (l0.length : Int).toNat ≤ 281474976710656)) (by omega)) (Below.refl _ _) (Nat.le_refl _) ?_; intro v194 w4 ho5 hb hg_ hnew_; clear hg_ hnew_; (first | rw [← Ny193.out] at ho5 | (simp only [Int.reduceToNat] at ho5; rw [← Ny193.out] at ho5)); have HO195 := Aside0.mk (Kd.R_lower ho5 (below_size (lU))); replace HB := bH (lU) hb; clear hb ho5))
   (try simp only [Act.put, List.setIfInBounds_toArray, List.set_cons_zero, List.set_cons_succ])
   go_loopg [4] k (fun kq v4 w' => ∃ (x3_1 : List Int) (x4_1 : Int), v4 = .int .i64 x4_1 ∧ Aside0 (laws_toByteS.l0 kq l0 x3_1 x4_1 = some r) ∧ Aside0 (kq ≤ k) ∧ Aside0 (Kd.R (Kd.int .u8) 5 w' w.heap.size (fun _ => True) v194 x3_1) ∧ Aside0 (Below w.heap.size w w'))
   case atStart => exact ⟨(y193), (0), tE, H', ⟨Nat.le_refl _⟩, ⟨by (with_reducible repeat (first | apply Kd.R_alloc | apply Kd.R_drewN | apply Kd.R_drew)); exact HO195.out⟩, ⟨by repeat (first | (with_reducible first | exact HB.out | apply below_alloc | apply pw_below_drewN | apply below_drew1) | exact HB.out)⟩⟩
   case round =>
    clear H'
    try clear c2
    try clear c2b0
    try clear c2b1
    try clear p2
    try clear c3
    try clear c3b0
    try clear c3b1
    obtain ⟨x3_1, x4_1, rfl, HA, HK1, HO_3, HB⟩ := hrel
    cases gk with
    | zero => exact absurd HA.out (by simp [laws_toByteS.l0])
    | succ k1 =>
     have H := HA.out
     clear HA
     simp only [laws_toByteS.l0] at H
     by_cases c6 : x4_1 < (l0.length : Int)
     ·rw [if_pos c6] at H
      have c6b0 : decide (x4_1 < (l0.length : Int)) = true := decide_eq_true c6
      clear c6
      by_cases c7 : 0 ≤ x4_1
      ·rw [if_pos c7] at H
       have c7b0 : decide (0 ≤ x4_1) = true := decide_eq_true c7
       clear c7
       by_cases c8 : x4_1 < (x3_1.length : Int)
       ·rw [if_pos c8] at H
        have c8b0 : decide (x4_1 < (x3_1.length : Int)) = true := decide_eq_true c8
        clear c8
        obtain ⟨y197, hy197⟩ : ∃ y_ : List Int, y_ = (x3_1.set (x4_1 : Int).toNat (rd l0 x4_1)) := ⟨_, rfl⟩
        replace H : (laws_toByteS.l0 k1 l0 y197 (wrap64 (x4_1 + 1))) = some r := by first | (rw [hy197]; with_reducible exact H) | (have H2_ := (Option.bind_some _ _).symm.trans H; rw [hy197]; with_reducible exact H2_) | (have H2_ := (Option.bind_some _ _).symm.trans H; with_reducible exact H2_) | with_reducible exact H | (rw [hy197]; exact H) | exact H
        have Ny197 := Aside0.mk hy197
        clear hy197
        have H' := Aside0.mk H
        clear H
        have p196 : 0 ≤ (x4_1 : Int) := of_decide_eq_true hE
        have q196 : x4_1 < (l0.length : Int) := of_decide_eq_true hE
        obtain ⟨ad196, e196, hx196_0⟩ := Kd.at_int HR0.out x4_1 p196 q196
        cases e196
        replace hx196_0 := (HB.out.cell (World.block_lt_of_cell? w _ hx196_0)).trans hx196_0
        replace p196 := eq_true p196
        replace q196 := eq_true q196
        have p9 : 0 ≤ (x4_1 : Int) := of_decide_eq_true hE
        have q9 : (x4_1 : Int) < ((x3_1.length : Int) : Int) := of_decide_eq_true hE
        obtain ⟨go9, co9, eo9, gb9, gl9, cl9, HG9⟩ := Kd.R_form HO_3.out (by omega)
        (first | cases eo9 | (injection eo9 with ea_ en_ ec_; (first | subst ea_ | (injection ea_ with ea_; subst ea_)); subst ec_; clear en_))
        have GB9 := Aside0.mk gb9
        have GG9 := Aside0.mk HG9
        clear gb9 gl9 HG9
        obtain ⟨hx9_0, hf9_0⟩ := Kd.R_celln 0 HO_3.out (x4_1 : Int) p9 q9
        replace p9 := eq_true p9
        replace q9 := eq_true q9
        have HP10 := Kd.R_putg HO_3.out (x4_1 : Int) (rd l0 x4_1)
        go_wp2_with (first | ((with_reducible refine gate_store (t := 5) (p := 20) rfl ?_); refine store_event (t := 5) (p := 20) (v := ?vo_w11) (w1 := (wr.setCell ⟨go9, (x4_1 : Int).toNat, none⟩ (.int .u8 (rd l0 x4_1)))) ?hg ?ho ?hn ?hr ?_; (case ho => rfl); (case hg => rfl); (case hn => rfl); (case hr => exact sE); intro w11 hw; have hg : wr.grownBy w11 (some go9) := (by rw [hw]; exact HP10.2); have hp_ : Kd.R (Kd.int .u8) 5 w11 w.heap.size (fun _ => True) (.slice (some ⟨go9, 0, none⟩) x3_1.length co9) y197 := (by rw [hw, Ny197.out]; exact HP10.1); clear HP10; replace HO_3 := Aside0.mk hp_; replace HB := Aside0.mk ((by rw [hw]; exact below_set (HB.out) GB9.out : Below w.heap.size w w11)); clear hg hw hp_))
        go_roundg k1
        case measure => have := HK1.out; omega
        case rel => exact ⟨(y197), (wrap64 (x4_1 + 1)), tE, H', ⟨by have := HK1.out; omega⟩, ⟨by (with_reducible repeat (first | apply Kd.R_alloc | apply Kd.R_drewN | apply Kd.R_drew)); exact HO_3.out⟩, ⟨by repeat (first | (with_reducible first | exact HB.out | apply below_alloc | apply pw_below_drewN | apply below_drew1) | exact HB.out)⟩⟩
       ·rw [if_neg c8] at H
        exact absurd H (by simp)
      ·rw [if_neg c7] at H
       exact absurd H (by simp)
     ·rw [if_neg c6] at H
      have c6b0 : decide (x4_1 < (l0.length : Int)) = false := decide_eq_false c6
      clear c6
      obtain rfl := Option.some.inj H
      go_wp2
      go_ret
      exact ⟨_, eE, by (with_reducible repeat (first | apply Kd.R_alloc | apply Kd.R_drewN | apply Kd.R_drew)); exact HO_3.out, lU⟩
  ·rw [if_neg c3] at H
   exact absurd H (by simp)
 ·rw [if_neg c2] at H
  exact absurd H (by simp)
def laws_toAsset.f (k : Nat) (a0_0 : ByteArray) (l0_1 : List ByteArray) (l0_2 : List Int) : Option (ByteArray × List ByteArray × List Int) := (laws_toStringS.f k l0_1).bind fun t201 => ((laws_toByteS.f k l0_2).bind fun t204 => (some (a0_0, t201, t204)))
theorem laws_toAsset.mono : ∀ a0 a1 a2 k, LeO (laws_toAsset.f k a0 a1 a2) (laws_toAsset.f (k + 1) a0 a1 a2) := by
 intro a0 a1 a2 k
 unfold laws_toAsset.f
 repeat' first
   | (with_reducible exact laws_toByteS.mono _ _)
   | (with_reducible exact laws_toStringS.mono _ _)
   | (with_reducible first | exact LeO.refl _ | exact LeO.none _ | refine LeO.ite ?_ ?_ | refine LeO.bind ?_ (fun _ => ?_))
   | exact laws_toByteS.mono _ _
   | exact laws_toStringS.mono _ _ | exact LeO.none _ | refine LeO.ite ?_ ?_ | refine LeO.bind ?_ (fun _ => ?_)
set_option maxHeartbeats 8000000 in
set_option maxRecDepth 100000 in
theorem laws_toAsset.calls (k : Nat) (a0_0 : ByteArray) (A0_1 : Option Addr) (c0_1 : Nat) (l0_1 : List ByteArray) (A0_2 : Option Addr) (c0_2 : Nat) (l0_2 : List Int) (r1 : ByteArray) (r2 : List ByteArray) (r3 : List Int) (w : World) (hr0_1 : Kd.C Kd.string w A0_1 l0_1.length l0_1) (hc0_1 : l0_1.length ≤ c0_1) (hr0_2 : Kd.C (Kd.int .u8) w A0_2 l0_2.length l0_2) (hc0_2 : l0_2.length ≤ c0_2) (h : laws_toAsset.f k a0_0 l0_1 l0_2 = some (r1, r2, r3)) :
  Calls Try.prog 17 #[.agg #[.string a0_0, .slice A0_1 l0_1.length c0_1, .slice A0_2 l0_2.length c0_2]] w fun e w' => ∃ v1_ v2_ : Value, e = .returned (.agg #[.string r1, v1_, v2_]) ∧ Kd.R Kd.string 9 w' w.heap.size (fun _ => True) v1_ r2 ∧ Kd.R (Kd.int .u8) 5 w' w.heap.size (fun _ => True) v2_ r3 ∧ Below w.heap.size w w' := by
 have hu37 := Try.underlying37
 have hu41 := Try.underlying41
 have HR0_1 := Aside0.mk hr0_1
 have HC0_1 := Aside0.mk hc0_1
 clear hr0_1 hc0_1
 have HR0_2 := Aside0.mk hr0_2
 have HC0_2 := Aside0.mk hc0_2
 clear hr0_2 hc0_2
 have HB := Aside0.mk (Below.refl w.heap.size w)
 have H : ((laws_toStringS.f k l0_1).bind fun t201 => ((laws_toByteS.f k l0_2).bind fun t204 => (some (a0_0, t201, t204)))) = some (r1, r2, r3) := h
 clear h
 replace H := Option.bind_eq_some_iff.mp H
 obtain ⟨t201, A20, H⟩ := H
 replace H : ((laws_toByteS.f k l0_2).bind fun t204 => (some (a0_0, t201, t204))) = some (r1, r2, r3) := H
 have A2 := Aside0.mk A20
 clear A20
 replace H := Option.bind_eq_some_iff.mp H
 obtain ⟨t204, A30, H⟩ := H
 replace H : (some (a0_0, t201, t204)) = some (r1, r2, r3) := H
 have A3 := Aside0.mk A30
 clear A30
 simp only [Option.some.injEq, Prod.mk.injEq] at H
 obtain ⟨rfl, rfl, rfl⟩ := H
 go_enter Try.func17, Try.ntmps17
 go_wp2_with (first | ((with_reducible refine gate_dst (N := 1) rfl ?_); refine box_event rfl (N := 1) rfl (cs := #[.string a0_0, .slice A0_1 l0_1.length c0_1, .slice A0_2 l0_2.length c0_2]) (t := 37) sE ?_; intro gb198 hg w4 hbox hb; have BK198 := Aside0.mk hbox; have GW198 := gS w hg (lU); have GE198 := gS w hg (lU); replace HB := bH (lU) hb; clear hb hbox hg) | ((with_reducible refine gate_dst (N := 2) rfl ?_); refine box_event rfl (N := 2) rfl (cs := #[.string (⟨#[]⟩ : ByteArray), .slice none 0 0, .slice none 0 0]) (t := 41) sE ?_; intro gb199 hg w5 hbox hb; have BK199 := Aside0.mk hbox; have GW199 := gS w hg (lV1 GE198); have GE199 := gS w hg (lV1 GE198); replace HB := bH (lV1 GE198) hb; have NB198_199 := nL hg (bV BK198); have NB199_198 := nG hg (bV BK198); replace BK198 := bB (bV BK198) hb; clear hb hbox hg) | ((with_reducible refine gate_dst (N := 3) rfl ?_); refine box_event rfl (N := 3) rfl (cs := #[.string (⟨#[]⟩ : ByteArray), .slice none 0 0, .slice none 0 0]) (t := 41) sE ?_; intro gb200 hg w6 hbox hb; have BK200 := Aside0.mk hbox; have GW200 := gS w hg (lV2 GE198 GE199); have GE200 := gS w hg (lV2 GE198 GE199); replace HB := bH (lV2 GE198 GE199) hb; have NB198_200 := nL hg (bV BK198); have NB200_198 := nG hg (bV BK198); replace BK198 := bB (bV BK198) hb; have NB199_200 := nL hg (bV BK199); have NB200_199 := nG hg (bV BK199); replace BK199 := bB (bV BK199) hb; clear hb hbox hg; have hnb7 := NB198_199.out; have hnc7 := NB199_198.out; have hnb8 := NB198_200.out; have hnc8 := NB200_198.out; have hcz9_0 := cz BK198 0 (.string a0_0); have hcz9_1 := cz BK198 1 (.slice A0_1 l0_1.length c0_1); have hcz9_2 := cz BK198 2 (.slice A0_2 l0_2.length c0_2); have hfz9_0 := fz BK198 0; have hfz9_1 := fz BK198 1; have hfz9_2 := fz BK198 2; have hnb10 := NB200_199.out; have hnc10 := NB199_200.out; have hcz11_0 := cz BK200 0 (.string (⟨#[]⟩ : ByteArray)); have hcz11_1 := cz BK200 1 (.slice none 0 0); have hcz11_2 := cz BK200 2 (.slice none 0 0); have hfz11_0 := fz BK200 0; have hfz11_1 := fz BK200 1; have hfz11_2 := fz BK200 2) | ((with_reducible refine gate_store (t := 9) (p := 6) rfl ?_); refine store_event (t := 9) (p := 6) (v := ?vo_w12) (w1 := (w6.setCell ⟨gb200, 0, none⟩ (.string a0_0))) ?hg ?ho ?hn ?hr ?_; (case ho => rfl); (case hg => rfl); (case hn => rfl); (case hr => first | (go_simp; done) | (go_simp; rfl) | (have hq0_ := (blk_cell BK200.out 0).trans (show _ = some _ from rfl); have hf0_ := blk_frozen BK200.out 0; first | (go_simp; done) | (go_simp; rfl))); intro w12 hw; replace BK198 : Aside0 (w12.heap[gb198]? = some (.cells #[.string a0_0, .slice A0_1 l0_1.length c0_1, .slice A0_2 l0_2.length c0_2] 37 (0, 0))) := ⟨(by rw [hw]; exact (bG NB198_200 BK198))⟩; replace BK199 : Aside0 (w12.heap[gb199]? = some (.cells #[.string (⟨#[]⟩ : ByteArray), .slice none 0 0, .slice none 0 0] 41 (0, 0))) := ⟨(by rw [hw]; exact (bG NB199_200 BK199))⟩; replace BK200 : Aside0 (w12.heap[gb200]? = some (.cells #[.string a0_0, .slice none 0 0, .slice none 0 0] 41 (0, 0))) := ⟨(by rw [hw]; exact (by refine bU ?_; refine blk_put (cs := #[.string (⟨#[]⟩ : ByteArray), .slice none 0 0, .slice none 0 0]) ?_ 0 _ rfl; refine bU ?_; exact BK200.out))⟩; replace HB : Aside0 (Below w.heap.size w w12) := ⟨(by rw [hw]; exact (lV3 GE198 GE199 GE200))⟩; clear hw; have hcz13_0 := cz BK198 0 (.string a0_0); have hcz13_1 := cz BK198 1 (.slice A0_1 l0_1.length c0_1); have hcz13_2 := cz BK198 2 (.slice A0_2 l0_2.length c0_2); have hfz13_0 := fz BK198 0; have hfz13_1 := fz BK198 1; have hfz13_2 := fz BK198 2) | ((with_reducible refine gate_callee (f := 29) rfl ?_); refine goesL_ (some 9) rfl rfl Try.func29 (by kernel_rfl) rfl #[.slice A0_1 l0_1.length c0_1] rfl aE ?_; (with_reducible refine (laws_toStringS.calls k _ _ l0_1 t201 _ ?side1 ?side2 A2.out).mono ?_); (case side1 => exact cU (Kd.C_below HR0_1.out HB.out)); (case side2 => exact HC0_1.out); rintro e w14 ⟨v202, rfl, ho0, hb⟩; refine ⟨_, rfl, ?_⟩; have HO203 := Aside0.mk (Kd.R_lower ho0 (below_size (lV3 GE198 GE199 GE200))); replace BK198 := bB (bV BK198) hb; replace BK199 := bB (bV BK199) hb; replace BK200 := bB (bV BK200) hb; replace HB := bH (lV3 GE198 GE199 GE200) hb; (try clear hb); (try clear ho0); obtain ⟨Ao15, co15, eo15⟩ := Kd.R_slice HO203.out; subst eo15; have hcz16_0 := cz BK200 0 (.string a0_0); have hcz16_1 := cz BK200 1 (.slice none 0 0); have hcz16_2 := cz BK200 2 (.slice none 0 0); have hfz16_0 := fz BK200 0; have hfz16_1 := fz BK200 1; have hfz16_2 := fz BK200 2) | ((with_reducible refine gate_store (t := 24) (p := 10) rfl ?_); refine store_event (t := 24) (p := 10) (v := ?vo_w17) (w1 := (w14.setCell ⟨gb200, 1, none⟩ (.slice Ao15 t201.length co15))) ?hg ?ho ?hn ?hr ?_; (case ho => rfl); (case hg => rfl); (case hn => rfl); (case hr => first | (go_simp; done) | (go_simp; rfl) | (have hq0_ := (blk_cell BK200.out 1).trans (show _ = some _ from rfl); have hf0_ := blk_frozen BK200.out 1; first | (go_simp; done) | (go_simp; rfl))); intro w17 hw; replace HO203 : Aside0 (Kd.R Kd.string 9 w17 w.heap.size (fun _ => True) (.slice Ao15 t201.length co15) t201) := ⟨(by rw [hw]; exact (by (with_reducible repeat (first | apply Kd.R_alloc | apply Kd.R_drewN | apply Kd.R_drew)); exact Kd.R_mono (Kd.R_far (p := ⟨gb200, 1, none⟩) (Kd.R_types HO203.out BK200.out (by decide)) (fun _ hk => hk.2) (.slice Ao15 t201.length co15)) (fun _ hk => trivial)))⟩; replace BK198 : Aside0 (w17.heap[gb198]? = some (.cells #[.string a0_0, .slice A0_1 l0_1.length c0_1, .slice A0_2 l0_2.length c0_2] 37 (0, 0))) := ⟨(by rw [hw]; exact (bG NB198_200 BK198))⟩; replace BK199 : Aside0 (w17.heap[gb199]? = some (.cells #[.string (⟨#[]⟩ : ByteArray), .slice none 0 0, .slice none 0 0] 41 (0, 0))) := ⟨(by rw [hw]; exact (bG NB199_200 BK199))⟩; replace BK200 : Aside0 (w17.heap[gb200]? = some (.cells #[.string a0_0, .slice Ao15 t201.length co15, .slice none 0 0] 41 (0, 0))) := ⟨(by rw [hw]; exact (by refine bU ?_; refine blk_put (cs := #[.string a0_0, .slice none 0 0, .slice none 0 0]) ?_ 1 _ rfl; refine bU ?_; exact BK200.out))⟩; replace HB : Aside0 (Below w.heap.size w w17) := ⟨(by rw [hw]; exact (lV3 GE198 GE199 GE200))⟩; clear hw; have hcz18_0 := cz BK198 0 (.string a0_0); have hcz18_1 := cz BK198 1 (.slice A0_1 l0_1.length c0_1); have hcz18_2 := cz BK198 2 (.slice A0_2 l0_2.length c0_2); have hfz18_0 := fz BK198 0; have hfz18_1 := fz BK198 1; have hfz18_2 := fz BK198 2) | ((with_reducible refine gate_callee (f := 30) rfl ?_); refine goesL_ (some 13) rfl rfl Try.func30 (by kernel_rfl) rfl #[.slice A0_2 l0_2.length c0_2] rfl aE ?_; (with_reducible refine (laws_toByteS.calls k _ _ l0_2 t204 _ ?side1 ?side2 A3.out).mono ?_); (case side1 => exact cU (Kd.C_below HR0_2.out HB.out)); (case side2 => exact HC0_2.out); rintro e w19 ⟨v205, rfl, ho0, hb⟩; refine ⟨_, rfl, ?_⟩; replace HO203 := Aside0.mk (Kd.R_below (rU HO203.out) hb); have HO206 := Aside0.mk (Kd.R_lower ho0 (below_size (lV3 GE198 GE199 GE200))); replace BK198 := bB (bV BK198) hb; replace BK199 := bB (bV BK199) hb; replace BK200 := bB (bV BK200) hb; replace HB := bH (lV3 GE198 GE199 GE200) hb; (try clear hb); (try clear ho0); obtain ⟨Ao20, co20, eo20⟩ := Kd.R_slice HO206.out; subst eo20; have hcz21_0 := cz BK200 0 (.string a0_0); have hcz21_1 := cz BK200 1 (.slice Ao15 t201.length co15); have hcz21_2 := cz BK200 2 (.slice none 0 0); have hfz21_0 := fz BK200 0; have hfz21_1 := fz BK200 1; have hfz21_2 := fz BK200 2) | ((with_reducible refine gate_store (t := 35) (p := 14) rfl ?_); refine store_event (t := 35) (p := 14) (v := ?vo_w22) (w1 := (w19.setCell ⟨gb200, 2, none⟩ (.slice Ao20 t204.length co20))) ?hg ?ho ?hn ?hr ?_; (case ho => rfl); (case hg => rfl); (case hn => rfl); (case hr => first | (go_simp; done) | (go_simp; rfl) | (have hq0_ := (blk_cell BK200.out 2).trans (show _ = some _ from rfl); have hf0_ := blk_frozen BK200.out 2; first | (go_simp; done) | (go_simp; rfl))); intro w22 hw; replace HO203 : Aside0 (Kd.R Kd.string 9 w22 w.heap.size (fun _ => True) (.slice Ao15 t201.length co15) t201) := ⟨(by rw [hw]; exact (by (with_reducible repeat (first | apply Kd.R_alloc | apply Kd.R_drewN | apply Kd.R_drew)); exact Kd.R_mono (Kd.R_far (p := ⟨gb200, 2, none⟩) (Kd.R_types HO203.out BK200.out (by decide)) (fun _ hk => hk.2) (.slice Ao20 t204.length co20)) (fun _ hk => trivial)))⟩; replace HO206 : Aside0 (Kd.R (Kd.int .u8) 5 w22 w.heap.size (fun _ => True) (.slice Ao20 t204.length co20) t204) := ⟨(by rw [hw]; exact (by (with_reducible repeat (first | apply Kd.R_alloc | apply Kd.R_drewN | apply Kd.R_drew)); exact Kd.R_mono (Kd.R_far (p := ⟨gb200, 2, none⟩) (Kd.R_types HO206.out BK200.out (by decide)) (fun _ hk => hk.2) (.slice Ao20 t204.length co20)) (fun _ hk => trivial)))⟩; replace BK198 : Aside0 (w22.heap[gb198]? = some (.cells #[.string a0_0, .slice A0_1 l0_1.length c0_1, .slice A0_2 l0_2.length c0_2] 37 (0, 0))) := ⟨(by rw [hw]; exact (bG NB198_200 BK198))⟩; replace BK199 : Aside0 (w22.heap[gb199]? = some (.cells #[.string (⟨#[]⟩ : ByteArray), .slice none 0 0, .slice none 0 0] 41 (0, 0))) := ⟨(by rw [hw]; exact (bG NB199_200 BK199))⟩; replace BK200 : Aside0 (w22.heap[gb200]? = some (.cells #[.string a0_0, .slice Ao15 t201.length co15, .slice Ao20 t204.length co20] 41 (0, 0))) := ⟨(by rw [hw]; exact (by refine bU ?_; refine blk_put (cs := #[.string a0_0, .slice Ao15 t201.length co15, .slice none 0 0]) ?_ 2 _ rfl; refine bU ?_; exact BK200.out))⟩; replace HB : Aside0 (Below w.heap.size w w22) := ⟨(by rw [hw]; exact (lV3 GE198 GE199 GE200))⟩; clear hw; have hcz23_0 := cz BK200 0 (.string a0_0); have hcz23_1 := cz BK200 1 (.slice Ao15 t201.length co15); have hcz23_2 := cz BK200 2 (.slice Ao20 t204.length co20); have hfz23_0 := fz BK200 0; have hfz23_1 := fz BK200 1; have hfz23_2 := fz BK200 2; have hcz24_0 := cz BK199 0 (.string (⟨#[]⟩ : ByteArray)); have hcz24_1 := cz BK199 1 (.slice none 0 0); have hcz24_2 := cz BK199 2 (.slice none 0 0); have hfz24_0 := fz BK199 0; have hfz24_1 := fz BK199 1; have hfz24_2 := fz BK199 2) | ((with_reducible refine gate_store (t := 41) (p := 2) rfl ?_); refine store_event (t := 41) (p := 2) (v := ?vo_w25) (w1 := (((w22.setCell ⟨gb199, 0, none⟩ (.string a0_0)).setCell ⟨gb199, 1, none⟩ (.slice Ao15 t201.length co15)).setCell ⟨gb199, 2, none⟩ (.slice Ao20 t204.length co20))) ?hg ?ho ?hn ?hr ?_; (case ho => rfl); (case hg => rfl); (case hn => rfl); (case hr => first | (go_simp; done) | (go_simp; rfl) | (have hq0_ := (blk_cell BK199.out 0).trans (show _ = some _ from rfl); have hf0_ := blk_frozen BK199.out 0; have hq1_ := (blk_cell BK199.out 1).trans (show _ = some _ from rfl); have hf1_ := blk_frozen BK199.out 1; have hq2_ := (blk_cell BK199.out 2).trans (show _ = some _ from rfl); have hf2_ := blk_frozen BK199.out 2; first | (go_simp; done) | (go_simp; rfl))); intro w25 hw; replace HO203 : Aside0 (Kd.R Kd.string 9 w25 w.heap.size (fun _ => True) (.slice Ao15 t201.length co15) t201) := ⟨(by rw [hw]; exact (by (with_reducible repeat (first | apply Kd.R_alloc | apply Kd.R_drewN | apply Kd.R_drew)); exact Kd.R_mono (Kd.R_far (p := ⟨gb199, 2, none⟩) (Kd.R_far (p := ⟨gb199, 1, none⟩) (Kd.R_far (p := ⟨gb199, 0, none⟩) (Kd.R_types HO203.out BK199.out (by decide)) (fun _ hk => hk.2) (.string a0_0)) (fun _ hk => hk.2) (.slice Ao15 t201.length co15)) (fun _ hk => hk.2) (.slice Ao20 t204.length co20)) (fun _ hk => trivial)))⟩; replace HO206 : Aside0 (Kd.R (Kd.int .u8) 5 w25 w.heap.size (fun _ => True) (.slice Ao20 t204.length co20) t204) := ⟨(by rw [hw]; exact (by (with_reducible repeat (first | apply Kd.R_alloc | apply Kd.R_drewN | apply Kd.R_drew)); exact Kd.R_mono (Kd.R_far (p := ⟨gb199, 2, none⟩) (Kd.R_far (p := ⟨gb199, 1, none⟩) (Kd.R_far (p := ⟨gb199, 0, none⟩) (Kd.R_types HO206.out BK199.out (by decide)) (fun _ hk => hk.2) (.string a0_0)) (fun _ hk => hk.2) (.slice Ao15 t201.length co15)) (fun _ hk => hk.2) (.slice Ao20 t204.length co20)) (fun _ hk => trivial)))⟩; replace BK198 : Aside0 (w25.heap[gb198]? = some (.cells #[.string a0_0, .slice A0_1 l0_1.length c0_1, .slice A0_2 l0_2.length c0_2] 37 (0, 0))) := ⟨(by rw [hw]; exact (bG NB198_199 BK198))⟩; replace BK199 : Aside0 (w25.heap[gb199]? = some (.cells #[.string a0_0, .slice Ao15 t201.length co15, .slice Ao20 t204.length co20] 41 (0, 0))) := ⟨(by rw [hw]; exact (by refine bU ?_; refine blk_put (cs := #[.string a0_0, .slice Ao15 t201.length co15, .slice none 0 0]) ?_ 2 _ rfl; refine bU ?_; refine blk_put (cs := #[.string a0_0, .slice none 0 0, .slice none 0 0]) ?_ 1 _ rfl; refine bU ?_; refine blk_put (cs := #[.string (⟨#[]⟩ : ByteArray), .slice none 0 0, .slice none 0 0]) ?_ 0 _ rfl; refine bU ?_; exact BK199.out))⟩; replace BK200 : Aside0 (w25.heap[gb200]? = some (.cells #[.string a0_0, .slice Ao15 t201.length co15, .slice Ao20 t204.length co20] 41 (0, 0))) := ⟨(by rw [hw]; exact (bG NB200_199 BK200))⟩; replace HB : Aside0 (Below w.heap.size w w25) := ⟨(by rw [hw]; exact (lV3 GE198 GE199 GE200))⟩; clear hw))
 refine bodyPost_ret (results_cell_row rfl _ _ gb199 41 #[.string a0_0, .slice Ao15 t201.length co15, .slice Ao20 t204.length co20] (0, 0) _ rfl (bV BK199) Try.underlying41 rfl (by kernel_rfl)) rfl ?_
 exact ⟨_, _, eE, by (with_reducible repeat (first | apply Kd.R_alloc | apply Kd.R_drewN | apply Kd.R_drew)); exact HO203.out, by (with_reducible repeat (first | apply Kd.R_alloc | apply Kd.R_drewN | apply Kd.R_drew)); exact HO206.out, lV3 GE198 GE199 GE200⟩
def laws_toAssetS.l0 : Nat → List (S37) → List (S41) → Int → Option ((List (S41)))
 | 0, _, _, _ => none
 | k + 1, x0, x3, x4 => if x4 < (x0.length : Int) then (if 0 ≤ x4 then ((laws_toAsset.f k ((rd_T37 x0 x4).f0) ((rd_T37 x0 x4).f1) ((rd_T37 x0 x4).f2)).bind fun bt211 => (if x4 < (x3.length : Int) then (laws_toAssetS.l0 k x0 (x3.set (x4 : Int).toNat (⟨bt211.1, bt211.2.1, bt211.2.2⟩ : S41)) (wrap64 (x4 + 1))) else (none))) else (none)) else (some x3)
def laws_toAssetS.f (k : Nat) (l0 : List (S37)) : Option ((List (S41))) := if 0 ≤ (l0.length : Int) then (if ((l0.length : Int) : Int).toNat ≤ 4398046511104 then (laws_toAssetS.l0 k l0 (List.replicate ((l0.length : Int) : Int).toNat z41) 0) else (none)) else (none)
theorem laws_toAssetS.mono_l : ∀ k, (∀ y0 y1 y2, LeO (laws_toAssetS.l0 k y0 y1 y2) (laws_toAssetS.l0 (k + 1) y0 y1 y2))
 | 0 => fun _ _ _ r h => by simp [laws_toAssetS.l0] at h
 | k + 1 => by
  have ih0 := laws_toAssetS.mono_l k
  ·intro y0 y1 y2
   unfold laws_toAssetS.l0
   repeat' first
   | (with_reducible exact ih0 _ _ _)
   | (with_reducible exact laws_toAsset.mono _ _ _ _)
   | (with_reducible first | exact LeO.refl _ | exact LeO.none _ | refine LeO.ite ?_ ?_ | refine LeO.bind ?_ (fun _ => ?_))
   | exact ih0 _ _ _
   | exact laws_toAsset.mono _ _ _ _ | exact LeO.none _ | refine LeO.ite ?_ ?_ | refine LeO.bind ?_ (fun _ => ?_)
theorem laws_toAssetS.mono : ∀ a0 k, LeO (laws_toAssetS.f k a0) (laws_toAssetS.f (k + 1) a0) := by
 intro a0 k
 have ih0 := laws_toAssetS.mono_l k
 unfold laws_toAssetS.f
 repeat' first
   | (with_reducible exact ih0 _ _ _)
   | (with_reducible exact laws_toAsset.mono _ _ _ _)
   | (with_reducible first | exact LeO.refl _ | exact LeO.none _ | refine LeO.ite ?_ ?_ | refine LeO.bind ?_ (fun _ => ?_))
   | exact ih0 _ _ _
   | exact laws_toAsset.mono _ _ _ _ | exact LeO.none _ | refine LeO.ite ?_ ?_ | refine LeO.bind ?_ (fun _ => ?_)
set_option maxHeartbeats 8000000 in
set_option maxRecDepth 100000 in
theorem laws_toAssetS.calls (k : Nat) (A0 : Option Addr) (c0 : Nat) (l0 : List (S37)) (r : List (S41)) (w : World) (hr0 : Kd.C k37 w A0 l0.length l0) (hc0 : l0.length ≤ c0) (h : laws_toAssetS.f k l0 = some r) :
  Calls Try.prog 6 #[.slice A0 l0.length c0] w fun e w' => ∃ v0_ : Value, e = .returned (v0_) ∧ Kd.S k41 41 w' w.heap.size (fun _ => True) v0_ r ∧ Below w.heap.size w w' := by
 have hu37 := Try.underlying37
 have hu41 := Try.underlying41
 have HR0 := Aside0.mk hr0
 have HC0 := Aside0.mk hc0
 clear hr0 hc0
 have HB := Aside0.mk (Below.refl w.heap.size w)
 have H : (if 0 ≤ (l0.length : Int) then (if ((l0.length : Int) : Int).toNat ≤ 4398046511104 then (laws_toAssetS.l0 k l0 (List.replicate ((l0.length : Int) : Int).toNat z41) 0) else (none)) else (none)) = some r := h
 clear h
 by_cases c2 : 0 ≤ (l0.length : Int)
 ·rw [if_pos c2] at H
  have c2b0 := eq_true c2
  have c2b1 : decide (0 ≤ (l0.length : Int)) = true := decide_eq_true c2
  clear c2
  by_cases c3 : ((l0.length : Int) : Int).toNat ≤ 4398046511104
  ·rw [if_pos c3] at H
   have c3b0 := eq_true c3
   have c3b1 : decide (((l0.length : Int) : Int).toNat ≤ 4398046511104) = true := decide_eq_true c3
   clear c3
   obtain ⟨y207, hy207⟩ : ∃ y_ : List (S41), y_ = (List.replicate ((l0.length : Int) : Int).toNat z41) := ⟨_, rfl⟩
   replace H : (laws_toAssetS.l0 k l0 y207 0) = some r := by first | (rw [hy207]; with_reducible exact H) | (have H2_ := (Option.bind_some _ _).symm.trans H; rw [hy207]; with_reducible exact H2_) | (have H2_ := (Option.bind_some _ _).symm.trans H; with_reducible exact H2_) | with_reducible exact H | (rw [hy207]; exact H) | exact H
   have Ny207 := Aside0.mk hy207
   clear hy207
   have H' := Aside0.mk H
   clear H
   go_enter Try.func6, Try.ntmps6
   go_wp2_with (first | ((with_reducible refine gate_dst (N := 7) rfl ?_); refine Kd.S_make k41 _ 41 rfl (N := 7) rfl 27 _ _ rfl (l0.length : Int) rfl rfl Try.underlying27 (.agg #[(.string ⟨#[]⟩), (.slice none 0 0), (.slice none 0 0)]) 64 info41 rfl (by decide) (by omega) z41 (ok := fun _ => True) (okp := fun _ => True) (k41_mkM _ _ _ z41 (Kd.R_nil _ _ _ _ _) (Kd.R_nil _ _ _ _ _)) (fun _ hk => hk) trivial (of_decide_eq_true hE) (Nat.le_trans (Nat.mul_le_mul_right _ (of_decide_eq_true hE : (l0.length : Int).toNat ≤ 4398046511104)) (by omega)) (Below.refl _ _) (Nat.le_refl _) ?_; intro v208 w4 ho5 hb hg_ hnew_; clear hg_ hnew_; (first | rw [← Ny207.out] at ho5 | (simp only [Int.reduceToNat] at ho5; rw [← Ny207.out] at ho5)); have HO209 := Aside0.mk (Kd.S_lower ho5 (below_size (lU))); replace HB := bH (lU) hb; clear hb ho5))
   (try simp only [Act.put, List.setIfInBounds_toArray, List.set_cons_zero, List.set_cons_succ])
   go_loopg [4] k (fun kq v4 w' => ∃ (x3_1 : List (S41)) (x4_1 : Int), v4 = .int .i64 x4_1 ∧ Aside0 (laws_toAssetS.l0 kq l0 x3_1 x4_1 = some r) ∧ Aside0 (kq ≤ k) ∧ Aside0 (Kd.S k41 41 w' w.heap.size (fun _ => True) v208 x3_1) ∧ Aside0 (Below w.heap.size w w'))
   case atStart => exact ⟨(y207), (0), tE, H', ⟨Nat.le_refl _⟩, ⟨by (with_reducible repeat (first | apply Kd.S_alloc | apply Kd.S_drewN | apply Kd.S_drew)); exact HO209.out⟩, ⟨by repeat (first | (with_reducible first | exact HB.out | apply below_alloc | apply pw_below_drewN | apply below_drew1) | exact HB.out)⟩⟩
   case round =>
    clear H'
    try clear c2
    try clear c2b0
    try clear c2b1
    try clear p2
    try clear c3
    try clear c3b0
    try clear c3b1
    obtain ⟨x3_1, x4_1, rfl, HA, HK1, HO_3, HB⟩ := hrel
    cases gk with
    | zero => exact absurd HA.out (by simp [laws_toAssetS.l0])
    | succ k1 =>
     have H := HA.out
     clear HA
     simp only [laws_toAssetS.l0] at H
     by_cases c6 : x4_1 < (l0.length : Int)
     ·rw [if_pos c6] at H
      have c6b0 : decide (x4_1 < (l0.length : Int)) = true := decide_eq_true c6
      clear c6
      by_cases c7 : 0 ≤ x4_1
      ·rw [if_pos c7] at H
       have c7b0 : decide (0 ≤ x4_1) = true := decide_eq_true c7
       clear c7
       replace H := Option.bind_eq_some_iff.mp H
       obtain ⟨⟨t211, t212, t215⟩, A80, H⟩ := H
       replace H : (if x4_1 < (x3_1.length : Int) then (laws_toAssetS.l0 k1 l0 (x3_1.set (x4_1 : Int).toNat (⟨t211, t212, t215⟩ : S41)) (wrap64 (x4_1 + 1))) else (none)) = some r := H
       have A8 := Aside0.mk A80
       clear A80
       by_cases c9 : x4_1 < (x3_1.length : Int)
       ·rw [if_pos c9] at H
        have c9b0 : decide (x4_1 < (x3_1.length : Int)) = true := decide_eq_true c9
        clear c9
        obtain ⟨y218, hy218⟩ : ∃ y_ : List (S41), y_ = (x3_1.set (x4_1 : Int).toNat (⟨t211, t212, t215⟩ : S41)) := ⟨_, rfl⟩
        replace H : (laws_toAssetS.l0 k1 l0 y218 (wrap64 (x4_1 + 1))) = some r := by first | (rw [hy218]; with_reducible exact H) | (have H2_ := (Option.bind_some _ _).symm.trans H; rw [hy218]; with_reducible exact H2_) | (have H2_ := (Option.bind_some _ _).symm.trans H; with_reducible exact H2_) | with_reducible exact H | (rw [hy218]; exact H) | exact H
        have Ny218 := Aside0.mk hy218
        clear hy218
        have H' := Aside0.mk H
        clear H
        have p210 : 0 ≤ (x4_1 : Int) := of_decide_eq_true hE
        have q210 : x4_1 < (l0.length : Int) := of_decide_eq_true hE
        obtain ⟨ad210, A210_1, c210_1, A210_2, c210_2, e210, hx210_0, hx210_1, hx210_2, hl210_1, hi210_1, hl210_2, hi210_2⟩ := at_T37 HR0.out x4_1 p210 q210
        cases e210
        replace hx210_0 := (HB.out.cell (World.block_lt_of_cell? w _ hx210_0)).trans hx210_0
        replace hx210_1 := (HB.out.cell (World.block_lt_of_cell? w _ hx210_1)).trans hx210_1
        replace hx210_2 := (HB.out.cell (World.block_lt_of_cell? w _ hx210_2)).trans hx210_2
        have HR210_1 := Aside0.mk hi210_1
        have HC210_1 := Aside0.mk hl210_1
        clear hi210_1 hl210_1
        have HR210_2 := Aside0.mk hi210_2
        have HC210_2 := Aside0.mk hl210_2
        clear hi210_2 hl210_2
        replace p210 := eq_true p210
        replace q210 := eq_true q210
        go_wp2_with (first | ((with_reducible refine gate_callee (f := 17) rfl ?_); refine goesL_ (some 20) rfl rfl Try.func17 (by kernel_rfl) rfl #[.agg #[.string ((rd_T37 l0 x4_1).f0), .slice A210_1 ((rd_T37 l0 x4_1).f1).length c210_1, .slice A210_2 ((rd_T37 l0 x4_1).f2).length c210_2]] rfl aE ?_; (with_reducible refine (laws_toAsset.calls k1 ((rd_T37 l0 x4_1).f0) _ _ ((rd_T37 l0 x4_1).f1) _ _ ((rd_T37 l0 x4_1).f2) t211 t212 t215 _ ?side1 ?side2 ?side3 ?side4 A8.out).mono ?_); (case side1 => exact cU (Kd.C_below HR210_1.out HB.out)); (case side2 => exact HC210_1.out); (case side3 => exact cU (Kd.C_below HR210_2.out HB.out)); (case side4 => exact HC210_2.out); rintro e w11 ⟨v213, v216, rfl, ho0, ho1, hb⟩; refine ⟨_, rfl, ?_⟩; replace HO_3 := Aside0.mk (Kd.S_mono (Kd.S_told (Kd.S_told (Kd.S_old (by (with_reducible repeat (first | apply Kd.S_alloc | apply Kd.S_drewN | apply Kd.S_drew)); exact HO_3.out) hb) (Kd.R_base ho0)) (Kd.R_base ho1)) (fun _ h_ => h_.1)); have HO214 := Aside0.mk (Kd.R_lower ho0 (below_size (lU))); have HO217 := Aside0.mk (Kd.R_lower ho1 (below_size (lU))); replace HB := bH (lU) hb; (try clear hb); (try clear ho0); (try clear ho1); have p10 : 0 ≤ (x4_1 : Int) := of_decide_eq_true hE; have q10 : (x4_1 : Int) < ((x3_1.length : Int) : Int) := of_decide_eq_true hE; obtain ⟨go10, co10, eo10, gb10, gl10, cl10, HG10⟩ := Kd.S_form HO_3.out (by omega); (first | cases eo10 | (injection eo10 with ea_ en_ ec_; (first | subst ea_ | (injection ea_ with ea_; subst ea_)); subst ec_; clear en_)); have GB10 := Aside0.mk gb10; have GG10 := Aside0.mk HG10; clear gb10 gl10 HG10; obtain ⟨_, ce10, hcl10, hM10, hcc10, hfr10, _, _⟩ := Kd.S_elem HO_3.out z41 (x4_1 : Int) p10 q10; obtain ⟨ve10_1, ve10_2, rfl, ge10_1, ge10_2⟩ := k41_openM hM10; have hx10_0 : w11.cell? ⟨go10, (x4_1 : Int).toNat * 3, none⟩ = some (.string ((rd_T41 x3_1 x4_1).f0)) := hcc10 0 _ rfl; have hx10_1 : w11.cell? ⟨go10, (x4_1 : Int).toNat * 3 + 1, none⟩ = some (ve10_1) := hcc10 1 _ rfl; have hx10_2 : w11.cell? ⟨go10, (x4_1 : Int).toNat * 3 + 2, none⟩ = some (ve10_2) := hcc10 2 _ rfl; have hf10_0 : w11.frozen? ⟨go10, (x4_1 : Int).toNat * 3, none⟩ = false := hfr10 0; have hf10_1 : w11.frozen? ⟨go10, (x4_1 : Int).toNat * 3 + 1, none⟩ = false := hfr10 1; have hf10_2 : w11.frozen? ⟨go10, (x4_1 : Int).toNat * 3 + 2, none⟩ = false := hfr10 2; (try clear hcl10); (try clear hcc10); (try clear hfr10); (try clear hM10); replace p10 := eq_true p10; replace q10 := eq_true q10; obtain ⟨Ao14, co14, eo14⟩ := Kd.R_slice HO214.out; subst eo14; obtain ⟨Ao15, co15, eo15⟩ := Kd.R_slice HO217.out; subst eo15; have n_ := Aside0.mk (Kd.S_mono (ok' := (fun k_ => some k_ ≠ (.slice Ao14 t212.length co14 : Value).ownBlock ∧ some k_ ≠ (.slice Ao15 t215.length co15 : Value).ownBlock)) HO_3.out (fun k_ hk => ⟨hk.1.2, hk.2⟩)); clear HO_3; have HO_3 := n_; clear n_; have HX12 := Aside0.mk (show Kd.S k41 41 w11 w.heap.size (fun k_ => ((fun _ => True)) k_ ∧ ¬ ((fun k_ => some k_ = (.slice Ao14 t212.length co14 : Value).ownBlock ∨ some k_ = (.slice Ao15 t215.length co15 : Value).ownBlock)) k_) (.slice (some ⟨go10, 0, none⟩) x3_1.length co10) x3_1 from (by (with_reducible repeat (first | apply Kd.S_alloc | apply Kd.S_drewN | apply Kd.S_drew)); exact Kd.S_mono HO_3.out (fun k_ hk => ⟨trivial, fun e_ => e_.elim (fun h_ => hk.1 h_) (fun h_ => hk.2 h_)⟩))); obtain ⟨oki12, ce12, hcl12, hM12, hcc12, hfr12, hoki12, hH12⟩ := Kd.S_elem HX12.out z41 (x4_1 : Int) (of_decide_eq_true hE) (by have h_ : (x4_1 : Int) < ((x3_1.length : Int) : Int) := of_decide_eq_true hE; first | exact h_ | (have e_ := (Kd.S_reads' HO_3.out).1; omega) | simpa using h_); obtain ⟨ve12_1, ve12_2, rfl, ge12_1, ge12_2⟩ := k41_openM hM12; have HP12 := Kd.S_seg hH12 (of_decide_eq_true hE) (by have h_ : (x4_1 : Int) < ((x3_1.length : Int) : Int) := of_decide_eq_true hE; first | exact h_ | (have e_ := (Kd.S_reads' HO_3.out).1; omega) | simpa using h_) (seg := [.string t211, .slice Ao14 t212.length co14, .slice Ao15 t215.length co15]) (j := 0) (show 3 ≤ 3 from by decide) (x' := (⟨t211, t212, t215⟩ : S41)) (k41_mkM _ _ _ (⟨t211, t212, t215⟩ : S41) (Kd.R_mono (Kd.R_tight rfl (Kd.R_mono (ok' := fun k_ => ((fun _ => True)) k_ ∧ k_ ≠ go10) (Kd.R_apart' (HO214.out) (Kd.S_typed HO_3.out) (by decide)) (fun k_ hk => ⟨trivial, fun e_ => (hk.2) (by rw [e_]; rfl)⟩))) (fun _ h_ => Or.inr (Or.inl h_))) (Kd.R_mono (Kd.R_tight rfl (Kd.R_mono (ok' := fun k_ => ((fun _ => True)) k_ ∧ k_ ≠ go10) (Kd.R_apart' (HO217.out) (Kd.S_typed HO_3.out) (by decide)) (fun k_ hk => ⟨trivial, fun e_ => (hk.2) (by rw [e_]; rfl)⟩))) (fun _ h_ => Or.inr (Or.inr (h_))))) (fun _ hk => hk) (fun k_ hk_ => hk_.elim (fun h_ => ((Kd.R_mono (ok' := fun k_ => ((fun _ => True)) k_ ∧ k_ ≠ go10) (Kd.R_apart' (HO214.out) (Kd.S_typed HO_3.out) (by decide)) (fun k_ hk => ⟨trivial, fun e_ => (hk.2) (by rw [e_]; rfl)⟩))).1 k_ h_.symm) (fun h_ => ((Kd.R_mono (ok' := fun k_ => ((fun _ => True)) k_ ∧ k_ ≠ go10) (Kd.R_apart' (HO217.out) (Kd.S_typed HO_3.out) (by decide)) (fun k_ hk => ⟨trivial, fun e_ => (hk.2) (by rw [e_]; rfl)⟩))).1 k_ h_.symm)); have hx12_0 := hcc12 0 _ rfl; (try simp only [show (k41).sz = 3 from rfl, Nat.mul_one, Nat.add_zero] at hx12_0); have hf12_0 := hfr12 0; (try simp only [show (k41).sz = 3 from rfl, Nat.mul_one, Nat.add_zero] at hf12_0); have hx12_1 := hcc12 1 _ rfl; (try simp only [show (k41).sz = 3 from rfl, Nat.mul_one, Nat.add_zero] at hx12_1); have hf12_1 := hfr12 1; (try simp only [show (k41).sz = 3 from rfl, Nat.mul_one, Nat.add_zero] at hf12_1); have hx12_2 := hcc12 2 _ rfl; (try simp only [show (k41).sz = 3 from rfl, Nat.mul_one, Nat.add_zero] at hx12_2); have hf12_2 := hfr12 2; (try simp only [show (k41).sz = 3 from rfl, Nat.mul_one, Nat.add_zero] at hf12_2); (try clear hcl12); (try clear hcc12); (try clear hfr12); (try clear hM12); (try clear hoki12); (try clear hH12)) | ((with_reducible refine gate_store (t := 41) (p := 21) rfl ?_); refine store_event (t := 41) (p := 21) (v := ?vo_w13) (w1 := (((w11.setCell ⟨go10, (x4_1 : Int).toNat * 3, none⟩ (.string t211)).setCell ⟨go10, (x4_1 : Int).toNat * 3 + 1, none⟩ (.slice Ao14 t212.length co14)).setCell ⟨go10, (x4_1 : Int).toNat * 3 + 2, none⟩ (.slice Ao15 t215.length co15))) ?hg ?ho ?hn ?hr ?_; (case ho => rfl); (case hg => rfl); (case hn => rfl); (case hr => exact sE); intro w13 hw; have hg : w11.grownBy w13 (some go10) := (by rw [hw]; exact HP12.2); have hp_ : Kd.S k41 41 w13 w.heap.size (fun _ => True) (.slice (some ⟨go10, 0, none⟩) x3_1.length co10) y218 := (by rw [hw, Ny218.out]; exact HP12.1); clear HP12; replace HO_3 := Aside0.mk hp_; replace HB := Aside0.mk ((by rw [hw]; exact below_set (below_set (below_set (HB.out) GB10.out) GB10.out) GB10.out : Below w.heap.size w w13)); clear HO214 HO217; clear hg hw hp_))
        go_roundg k1
        case measure => have := HK1.out; omega
        case rel => exact ⟨(y218), (wrap64 (x4_1 + 1)), tE, H', ⟨by have := HK1.out; omega⟩, ⟨by (with_reducible repeat (first | apply Kd.S_alloc | apply Kd.S_drewN | apply Kd.S_drew)); exact HO_3.out⟩, ⟨by repeat (first | (with_reducible first | exact HB.out | apply below_alloc | apply pw_below_drewN | apply below_drew1) | exact HB.out)⟩⟩
       ·rw [if_neg c9] at H
        exact absurd H (by simp)
      ·rw [if_neg c7] at H
       exact absurd H (by simp)
     ·rw [if_neg c6] at H
      have c6b0 : decide (x4_1 < (l0.length : Int)) = false := decide_eq_false c6
      clear c6
      obtain rfl := Option.some.inj H
      go_wp2
      go_ret
      exact ⟨_, eE, by (with_reducible repeat (first | apply Kd.S_alloc | apply Kd.S_drewN | apply Kd.S_drew)); exact HO_3.out, lU⟩
  ·rw [if_neg c3] at H
   exact absurd H (by simp)
 ·rw [if_neg c2] at H
  exact absurd H (by simp)
def impl_isLetter.f (a0 : Int) : Option (Bool) := if a0 ≥ 97 then (if a0 ≤ 122 then (some true) else (if a0 ≥ 65 then (some (decide (a0 ≤ 90))) else (some false))) else (if a0 ≥ 65 then (some (decide (a0 ≤ 90))) else (some false))
set_option maxHeartbeats 8000000 in
set_option maxRecDepth 100000 in
theorem impl_isLetter.calls (a0 : Int) (r : Bool) (w : World) (h : impl_isLetter.f a0 = some r) :
  Calls Try.prog 44 #[.int .u8 a0] w fun e w' => e = .returned (.bool r) ∧ Drawn0 w w' := by
 have H : (if a0 ≥ 97 then (if a0 ≤ 122 then (some true) else (if a0 ≥ 65 then (some (decide (a0 ≤ 90))) else (some false))) else (if a0 ≥ 65 then (some (decide (a0 ≤ 90))) else (some false))) = some r := h
 clear h
 by_cases c2 : a0 ≥ 97
 ·rw [if_pos c2] at H
  have c2b0 : decide (97 ≤ a0) = true := decide_eq_true c2
  clear c2
  by_cases c3 : a0 ≤ 122
  ·rw [if_pos c3] at H
   have c3b0 : decide (a0 ≤ 122) = true := decide_eq_true c3
   clear c3
   obtain rfl := Option.some.inj H
   go_enter Try.func44, Try.ntmps44
   go_wp2
   go_ret
   exact ⟨by first | rfl | (simp; done) | (simp [*]; done) | exact not_isEmpty _ | exact (not_isEmpty _).symm | exact is_empty _ | exact (is_empty _).symm, by repeat (first | exact Drawn0.refl _ | apply Drawn0.step)⟩
  ·rw [if_neg c3] at H
   have c3b0 : decide (a0 ≤ 122) = false := decide_eq_false c3
   clear c3
   by_cases c4 : a0 ≥ 65
   ·rw [if_pos c4] at H
    have c4b0 : decide (65 ≤ a0) = true := decide_eq_true c4
    clear c4
    obtain rfl := Option.some.inj H
    go_enter Try.func44, Try.ntmps44
    go_wp2
    go_ret
    exact ⟨by first | rfl | (simp; done) | (simp [*]; done) | exact not_isEmpty _ | exact (not_isEmpty _).symm | exact is_empty _ | exact (is_empty _).symm, by repeat (first | exact Drawn0.refl _ | apply Drawn0.step)⟩
   ·rw [if_neg c4] at H
    have c4b0 : decide (65 ≤ a0) = false := decide_eq_false c4
    clear c4
    obtain rfl := Option.some.inj H
    go_enter Try.func44, Try.ntmps44
    go_wp2
    go_ret
    exact ⟨by first | rfl | (simp; done) | (simp [*]; done) | exact not_isEmpty _ | exact (not_isEmpty _).symm | exact is_empty _ | exact (is_empty _).symm, by repeat (first | exact Drawn0.refl _ | apply Drawn0.step)⟩
 ·rw [if_neg c2] at H
  have c2b0 : decide (97 ≤ a0) = false := decide_eq_false c2
  clear c2
  by_cases c5 : a0 ≥ 65
  ·rw [if_pos c5] at H
   have c5b0 : decide (65 ≤ a0) = true := decide_eq_true c5
   clear c5
   obtain rfl := Option.some.inj H
   go_enter Try.func44, Try.ntmps44
   go_wp2
   go_ret
   exact ⟨by first | rfl | (simp; done) | (simp [*]; done) | exact not_isEmpty _ | exact (not_isEmpty _).symm | exact is_empty _ | exact (is_empty _).symm, by repeat (first | exact Drawn0.refl _ | apply Drawn0.step)⟩
  ·rw [if_neg c5] at H
   have c5b0 : decide (65 ≤ a0) = false := decide_eq_false c5
   clear c5
   obtain rfl := Option.some.inj H
   go_enter Try.func44, Try.ntmps44
   go_wp2
   go_ret
   exact ⟨by first | rfl | (simp; done) | (simp [*]; done) | exact not_isEmpty _ | exact (not_isEmpty _).symm | exact is_empty _ | exact (is_empty _).symm, by repeat (first | exact Drawn0.refl _ | apply Drawn0.step)⟩
def impl_isDigit.f (a0 : Int) : Option (Bool) := if a0 ≥ 48 then (some (decide (a0 ≤ 57))) else (some false)
set_option maxHeartbeats 8000000 in
set_option maxRecDepth 100000 in
theorem impl_isDigit.calls (a0 : Int) (r : Bool) (w : World) (h : impl_isDigit.f a0 = some r) :
  Calls Try.prog 45 #[.int .u8 a0] w fun e w' => e = .returned (.bool r) ∧ Drawn0 w w' := by
 have H : (if a0 ≥ 48 then (some (decide (a0 ≤ 57))) else (some false)) = some r := h
 clear h
 by_cases c2 : a0 ≥ 48
 ·rw [if_pos c2] at H
  have c2b0 : decide (48 ≤ a0) = true := decide_eq_true c2
  clear c2
  obtain rfl := Option.some.inj H
  go_enter Try.func45, Try.ntmps45
  go_wp2
  go_ret
  exact ⟨by first | rfl | (simp; done) | (simp [*]; done) | exact not_isEmpty _ | exact (not_isEmpty _).symm | exact is_empty _ | exact (is_empty _).symm, by repeat (first | exact Drawn0.refl _ | apply Drawn0.step)⟩
 ·rw [if_neg c2] at H
  have c2b0 : decide (48 ≤ a0) = false := decide_eq_false c2
  clear c2
  obtain rfl := Option.some.inj H
  go_enter Try.func45, Try.ntmps45
  go_wp2
  go_ret
  exact ⟨by first | rfl | (simp; done) | (simp [*]; done) | exact not_isEmpty _ | exact (not_isEmpty _).symm | exact is_empty _ | exact (is_empty _).symm, by repeat (first | exact Drawn0.refl _ | apply Drawn0.step)⟩
def impl_inRange.f (a0 : Int) (a1 : Int) (a2 : Int) : Option (Bool) := if a1 ≤ a0 then (some (decide (a0 ≤ a2))) else (some false)
set_option maxHeartbeats 8000000 in
set_option maxRecDepth 100000 in
theorem impl_inRange.calls (a0 : Int) (a1 : Int) (a2 : Int) (r : Bool) (w : World) (h : impl_inRange.f a0 a1 a2 = some r) :
  Calls Try.prog 46 #[.int .i64 a0, .int .i64 a1, .int .i64 a2] w fun e w' => e = .returned (.bool r) ∧ Drawn0 w w' := by
 have H : (if a1 ≤ a0 then (some (decide (a0 ≤ a2))) else (some false)) = some r := h
 clear h
 by_cases c4 : a1 ≤ a0
 ·rw [if_pos c4] at H
  have c4b0 : decide (a1 ≤ a0) = true := decide_eq_true c4
  clear c4
  obtain rfl := Option.some.inj H
  go_enter Try.func46, Try.ntmps46
  go_wp2
  go_ret
  exact ⟨by first | rfl | (simp; done) | (simp [*]; done) | exact not_isEmpty _ | exact (not_isEmpty _).symm | exact is_empty _ | exact (is_empty _).symm, by repeat (first | exact Drawn0.refl _ | apply Drawn0.step)⟩
 ·rw [if_neg c4] at H
  have c4b0 : decide (a1 ≤ a0) = false := decide_eq_false c4
  clear c4
  obtain rfl := Option.some.inj H
  go_enter Try.func46, Try.ntmps46
  go_wp2
  go_ret
  exact ⟨by first | rfl | (simp; done) | (simp [*]; done) | exact not_isEmpty _ | exact (not_isEmpty _).symm | exact is_empty _ | exact (is_empty _).symm, by repeat (first | exact Drawn0.refl _ | apply Drawn0.step)⟩
def impl_GoodName.l0 : Nat → ByteArray → Int → Int → Option (Bool)
 | 0, _, _, _ => none
 | k + 1, x0, x5, x6 => if x6 < x5 then (if 0 ≤ x6 then (if x6 < (x0.size : Int) then ((impl_isLetter.f (bt x0 x6)).bind fun t220 => (if t220 = true then (impl_GoodName.l0 k x0 x5 (wrap64 (x6 + 1))) else (if (bt x0 x6) = 95 then (impl_GoodName.l0 k x0 x5 (wrap64 (x6 + 1))) else (if x6 = 0 then (some false) else ((impl_isDigit.f (bt x0 x6)).bind fun t221 => (if t221 = true then (impl_GoodName.l0 k x0 x5 (wrap64 (x6 + 1))) else (some false))))))) else (none)) else (none)) else ((impl_inRange.f (x0.size : Int) 1 20).bind fun t219 => (some t219))
def impl_GoodName.f (k : Nat) (a0 : ByteArray) : Option (Bool) := impl_GoodName.l0 k a0 (a0.size : Int) 0
theorem impl_GoodName.mono_l : ∀ k, (∀ y0 y1 y2, LeO (impl_GoodName.l0 k y0 y1 y2) (impl_GoodName.l0 (k + 1) y0 y1 y2))
 | 0 => fun _ _ _ r h => by simp [impl_GoodName.l0] at h
 | k + 1 => by
  have ih0 := impl_GoodName.mono_l k
  ·intro y0 y1 y2
   unfold impl_GoodName.l0
   repeat' first
   | (with_reducible exact ih0 _ _ _)
   | (with_reducible first | exact LeO.refl _ | exact LeO.none _ | refine LeO.ite ?_ ?_ | refine LeO.bind ?_ (fun _ => ?_))
   | exact ih0 _ _ _ | exact LeO.none _ | refine LeO.ite ?_ ?_ | refine LeO.bind ?_ (fun _ => ?_)
theorem impl_GoodName.mono : ∀ a0 k, LeO (impl_GoodName.f k a0) (impl_GoodName.f (k + 1) a0) := by
 intro a0 k
 have ih0 := impl_GoodName.mono_l k
 unfold impl_GoodName.f
 repeat' first
   | (with_reducible exact ih0 _ _ _)
   | (with_reducible first | exact LeO.refl _ | exact LeO.none _ | refine LeO.ite ?_ ?_ | refine LeO.bind ?_ (fun _ => ?_))
   | exact ih0 _ _ _ | exact LeO.none _ | refine LeO.ite ?_ ?_ | refine LeO.bind ?_ (fun _ => ?_)
set_option maxHeartbeats 8000000 in
set_option maxRecDepth 100000 in
theorem impl_GoodName.calls (k : Nat) (a0 : ByteArray) (r : Bool) (w : World) (h : impl_GoodName.f k a0 = some r) :
  Calls Try.prog 31 #[.string a0] w fun e w' => e = .returned (.bool r) ∧ Drawn0 w w' := by
 have H : (impl_GoodName.l0 k a0 (a0.size : Int) 0) = some r := h
 clear h
 have H' := Aside0.mk H
 clear H
 go_enter Try.func31, Try.ntmps31
 go_wp2
 go_loopg [6] k (fun kq v6 w' => ∃ (x6_1 : Int), v6 = .int .i64 x6_1 ∧ Aside0 (impl_GoodName.l0 kq a0 (a0.size : Int) x6_1 = some r) ∧ Aside0 (kq ≤ k) ∧ Drawn0 w w')
 case atStart => exact ⟨(0), tE, H', ⟨Nat.le_refl _⟩, by repeat (first | exact Drawn0.refl _ | apply Drawn0.step)⟩
 case round =>
  clear H'
  obtain ⟨x6_1, rfl, HA, HK1, ⟨m1, rfl⟩⟩ := hrel
  cases gk with
  | zero => exact absurd HA.out (by simp [impl_GoodName.l0])
  | succ k1 =>
   have H := HA.out
   clear HA
   simp only [impl_GoodName.l0] at H
   by_cases c2 : x6_1 < (a0.size : Int)
   ·rw [if_pos c2] at H
    have c2b0 : decide (x6_1 < (a0.size : Int)) = true := decide_eq_true c2
    clear c2
    by_cases c3 : 0 ≤ x6_1
    ·rw [if_pos c3] at H
     have c3b0 : decide (0 ≤ x6_1) = true := decide_eq_true c3
     clear c3
     by_cases c4 : x6_1 < (a0.size : Int)
     ·rw [if_pos c4] at H
      have c4b0 : decide (x6_1 < (a0.size : Int)) = true := decide_eq_true c4
      clear c4
      replace H := Option.bind_eq_some_iff.mp H
      obtain ⟨t220, A60, H⟩ := H
      replace H : (if t220 = true then (impl_GoodName.l0 k1 a0 (a0.size : Int) (wrap64 (x6_1 + 1))) else (if (bt a0 x6_1) = 95 then (impl_GoodName.l0 k1 a0 (a0.size : Int) (wrap64 (x6_1 + 1))) else (if x6_1 = 0 then (some false) else ((impl_isDigit.f (bt a0 x6_1)).bind fun t221 => (if t221 = true then (impl_GoodName.l0 k1 a0 (a0.size : Int) (wrap64 (x6_1 + 1))) else (some false)))))) = some r := H
      have A6 := Aside0.mk A60
      clear A60
      by_cases c7 : t220 = true
      ·subst c7
       have H1 : (impl_GoodName.l0 k1 a0 (a0.size : Int) (wrap64 (x6_1 + 1))) = some r := by rw [if_pos rfl] at H; exact H
       clear H
       have H := H1
       clear H1
       have H' := Aside0.mk H
       clear H
       have p5 : 0 ≤ (x6_1 : Int) := of_decide_eq_true hE
       have q5 : x6_1 < (a0.size : Int) := of_decide_eq_true hE
       have hx5 := bt_at a0 x6_1
       replace p5 := eq_true p5
       replace q5 := eq_true q5
       go_wp2_with (first | ((with_reducible refine gate_callee (f := 44) rfl ?_); refine goesL_ (some 12) rfl rfl Try.func44 (by kernel_rfl) rfl #[.int .u8 (bt a0 x6_1)] rfl aE ?_; (with_reducible refine (impl_isLetter.calls (bt a0 x6_1) true _ A6.out).mono ?_); rintro e w' ⟨rfl, ⟨nd, rfl⟩⟩; refine ⟨_, rfl, ?_⟩))
       go_roundg k1
       case measure => have := HK1.out; omega
       case rel => exact ⟨(wrap64 (x6_1 + 1)), tE, H', ⟨by have := HK1.out; omega⟩, by repeat (first | exact Drawn0.refl _ | apply Drawn0.step)⟩
      ·replace c7 := Bool.eq_false_iff.mpr c7
       subst c7
       have H1 : (if (bt a0 x6_1) = 95 then (impl_GoodName.l0 k1 a0 (a0.size : Int) (wrap64 (x6_1 + 1))) else (if x6_1 = 0 then (some false) else ((impl_isDigit.f (bt a0 x6_1)).bind fun t221 => (if t221 = true then (impl_GoodName.l0 k1 a0 (a0.size : Int) (wrap64 (x6_1 + 1))) else (some false))))) = some r := by rw [if_neg (show ¬ (false = true) by decide)] at H; exact H
       clear H
       have H := H1
       clear H1
       by_cases c9 : (bt a0 x6_1) = 95
       ·rw [if_pos c9] at H
        have c9b0 : ((bt a0 x6_1) == 95) = true := beq_iff_eq.mpr c9
        have c9b1 : ((bt a0 x6_1) != 95) = false := bne_eq_false_iff_eq.mpr c9
        clear c9
        have H' := Aside0.mk H
        clear H
        have p5 : 0 ≤ (x6_1 : Int) := of_decide_eq_true hE
        have q5 : x6_1 < (a0.size : Int) := of_decide_eq_true hE
        have hx5 := bt_at a0 x6_1
        replace p5 := eq_true p5
        replace q5 := eq_true q5
        go_wp2_with (first | ((with_reducible refine gate_callee (f := 44) rfl ?_); refine goesL_ (some 12) rfl rfl Try.func44 (by kernel_rfl) rfl #[.int .u8 (bt a0 x6_1)] rfl aE ?_; (with_reducible refine (impl_isLetter.calls (bt a0 x6_1) false _ A6.out).mono ?_); rintro e w' ⟨rfl, ⟨nd, rfl⟩⟩; refine ⟨_, rfl, ?_⟩; have p8 : 0 ≤ (x6_1 : Int) := of_decide_eq_true hE; have q8 : x6_1 < (a0.size : Int) := of_decide_eq_true hE; have hx8 := bt_at a0 x6_1; replace p8 := eq_true p8; replace q8 := eq_true q8))
        go_roundg k1
        case measure => have := HK1.out; omega
        case rel => exact ⟨(wrap64 (x6_1 + 1)), tE, H', ⟨by have := HK1.out; omega⟩, by repeat (first | exact Drawn0.refl _ | apply Drawn0.step)⟩
       ·rw [if_neg c9] at H
        have c9b0 : ((bt a0 x6_1) == 95) = false := beq_eq_false_iff_ne.mpr c9
        have c9b1 : ((bt a0 x6_1) != 95) = true := bne_iff_ne.mpr c9
        by_cases c10 : x6_1 = 0
        ·rw [if_pos c10] at H
         have c10b0 : (x6_1 == 0) = true := beq_iff_eq.mpr c10
         have c10b1 : (x6_1 != 0) = false := bne_eq_false_iff_eq.mpr c10
         clear c10
         obtain rfl := Option.some.inj H
         have p5 : 0 ≤ (x6_1 : Int) := of_decide_eq_true hE
         have q5 : x6_1 < (a0.size : Int) := of_decide_eq_true hE
         have hx5 := bt_at a0 x6_1
         replace p5 := eq_true p5
         replace q5 := eq_true q5
         go_wp2_with (first | ((with_reducible refine gate_callee (f := 44) rfl ?_); refine goesL_ (some 12) rfl rfl Try.func44 (by kernel_rfl) rfl #[.int .u8 (bt a0 x6_1)] rfl aE ?_; (with_reducible refine (impl_isLetter.calls (bt a0 x6_1) false _ A6.out).mono ?_); rintro e w' ⟨rfl, ⟨nd, rfl⟩⟩; refine ⟨_, rfl, ?_⟩; have p8 : 0 ≤ (x6_1 : Int) := of_decide_eq_true hE; have q8 : x6_1 < (a0.size : Int) := of_decide_eq_true hE; have hx8 := bt_at a0 x6_1; replace p8 := eq_true p8; replace q8 := eq_true q8))
         go_ret
         exact ⟨by first | rfl | (simp; done) | (simp [*]; done) | exact not_isEmpty _ | exact (not_isEmpty _).symm | exact is_empty _ | exact (is_empty _).symm, by repeat (first | exact Drawn0.refl _ | apply Drawn0.step)⟩
        ·rw [if_neg c10] at H
         have c10b0 : (x6_1 == 0) = false := beq_eq_false_iff_ne.mpr c10
         have c10b1 : (x6_1 != 0) = true := bne_iff_ne.mpr c10
         replace H := Option.bind_eq_some_iff.mp H
         obtain ⟨t221, A120, H⟩ := H
         replace H : (if t221 = true then (impl_GoodName.l0 k1 a0 (a0.size : Int) (wrap64 (x6_1 + 1))) else (some false)) = some r := H
         have A12 := Aside0.mk A120
         clear A120
         by_cases c13 : t221 = true
         ·subst c13
          have H1 : (impl_GoodName.l0 k1 a0 (a0.size : Int) (wrap64 (x6_1 + 1))) = some r := by rw [if_pos rfl] at H; exact H
          clear H
          have H := H1
          clear H1
          have H' := Aside0.mk H
          clear H
          have p5 : 0 ≤ (x6_1 : Int) := of_decide_eq_true hE
          have q5 : x6_1 < (a0.size : Int) := of_decide_eq_true hE
          have hx5 := bt_at a0 x6_1
          replace p5 := eq_true p5
          replace q5 := eq_true q5
          go_wp2_with (first | ((with_reducible refine gate_callee (f := 44) rfl ?_); refine goesL_ (some 12) rfl rfl Try.func44 (by kernel_rfl) rfl #[.int .u8 (bt a0 x6_1)] rfl aE ?_; (with_reducible refine (impl_isLetter.calls (bt a0 x6_1) false _ A6.out).mono ?_); rintro e w' ⟨rfl, ⟨nd, rfl⟩⟩; refine ⟨_, rfl, ?_⟩; have p8 : 0 ≤ (x6_1 : Int) := of_decide_eq_true hE; have q8 : x6_1 < (a0.size : Int) := of_decide_eq_true hE; have hx8 := bt_at a0 x6_1; replace p8 := eq_true p8; replace q8 := eq_true q8; have p11 : 0 ≤ (x6_1 : Int) := of_decide_eq_true hE; have q11 : x6_1 < (a0.size : Int) := of_decide_eq_true hE; have hx11 := bt_at a0 x6_1; replace p11 := eq_true p11; replace q11 := eq_true q11) | (go_at_call 45; (with_reducible refine (impl_isDigit.calls (bt a0 x6_1) true _ A12.out).mono ?_); rintro e w' ⟨rfl, ⟨nd, rfl⟩⟩))
          go_roundg k1
          case measure => have := HK1.out; omega
          case rel => exact ⟨(wrap64 (x6_1 + 1)), tE, H', ⟨by have := HK1.out; omega⟩, by repeat (first | exact Drawn0.refl _ | apply Drawn0.step)⟩
         ·replace c13 := Bool.eq_false_iff.mpr c13
          subst c13
          have H1 : (some false) = some r := by rw [if_neg (show ¬ (false = true) by decide)] at H; exact H
          clear H
          have H := H1
          clear H1
          obtain rfl := Option.some.inj H
          have p5 : 0 ≤ (x6_1 : Int) := of_decide_eq_true hE
          have q5 : x6_1 < (a0.size : Int) := of_decide_eq_true hE
          have hx5 := bt_at a0 x6_1
          replace p5 := eq_true p5
          replace q5 := eq_true q5
          go_wp2_with (first | ((with_reducible refine gate_callee (f := 44) rfl ?_); refine goesL_ (some 12) rfl rfl Try.func44 (by kernel_rfl) rfl #[.int .u8 (bt a0 x6_1)] rfl aE ?_; (with_reducible refine (impl_isLetter.calls (bt a0 x6_1) false _ A6.out).mono ?_); rintro e w' ⟨rfl, ⟨nd, rfl⟩⟩; refine ⟨_, rfl, ?_⟩; have p8 : 0 ≤ (x6_1 : Int) := of_decide_eq_true hE; have q8 : x6_1 < (a0.size : Int) := of_decide_eq_true hE; have hx8 := bt_at a0 x6_1; replace p8 := eq_true p8; replace q8 := eq_true q8; have p11 : 0 ≤ (x6_1 : Int) := of_decide_eq_true hE; have q11 : x6_1 < (a0.size : Int) := of_decide_eq_true hE; have hx11 := bt_at a0 x6_1; replace p11 := eq_true p11; replace q11 := eq_true q11) | (go_at_call 45; (with_reducible refine (impl_isDigit.calls (bt a0 x6_1) false _ A12.out).mono ?_); rintro e w' ⟨rfl, ⟨nd, rfl⟩⟩))
          go_ret
          exact ⟨by first | rfl | (simp; done) | (simp [*]; done) | exact not_isEmpty _ | exact (not_isEmpty _).symm | exact is_empty _ | exact (is_empty _).symm, by repeat (first | exact Drawn0.refl _ | apply Drawn0.step)⟩
     ·rw [if_neg c4] at H
      exact absurd H (by simp)
    ·rw [if_neg c3] at H
     exact absurd H (by simp)
   ·rw [if_neg c2] at H
    have c2b0 : decide (x6_1 < (a0.size : Int)) = false := decide_eq_false c2
    clear c2
    replace H := Option.bind_eq_some_iff.mp H
    obtain ⟨t219, A140, H⟩ := H
    replace H : (some t219) = some r := H
    have A14 := Aside0.mk A140
    clear A140
    obtain rfl := Option.some.inj H
    go_wp2_with (first | ((with_reducible refine gate_callee (f := 46) rfl ?_); refine goesL_ (some 34) rfl rfl Try.func46 (by kernel_rfl) rfl #[.int .i64 (a0.size : Int), .int .i64 1, .int .i64 20] rfl aE ?_; (with_reducible refine (impl_inRange.calls (a0.size : Int) 1 20 t219 _ A14.out).mono ?_); rintro e w' ⟨rfl, ⟨nd, rfl⟩⟩; refine ⟨_, rfl, ?_⟩))
    go_ret
    exact ⟨by first | rfl | (simp; done) | (simp [*]; done) | exact not_isEmpty _ | exact (not_isEmpty _).symm | exact is_empty _ | exact (is_empty _).symm, by repeat (first | exact Drawn0.refl _ | apply Drawn0.step)⟩
end Go.Proofs.Ytehkpnnidbghhab.PFnExactStaleBetween
namespace Go.Proofs.Ytehkpnnidbghhab.PFnExactStaleBetween
open Go.RowKit Go.Proofs.YtehkpnnidbghhabW.PrintWords Go.Proofs.YtehkpnnidbghhabW.PrintLast Go.Proofs.YtehkpnnidbghhabW.PrintMore
attribute [local go_sem] max2_int min2_int max_two min_two max_three min_three max_four min_four   -- for this text's walks alone
set_option linter.unusedVariables false
set_option linter.unusedSimpArgs false
def impl_areNames.l0 : Nat → List ByteArray → List ByteArray → Int → Int → Option (Bool)
 | 0, _, _, _, _ => none
 | k + 1, x0, x5, x6, x7 => if x7 < x6 then (if 0 ≤ x7 then (if x7 < (x5.length : Int) then ((impl_GoodName.f k (rdOf ByteArray.empty x5 x7)).bind fun t223 => (if t223 = true then (if x7 > 0 then (if 0 ≤ (wrap64 (x7 - 1)) then (if (wrap64 (x7 - 1)) < (x0.length : Int) then (if ((Op.bytesLess ((rdOf ByteArray.empty x0 (wrap64 (x7 - 1))).toList) ((rdOf ByteArray.empty x5 x7).toList)) = true) then (impl_areNames.l0 k x0 x5 x6 (wrap64 (x7 + 1))) else (some false)) else (none)) else (none)) else (impl_areNames.l0 k x0 x5 x6 (wrap64 (x7 + 1)))) else (some false))) else (none)) else (none)) else (some true)
def impl_areNames.f (k : Nat) (l0 : List ByteArray) : Option (Bool) := impl_areNames.l0 k l0 l0 (l0.length : Int) 0
theorem impl_areNames.mono_l : ∀ k, (∀ y0 y1 y2 y3, LeO (impl_areNames.l0 k y0 y1 y2 y3) (impl_areNames.l0 (k + 1) y0 y1 y2 y3))
 | 0 => fun _ _ _ _ r h => by simp [impl_areNames.l0] at h
 | k + 1 => by
  have ih0 := impl_areNames.mono_l k
  ·intro y0 y1 y2 y3
   unfold impl_areNames.l0
   repeat' first
   | (with_reducible exact ih0 _ _ _ _)
   | (with_reducible exact impl_GoodName.mono _ _)
   | (with_reducible first | exact LeO.refl _ | exact LeO.none _ | refine LeO.ite ?_ ?_ | refine LeO.bind ?_ (fun _ => ?_))
   | exact ih0 _ _ _ _
   | exact impl_GoodName.mono _ _ | exact LeO.none _ | refine LeO.ite ?_ ?_ | refine LeO.bind ?_ (fun _ => ?_)
theorem impl_areNames.mono : ∀ a0 k, LeO (impl_areNames.f k a0) (impl_areNames.f (k + 1) a0) := by
 intro a0 k
 have ih0 := impl_areNames.mono_l k
 unfold impl_areNames.f
 repeat' first
   | (with_reducible exact ih0 _ _ _ _)
   | (with_reducible exact impl_GoodName.mono _ _)
   | (with_reducible first | exact LeO.refl _ | exact LeO.none _ | refine LeO.ite ?_ ?_ | refine LeO.bind ?_ (fun _ => ?_))
   | exact ih0 _ _ _ _
   | exact impl_GoodName.mono _ _ | exact LeO.none _ | refine LeO.ite ?_ ?_ | refine LeO.bind ?_ (fun _ => ?_)
set_option maxHeartbeats 8000000 in
set_option maxRecDepth 100000 in
theorem impl_areNames.calls (k : Nat) (A0 : Option Addr) (c0 : Nat) (l0 : List ByteArray) (r : Bool) (w : World) (hr0 : Kd.C Kd.string w A0 l0.length l0) (hc0 : l0.length ≤ c0) (h : impl_areNames.f k l0 = some r) :
  Calls Try.prog 32 #[.slice A0 l0.length c0] w fun e w' => e = .returned (.bool r) ∧ Drawn0 w w' := by
 have HR0 := Aside0.mk hr0
 have HC0 := Aside0.mk hc0
 clear hr0 hc0
 have H : (impl_areNames.l0 k l0 l0 (l0.length : Int) 0) = some r := h
 clear h
 have H' := Aside0.mk H
 clear H
 go_enter Try.func32, Try.ntmps32
 go_wp2
 go_loopg [7] k (fun kq v7 w' => ∃ (x7_1 : Int), v7 = .int .i64 x7_1 ∧ Aside0 (impl_areNames.l0 kq l0 l0 (l0.length : Int) x7_1 = some r) ∧ Aside0 (kq ≤ k) ∧ Drawn0 w w')
 case atStart => exact ⟨(0), tE, H', ⟨Nat.le_refl _⟩, by repeat (first | exact Drawn0.refl _ | apply Drawn0.step)⟩
 case round =>
  clear H'
  obtain ⟨x7_1, rfl, HA, HK1, ⟨m1, rfl⟩⟩ := hrel
  cases gk with
  | zero => exact absurd HA.out (by simp [impl_areNames.l0])
  | succ k1 =>
   have H := HA.out
   clear HA
   simp only [impl_areNames.l0] at H
   by_cases c2 : x7_1 < (l0.length : Int)
   ·rw [if_pos c2] at H
    have c2b0 : decide (x7_1 < (l0.length : Int)) = true := decide_eq_true c2
    clear c2
    by_cases c3 : 0 ≤ x7_1
    ·rw [if_pos c3] at H
     have c3b0 : decide (0 ≤ x7_1) = true := decide_eq_true c3
     clear c3
     by_cases c4 : x7_1 < (l0.length : Int)
     ·rw [if_pos c4] at H
      have c4b0 : decide (x7_1 < (l0.length : Int)) = true := decide_eq_true c4
      clear c4
      replace H := Option.bind_eq_some_iff.mp H
      obtain ⟨t223, A50, H⟩ := H
      replace H : (if t223 = true then (if x7_1 > 0 then (if 0 ≤ (wrap64 (x7_1 - 1)) then (if (wrap64 (x7_1 - 1)) < (l0.length : Int) then (if ((Op.bytesLess ((rdOf ByteArray.empty l0 (wrap64 (x7_1 - 1))).toList) ((rdOf ByteArray.empty l0 x7_1).toList)) = true) then (impl_areNames.l0 k1 l0 l0 (l0.length : Int) (wrap64 (x7_1 + 1))) else (some false)) else (none)) else (none)) else (impl_areNames.l0 k1 l0 l0 (l0.length : Int) (wrap64 (x7_1 + 1)))) else (some false)) = some r := H
      have A5 := Aside0.mk A50
      clear A50
      by_cases c6 : t223 = true
      ·subst c6
       have H1 : (if x7_1 > 0 then (if 0 ≤ (wrap64 (x7_1 - 1)) then (if (wrap64 (x7_1 - 1)) < (l0.length : Int) then (if ((Op.bytesLess ((rdOf ByteArray.empty l0 (wrap64 (x7_1 - 1))).toList) ((rdOf ByteArray.empty l0 x7_1).toList)) = true) then (impl_areNames.l0 k1 l0 l0 (l0.length : Int) (wrap64 (x7_1 + 1))) else (some false)) else (none)) else (none)) else (impl_areNames.l0 k1 l0 l0 (l0.length : Int) (wrap64 (x7_1 + 1)))) = some r := by rw [if_pos rfl] at H; exact H
       clear H
       have H := H1
       clear H1
       by_cases c7 : x7_1 > 0
       ·rw [if_pos c7] at H
        have c7b0 : decide (0 < x7_1) = true := decide_eq_true c7
        clear c7
        obtain ⟨ji8, hji8⟩ : ∃ j_ : Int, (wrap64 (x7_1 - 1)) = j_ := ⟨_, rfl⟩
        replace H : (if 0 ≤ (ji8) then (if (ji8) < (l0.length : Int) then (if ((Op.bytesLess ((rdOf ByteArray.empty l0 (ji8)).toList) ((rdOf ByteArray.empty l0 x7_1).toList)) = true) then (impl_areNames.l0 k1 l0 l0 (l0.length : Int) (wrap64 (x7_1 + 1))) else (some false)) else (none)) else (none)) = some r := by first | (rw [hji8] at H; exact H) | (simp only [hji8] at H ⊢; exact H)
        (try rw [hji8] at A5)
        have hji8w : (IntKind.i64.wrap (x7_1 - 1)) = ji8 := (i64_w _).trans hji8
        by_cases c9 : 0 ≤ (ji8)
        ·rw [if_pos c9] at H
         have c9b0 : decide (0 ≤ (ji8)) = true := decide_eq_true c9
         clear c9
         by_cases c10 : (ji8) < (l0.length : Int)
         ·rw [if_pos c10] at H
          have c10b0 : decide ((ji8) < (l0.length : Int)) = true := decide_eq_true c10
          clear c10
          by_cases c11 : ((Op.bytesLess ((rdOf ByteArray.empty l0 (ji8)).toList) ((rdOf ByteArray.empty l0 x7_1).toList)) = true)
          ·rw [if_pos c11] at H
           have c11b0 : (Op.bytesLess ((rdOf ByteArray.empty l0 (ji8)).toList) ((rdOf ByteArray.empty l0 x7_1).toList)) = true := c11
           clear c11
           have H' := Aside0.mk H
           clear H
           have p222 : 0 ≤ (x7_1 : Int) := of_decide_eq_true hE
           have q222 : x7_1 < (l0.length : Int) := of_decide_eq_true hE
           obtain ⟨ad222, e222, hx222_0⟩ := Kd.at_string HR0.out x7_1 p222 q222
           cases e222
           replace p222 := eq_true p222
           replace q222 := eq_true q222
           go_wp2_with (first | ((with_reducible refine gate_callee (f := 31) rfl ?_); refine goesL_ (some 13) rfl rfl Try.func31 (by kernel_rfl) rfl #[.string (rdOf ByteArray.empty l0 x7_1)] rfl aE ?_; (with_reducible refine (impl_GoodName.calls k1 (rdOf ByteArray.empty l0 x7_1) true _ A5.out).mono ?_); rintro e w' ⟨rfl, ⟨nd, rfl⟩⟩; refine ⟨_, rfl, ?_⟩; have p224 : 0 ≤ ((ji8) : Int) := of_decide_eq_true hE; have q224 : (ji8) < (l0.length : Int) := of_decide_eq_true hE; obtain ⟨ad224, e224, hx224_0⟩ := Kd.at_string HR0.out (ji8) p224 q224; obtain rfl : ad222 = ad224 := (by injection e224); replace p224 := eq_true p224; replace q224 := eq_true q224))
           go_roundg k1
           case measure => have := HK1.out; omega
           case rel => exact ⟨(wrap64 (x7_1 + 1)), tE, H', ⟨by have := HK1.out; omega⟩, by repeat (first | exact Drawn0.refl _ | apply Drawn0.step)⟩
          ·rw [if_neg c11] at H
           have c11b0 : (Op.bytesLess ((rdOf ByteArray.empty l0 (ji8)).toList) ((rdOf ByteArray.empty l0 x7_1).toList)) = false := by simpa using c11
           clear c11
           obtain rfl := Option.some.inj H
           have p222 : 0 ≤ (x7_1 : Int) := of_decide_eq_true hE
           have q222 : x7_1 < (l0.length : Int) := of_decide_eq_true hE
           obtain ⟨ad222, e222, hx222_0⟩ := Kd.at_string HR0.out x7_1 p222 q222
           cases e222
           replace p222 := eq_true p222
           replace q222 := eq_true q222
           go_wp2_with (first | ((with_reducible refine gate_callee (f := 31) rfl ?_); refine goesL_ (some 13) rfl rfl Try.func31 (by kernel_rfl) rfl #[.string (rdOf ByteArray.empty l0 x7_1)] rfl aE ?_; (with_reducible refine (impl_GoodName.calls k1 (rdOf ByteArray.empty l0 x7_1) true _ A5.out).mono ?_); rintro e w' ⟨rfl, ⟨nd, rfl⟩⟩; refine ⟨_, rfl, ?_⟩; have p224 : 0 ≤ ((ji8) : Int) := of_decide_eq_true hE; have q224 : (ji8) < (l0.length : Int) := of_decide_eq_true hE; obtain ⟨ad224, e224, hx224_0⟩ := Kd.at_string HR0.out (ji8) p224 q224; obtain rfl : ad222 = ad224 := (by injection e224); replace p224 := eq_true p224; replace q224 := eq_true q224))
           go_ret
           exact ⟨by first | rfl | (simp; done) | (simp only [← hji8] <;> (first | rfl | simp)) | (simp [*]; done) | exact not_isEmpty _ | exact (not_isEmpty _).symm | exact is_empty _ | exact (is_empty _).symm, by repeat (first | exact Drawn0.refl _ | apply Drawn0.step)⟩
         ·rw [if_neg c10] at H
          exact absurd H (by simp)
        ·rw [if_neg c9] at H
         exact absurd H (by simp)
       ·rw [if_neg c7] at H
        have c7b0 : decide (0 < x7_1) = false := decide_eq_false c7
        clear c7
        have H' := Aside0.mk H
        clear H
        have p222 : 0 ≤ (x7_1 : Int) := of_decide_eq_true hE
        have q222 : x7_1 < (l0.length : Int) := of_decide_eq_true hE
        obtain ⟨ad222, e222, hx222_0⟩ := Kd.at_string HR0.out x7_1 p222 q222
        cases e222
        replace p222 := eq_true p222
        replace q222 := eq_true q222
        go_wp2_with (first | ((with_reducible refine gate_callee (f := 31) rfl ?_); refine goesL_ (some 13) rfl rfl Try.func31 (by kernel_rfl) rfl #[.string (rdOf ByteArray.empty l0 x7_1)] rfl aE ?_; (with_reducible refine (impl_GoodName.calls k1 (rdOf ByteArray.empty l0 x7_1) true _ A5.out).mono ?_); rintro e w' ⟨rfl, ⟨nd, rfl⟩⟩; refine ⟨_, rfl, ?_⟩))
        go_roundg k1
        case measure => have := HK1.out; omega
        case rel => exact ⟨(wrap64 (x7_1 + 1)), tE, H', ⟨by have := HK1.out; omega⟩, by repeat (first | exact Drawn0.refl _ | apply Drawn0.step)⟩
      ·replace c6 := Bool.eq_false_iff.mpr c6
       subst c6
       have H1 : (some false) = some r := by rw [if_neg (show ¬ (false = true) by decide)] at H; exact H
       clear H
       have H := H1
       clear H1
       obtain rfl := Option.some.inj H
       have p222 : 0 ≤ (x7_1 : Int) := of_decide_eq_true hE
       have q222 : x7_1 < (l0.length : Int) := of_decide_eq_true hE
       obtain ⟨ad222, e222, hx222_0⟩ := Kd.at_string HR0.out x7_1 p222 q222
       cases e222
       replace p222 := eq_true p222
       replace q222 := eq_true q222
       go_wp2_with (first | ((with_reducible refine gate_callee (f := 31) rfl ?_); refine goesL_ (some 13) rfl rfl Try.func31 (by kernel_rfl) rfl #[.string (rdOf ByteArray.empty l0 x7_1)] rfl aE ?_; (with_reducible refine (impl_GoodName.calls k1 (rdOf ByteArray.empty l0 x7_1) false _ A5.out).mono ?_); rintro e w' ⟨rfl, ⟨nd, rfl⟩⟩; refine ⟨_, rfl, ?_⟩))
       go_ret
       exact ⟨by first | rfl | (simp; done) | (simp [*]; done) | exact not_isEmpty _ | exact (not_isEmpty _).symm | exact is_empty _ | exact (is_empty _).symm, by repeat (first | exact Drawn0.refl _ | apply Drawn0.step)⟩
     ·rw [if_neg c4] at H
      exact absurd H (by simp)
    ·rw [if_neg c3] at H
     exact absurd H (by simp)
   ·rw [if_neg c2] at H
    have c2b0 : decide (x7_1 < (l0.length : Int)) = false := decide_eq_false c2
    clear c2
    obtain rfl := Option.some.inj H
    go_wp2
    go_ret
    exact ⟨by first | rfl | (simp; done) | (simp [*]; done) | exact not_isEmpty _ | exact (not_isEmpty _).symm | exact is_empty _ | exact (is_empty _).symm, by repeat (first | exact Drawn0.refl _ | apply Drawn0.step)⟩
def impl_assetAt_1.f (a0_0 : ByteArray) (l0_1 : List ByteArray) (l0_2 : List Int) (a1_0_0 : ByteArray) : Option (Bool) := some (a0_0.toList == a1_0_0.toList)
set_option maxHeartbeats 8000000 in
set_option maxRecDepth 100000 in
theorem impl_assetAt_1.calls (a0_0 : ByteArray) (A0_1 : Option Addr) (c0_1 : Nat) (l0_1 : List ByteArray) (A0_2 : Option Addr) (c0_2 : Nat) (l0_2 : List Int) (gb28 : Nat) (a1_0_0 : ByteArray) (r : Bool) (w : World) (hr0_1 : Kd.C Kd.string w A0_1 l0_1.length l0_1) (hc0_1 : l0_1.length ≤ c0_1) (hr0_2 : Kd.C (Kd.int .u8) w A0_2 l0_2.length l0_2) (hc0_2 : l0_2.length ≤ c0_2) (hk28 : w.heap[gb28]? = some (.cells #[.string a1_0_0] 9 (0, 0))) (h : impl_assetAt_1.f a0_0 l0_1 l0_2 a1_0_0 = some r) :
  Calls Try.prog 49 #[.agg #[.string a0_0, .slice A0_1 l0_1.length c0_1, .slice A0_2 l0_2.length c0_2], .pointer (some ⟨gb28, 0, none⟩)] w fun e w' => e = .returned (.bool r) ∧ Below w.heap.size w w' := by
 have hu41 := Try.underlying41
 have HR0_1 := Aside0.mk hr0_1
 have HC0_1 := Aside0.mk hc0_1
 clear hr0_1 hc0_1
 have HR0_2 := Aside0.mk hr0_2
 have HC0_2 := Aside0.mk hc0_2
 clear hr0_2 hc0_2
 have BK28 := Aside0.mk hk28
 clear hk28
 have HB := Aside0.mk (Below.refl w.heap.size w)
 have H : (some (a0_0.toList == a1_0_0.toList)) = some r := h
 clear h
 obtain rfl := Option.some.inj H
 go_enter Try.func49, Try.ntmps49
 go_wp2_with (first | ((with_reducible refine gate_dst (N := 2) rfl ?_); refine box_event rfl (N := 2) rfl (cs := #[.string a0_0, .slice A0_1 l0_1.length c0_1, .slice A0_2 l0_2.length c0_2]) (t := 41) sE ?_; intro gb225 hg w3 hbox hb; have BK225 := Aside0.mk hbox; have GW225 := gS w hg (lU); have GE225 := gS w hg (lU); replace HB := bH (lU) hb; have NB28_225 := nL hg (bV BK28); have NB225_28 := nG hg (bV BK28); replace BK28 := bB (bV BK28) hb; clear hb hbox hg; have hnb4 := NB225_28.out; have hnc4 := NB28_225.out; have hcz5_0 := cz BK225 0 (.string a0_0); have hcz5_1 := cz BK225 1 (.slice A0_1 l0_1.length c0_1); have hcz5_2 := cz BK225 2 (.slice A0_2 l0_2.length c0_2); have hfz5_0 := fz BK225 0; have hfz5_1 := fz BK225 1; have hfz5_2 := fz BK225 2; have hcz6_0 := cz BK28 0 (.string a1_0_0); have hfz6_0 := fz BK28 0))
 go_ret
 exact ⟨eE, lV1 GE225⟩
def slices_IndexFunc_w49.l0 : Nat → List (S41) → Int → Int → ByteArray → Option (Int)
 | 0, _, _, _, _ => none
 | k + 1, x0, x7, x8, x29000 => if x8 < x7 then (if 0 ≤ x8 then (if x8 < (x0.length : Int) then ((impl_assetAt_1.f ((rd_T41 x0 x8).f0) ((rd_T41 x0 x8).f1) ((rd_T41 x0 x8).f2) x29000).bind fun t227 => (if t227 = true then (some x8) else (slices_IndexFunc_w49.l0 k x0 x7 (wrap64 (x8 + 1)) x29000))) else (none)) else (none)) else (some (-1))
def slices_IndexFunc_w49.f (k : Nat) (l0 : List (S41)) (a1_0_0 : ByteArray) : Option (Int) := slices_IndexFunc_w49.l0 k l0 (l0.length : Int) 0 a1_0_0
theorem slices_IndexFunc_w49.mono_l : ∀ k, (∀ y0 y1 y2 y3, LeO (slices_IndexFunc_w49.l0 k y0 y1 y2 y3) (slices_IndexFunc_w49.l0 (k + 1) y0 y1 y2 y3))
 | 0 => fun _ _ _ _ r h => by simp [slices_IndexFunc_w49.l0] at h
 | k + 1 => by
  have ih0 := slices_IndexFunc_w49.mono_l k
  ·intro y0 y1 y2 y3
   unfold slices_IndexFunc_w49.l0
   repeat' first
   | (with_reducible exact ih0 _ _ _ _)
   | (with_reducible first | exact LeO.refl _ | exact LeO.none _ | refine LeO.ite ?_ ?_ | refine LeO.bind ?_ (fun _ => ?_))
   | exact ih0 _ _ _ _ | exact LeO.none _ | refine LeO.ite ?_ ?_ | refine LeO.bind ?_ (fun _ => ?_)
theorem slices_IndexFunc_w49.mono : ∀ a0 a1 k, LeO (slices_IndexFunc_w49.f k a0 a1) (slices_IndexFunc_w49.f (k + 1) a0 a1) := by
 intro a0 a1 k
 have ih0 := slices_IndexFunc_w49.mono_l k
 unfold slices_IndexFunc_w49.f
 repeat' first
   | (with_reducible exact ih0 _ _ _ _)
   | (with_reducible first | exact LeO.refl _ | exact LeO.none _ | refine LeO.ite ?_ ?_ | refine LeO.bind ?_ (fun _ => ?_))
   | exact ih0 _ _ _ _ | exact LeO.none _ | refine LeO.ite ?_ ?_ | refine LeO.bind ?_ (fun _ => ?_)
set_option maxHeartbeats 8000000 in
set_option maxRecDepth 100000 in
theorem slices_IndexFunc_w49.calls (k : Nat) (A0 : Option Addr) (c0 : Nat) (l0 : List (S41)) (gb28 : Nat) (a1_0_0 : ByteArray) (r : Int) (w : World) (hr0 : Kd.C k41 w A0 l0.length l0) (hc0 : l0.length ≤ c0) (hk28 : w.heap[gb28]? = some (.cells #[.string a1_0_0] 9 (0, 0))) (h : slices_IndexFunc_w49.f k l0 a1_0_0 = some r) :
  Calls Try.prog 48 #[.slice A0 l0.length c0, .func (.func 49) #[] #[.pointer (some ⟨gb28, 0, none⟩)]] w fun e w' => e = .returned (.int .i64 r) ∧ Below w.heap.size w w' := by
 have hu41 := Try.underlying41
 have HR0 := Aside0.mk hr0
 have HC0 := Aside0.mk hc0
 clear hr0 hc0
 have BK28 := Aside0.mk hk28
 clear hk28
 have HB := Aside0.mk (Below.refl w.heap.size w)
 have H : (slices_IndexFunc_w49.l0 k l0 (l0.length : Int) 0 a1_0_0) = some r := h
 clear h
 have H' := Aside0.mk H
 clear H
 go_enter Try.func48, Try.ntmps48
 go_wp2
 go_loopg [8] k (fun kq v8 w' => ∃ (x8_1 : Int), v8 = .int .i64 x8_1 ∧ Aside0 (slices_IndexFunc_w49.l0 kq l0 (l0.length : Int) x8_1 a1_0_0 = some r) ∧ Aside0 (kq ≤ k) ∧ Aside0 (w'.heap[gb28]? = some (.cells #[.string a1_0_0] 9 (0, 0))) ∧ Aside0 (Below w.heap.size w w'))
 case atStart => exact ⟨(0), tE, H', ⟨Nat.le_refl _⟩, ⟨by refine bU ?_; exact BK28.out⟩, ⟨by repeat (first | (with_reducible first | exact HB.out | apply below_alloc | apply pw_below_drewN | apply below_drew1) | exact HB.out)⟩⟩
 case round =>
  clear H'
  try clear p2
  obtain ⟨x8_1, rfl, HA, HK1, BK28, HB⟩ := hrel
  cases gk with
  | zero => exact absurd HA.out (by simp [slices_IndexFunc_w49.l0])
  | succ k1 =>
   have H := HA.out
   clear HA
   simp only [slices_IndexFunc_w49.l0] at H
   by_cases c3 : x8_1 < (l0.length : Int)
   ·rw [if_pos c3] at H
    have c3b0 : decide (x8_1 < (l0.length : Int)) = true := decide_eq_true c3
    clear c3
    by_cases c4 : 0 ≤ x8_1
    ·rw [if_pos c4] at H
     have c4b0 : decide (0 ≤ x8_1) = true := decide_eq_true c4
     clear c4
     by_cases c5 : x8_1 < (l0.length : Int)
     ·rw [if_pos c5] at H
      have c5b0 : decide (x8_1 < (l0.length : Int)) = true := decide_eq_true c5
      clear c5
      replace H := Option.bind_eq_some_iff.mp H
      obtain ⟨t227, A60, H⟩ := H
      replace H : (if t227 = true then (some x8_1) else (slices_IndexFunc_w49.l0 k1 l0 (l0.length : Int) (wrap64 (x8_1 + 1)) a1_0_0)) = some r := H
      have A6 := Aside0.mk A60
      clear A60
      by_cases c7 : t227 = true
      ·subst c7
       have H1 : (some x8_1) = some r := by rw [if_pos rfl] at H; exact H
       clear H
       have H := H1
       clear H1
       obtain rfl := Option.some.inj H
       have p226 : 0 ≤ (x8_1 : Int) := of_decide_eq_true hE
       have q226 : x8_1 < (l0.length : Int) := of_decide_eq_true hE
       obtain ⟨ad226, A226_1, c226_1, A226_2, c226_2, e226, hx226_0, hx226_1, hx226_2, hl226_1, hi226_1, hl226_2, hi226_2⟩ := at_T41 HR0.out x8_1 p226 q226
       cases e226
       replace hx226_0 := (HB.out.cell (World.block_lt_of_cell? w _ hx226_0)).trans hx226_0
       replace hx226_1 := (HB.out.cell (World.block_lt_of_cell? w _ hx226_1)).trans hx226_1
       replace hx226_2 := (HB.out.cell (World.block_lt_of_cell? w _ hx226_2)).trans hx226_2
       have HR226_1 := Aside0.mk hi226_1
       have HC226_1 := Aside0.mk hl226_1
       clear hi226_1 hl226_1
       have HR226_2 := Aside0.mk hi226_2
       have HC226_2 := Aside0.mk hl226_2
       clear hi226_2 hl226_2
       replace p226 := eq_true p226
       replace q226 := eq_true q226
       go_wp2_with (first | ((with_reducible refine gateD_ rfl ?_); refine goesC_ (some 16) rfl rfl Try.func49 (by kernel_rfl) rfl rfl rfl #[.agg #[.string ((rd_T41 l0 x8_1).f0), .slice A226_1 ((rd_T41 l0 x8_1).f1).length c226_1, .slice A226_2 ((rd_T41 l0 x8_1).f2).length c226_2], .pointer (some ⟨gb28, 0, none⟩)] aE ?_; (with_reducible refine (impl_assetAt_1.calls ((rd_T41 l0 x8_1).f0) _ _ ((rd_T41 l0 x8_1).f1) _ _ ((rd_T41 l0 x8_1).f2) gb28 a1_0_0 true _ ?side1 ?side2 ?side3 ?side4 ?side5 A6.out).mono ?_); (case side1 => exact cU (Kd.C_below HR226_1.out HB.out)); (case side2 => exact HC226_1.out); (case side3 => exact cU (Kd.C_below HR226_2.out HB.out)); (case side4 => exact HC226_2.out); (case side5 => refine bU ?_; exact BK28.out); rintro e w8 ⟨rfl, hb⟩; refine ⟨_, rfl, ?_⟩; replace BK28 := bB (bV BK28) hb; replace HB := bH (lU) hb; (try clear hb)))
       go_ret
       exact ⟨eE, lU⟩
      ·replace c7 := Bool.eq_false_iff.mpr c7
       subst c7
       have H1 : (slices_IndexFunc_w49.l0 k1 l0 (l0.length : Int) (wrap64 (x8_1 + 1)) a1_0_0) = some r := by rw [if_neg (show ¬ (false = true) by decide)] at H; exact H
       clear H
       have H := H1
       clear H1
       have H' := Aside0.mk H
       clear H
       have p226 : 0 ≤ (x8_1 : Int) := of_decide_eq_true hE
       have q226 : x8_1 < (l0.length : Int) := of_decide_eq_true hE
       obtain ⟨ad226, A226_1, c226_1, A226_2, c226_2, e226, hx226_0, hx226_1, hx226_2, hl226_1, hi226_1, hl226_2, hi226_2⟩ := at_T41 HR0.out x8_1 p226 q226
       cases e226
       replace hx226_0 := (HB.out.cell (World.block_lt_of_cell? w _ hx226_0)).trans hx226_0
       replace hx226_1 := (HB.out.cell (World.block_lt_of_cell? w _ hx226_1)).trans hx226_1
       replace hx226_2 := (HB.out.cell (World.block_lt_of_cell? w _ hx226_2)).trans hx226_2
       have HR226_1 := Aside0.mk hi226_1
       have HC226_1 := Aside0.mk hl226_1
       clear hi226_1 hl226_1
       have HR226_2 := Aside0.mk hi226_2
       have HC226_2 := Aside0.mk hl226_2
       clear hi226_2 hl226_2
       replace p226 := eq_true p226
       replace q226 := eq_true q226
       go_wp2_with (first | ((with_reducible refine gateD_ rfl ?_); refine goesC_ (some 16) rfl rfl Try.func49 (by kernel_rfl) rfl rfl rfl #[.agg #[.string ((rd_T41 l0 x8_1).f0), .slice A226_1 ((rd_T41 l0 x8_1).f1).length c226_1, .slice A226_2 ((rd_T41 l0 x8_1).f2).length c226_2], .pointer (some ⟨gb28, 0, none⟩)] aE ?_; (with_reducible refine (impl_assetAt_1.calls ((rd_T41 l0 x8_1).f0) _ _ ((rd_T41 l0 x8_1).f1) _ _ ((rd_T41 l0 x8_1).f2) gb28 a1_0_0 false _ ?side1 ?side2 ?side3 ?side4 ?side5 A6.out).mono ?_); (case side1 => exact cU (Kd.C_below HR226_1.out HB.out)); (case side2 => exact HC226_1.out); (case side3 => exact cU (Kd.C_below HR226_2.out HB.out)); (case side4 => exact HC226_2.out); (case side5 => refine bU ?_; exact BK28.out); rintro e w9 ⟨rfl, hb⟩; refine ⟨_, rfl, ?_⟩; replace BK28 := bB (bV BK28) hb; replace HB := bH (lU) hb; (try clear hb)))
       go_roundg k1
       case measure => have := HK1.out; omega
       case rel => exact ⟨(wrap64 (x8_1 + 1)), tE, H', ⟨by have := HK1.out; omega⟩, ⟨by refine bU ?_; exact BK28.out⟩, ⟨by repeat (first | (with_reducible first | exact HB.out | apply below_alloc | apply pw_below_drewN | apply below_drew1) | exact HB.out)⟩⟩
     ·rw [if_neg c5] at H
      exact absurd H (by simp)
    ·rw [if_neg c4] at H
     exact absurd H (by simp)
   ·rw [if_neg c3] at H
    have c3b0 : decide (x8_1 < (l0.length : Int)) = false := decide_eq_false c3
    clear c3
    obtain rfl := Option.some.inj H
    go_wp2
    go_ret
    exact ⟨eE, lU⟩
def impl_assetAt.f (k : Nat) (l0 : List (S41)) (a1 : ByteArray) : Option (Int) := (slices_IndexFunc_w49.f k l0 a1).bind fun t229 => (some t229)
theorem impl_assetAt.mono : ∀ a0 a1 k, LeO (impl_assetAt.f k a0 a1) (impl_assetAt.f (k + 1) a0 a1) := by
 intro a0 a1 k
 unfold impl_assetAt.f
 repeat' first
   | (with_reducible exact slices_IndexFunc_w49.mono _ _ _)
   | (with_reducible first | exact LeO.refl _ | exact LeO.none _ | refine LeO.ite ?_ ?_ | refine LeO.bind ?_ (fun _ => ?_))
   | exact slices_IndexFunc_w49.mono _ _ _ | exact LeO.none _ | refine LeO.ite ?_ ?_ | refine LeO.bind ?_ (fun _ => ?_)
set_option maxHeartbeats 8000000 in
set_option maxRecDepth 100000 in
theorem impl_assetAt.calls (k : Nat) (A0 : Option Addr) (c0 : Nat) (l0 : List (S41)) (a1 : ByteArray) (r : Int) (w : World) (hr0 : Kd.C k41 w A0 l0.length l0) (hc0 : l0.length ≤ c0) (h : impl_assetAt.f k l0 a1 = some r) :
  Calls Try.prog 35 #[.slice A0 l0.length c0, .string a1] w fun e w' => e = .returned (.int .i64 r) ∧ Below w.heap.size w w' := by
 have hu9 := Try.underlying9
 have HR0 := Aside0.mk hr0
 have HC0 := Aside0.mk hc0
 clear hr0 hc0
 have HB := Aside0.mk (Below.refl w.heap.size w)
 have H : ((slices_IndexFunc_w49.f k l0 a1).bind fun t229 => (some t229)) = some r := h
 clear h
 replace H := Option.bind_eq_some_iff.mp H
 obtain ⟨t229, A30, H⟩ := H
 replace H : (some t229) = some r := H
 have A3 := Aside0.mk A30
 clear A30
 obtain rfl := Option.some.inj H
 go_enter Try.func35, Try.ntmps35
 go_wp2_with (first | ((with_reducible refine gate_dst (N := 3) rfl ?_); refine box_event rfl (N := 3) rfl (cs := #[.string a1]) (t := 9) sE ?_; intro gb228 hg w4 hbox hb; have BK228 := Aside0.mk hbox; have GW228 := gS w hg (lU); have GE228 := gS w hg (lU); replace HB := bH (lU) hb; clear hb hbox hg) | ((with_reducible refine gate_callee (f := 48) rfl ?_); refine goesL_ (some 7) rfl rfl Try.func48 (by kernel_rfl) rfl #[.slice A0 l0.length c0, .func (.func 49) #[] #[.pointer (some ⟨gb228, 0, none⟩)]] rfl aE ?_; (with_reducible refine (slices_IndexFunc_w49.calls k _ _ l0 gb228 a1 t229 _ ?side1 ?side2 ?side3 A3.out).mono ?_); (case side1 => exact cU (Kd.C_below HR0.out HB.out)); (case side2 => exact HC0.out); (case side3 => refine bU ?_; exact BK228.out); rintro e w5 ⟨rfl, hb⟩; refine ⟨_, rfl, ?_⟩; replace BK228 := bB (bV BK228) hb; replace HB := bH (lV1 GE228) hb; (try clear hb)))
 go_ret
 exact ⟨eE, lV1 GE228⟩
def impl_GoodAssets_1.f (k : Nat) (a0 : ByteArray) (l1_0_0 : List (S41)) : Option (Bool) := (impl_assetAt.f k l1_0_0 a0).bind fun t230 => (some (decide (t230 < 0)))
theorem impl_GoodAssets_1.mono : ∀ a0 a1 k, LeO (impl_GoodAssets_1.f k a0 a1) (impl_GoodAssets_1.f (k + 1) a0 a1) := by
 intro a0 a1 k
 unfold impl_GoodAssets_1.f
 repeat' first
   | (with_reducible exact impl_assetAt.mono _ _ _)
   | (with_reducible first | exact LeO.refl _ | exact LeO.none _ | refine LeO.ite ?_ ?_ | refine LeO.bind ?_ (fun _ => ?_))
   | exact impl_assetAt.mono _ _ _ | exact LeO.none _ | refine LeO.ite ?_ ?_ | refine LeO.bind ?_ (fun _ => ?_)
set_option maxHeartbeats 8000000 in
set_option maxRecDepth 100000 in
theorem impl_GoodAssets_1.calls (k : Nat) (a0 : ByteArray) (gb28 : Nat) (A1_0_0 : Option Addr) (c1_0_0 : Nat) (l1_0_0 : List (S41)) (r : Bool) (w : World) (hr1_0_0 : Kd.C k41 w A1_0_0 l1_0_0.length l1_0_0) (hc1_0_0 : l1_0_0.length ≤ c1_0_0) (hk28 : w.heap[gb28]? = some (.cells #[.slice A1_0_0 l1_0_0.length c1_0_0] 27 (0, 0))) (h : impl_GoodAssets_1.f k a0 l1_0_0 = some r) :
  Calls Try.prog 34 #[.string a0, .pointer (some ⟨gb28, 0, none⟩)] w fun e w' => e = .returned (.bool r) ∧ Below w.heap.size w w' := by
 have HR1_0_0 := Aside0.mk hr1_0_0
 have HC1_0_0 := Aside0.mk hc1_0_0
 clear hr1_0_0 hc1_0_0
 have BK28 := Aside0.mk hk28
 clear hk28
 have HB := Aside0.mk (Below.refl w.heap.size w)
 have H : ((impl_assetAt.f k l1_0_0 a0).bind fun t230 => (some (decide (t230 < 0)))) = some r := h
 clear h
 replace H := Option.bind_eq_some_iff.mp H
 obtain ⟨t230, A30, H⟩ := H
 replace H : (some (decide (t230 < 0))) = some r := H
 have A3 := Aside0.mk A30
 clear A30
 obtain rfl := Option.some.inj H
 have hcz4_0 := cz BK28 0 (.slice A1_0_0 l1_0_0.length c1_0_0)
 have hfz4_0 := fz BK28 0
 go_enter Try.func34, Try.ntmps34
 go_wp2_with (first | ((with_reducible refine gate_callee (f := 35) rfl ?_); refine goesL_ (some 6) rfl rfl Try.func35 (by kernel_rfl) rfl #[.slice A1_0_0 l1_0_0.length c1_0_0, .string a0] rfl aE ?_; (with_reducible refine (impl_assetAt.calls k _ _ l1_0_0 a0 t230 _ ?side1 ?side2 A3.out).mono ?_); (case side1 => repeat (first | exact HR1_0_0.out | (with_reducible refine Kd.C_alloc ?_ _) | (with_reducible refine Kd.C_drewN ?_ _) | (with_reducible refine Kd.C_drew ?_))); (case side2 => exact HC1_0_0.out); rintro e w5 ⟨rfl, hb⟩; refine ⟨_, rfl, ?_⟩; replace BK28 := bB (bV BK28) hb; replace HB := bH (lU) hb; (try clear hb)))
 go_ret
 exact ⟨eE, lU⟩
def slices_Index_string_string.l0 : Nat → List ByteArray → ByteArray → Int → Int → Option (Int)
 | 0, _, _, _, _ => none
 | k + 1, x0, x1, x7, x8 => if x8 < x7 then (if 0 ≤ x8 then (if x8 < (x0.length : Int) then (if x1.toList = (rdOf ByteArray.empty x0 x8).toList then (some x8) else (slices_Index_string_string.l0 k x0 x1 x7 (wrap64 (x8 + 1)))) else (none)) else (none)) else (some (-1))
def slices_Index_string_string.f (k : Nat) (l0 : List ByteArray) (a1 : ByteArray) : Option (Int) := slices_Index_string_string.l0 k l0 a1 (l0.length : Int) 0
theorem slices_Index_string_string.mono_l : ∀ k, (∀ y0 y1 y2 y3, LeO (slices_Index_string_string.l0 k y0 y1 y2 y3) (slices_Index_string_string.l0 (k + 1) y0 y1 y2 y3))
 | 0 => fun _ _ _ _ r h => by simp [slices_Index_string_string.l0] at h
 | k + 1 => by
  have ih0 := slices_Index_string_string.mono_l k
  ·intro y0 y1 y2 y3
   unfold slices_Index_string_string.l0
   repeat' first
   | (with_reducible exact ih0 _ _ _ _)
   | (with_reducible first | exact LeO.refl _ | exact LeO.none _ | refine LeO.ite ?_ ?_ | refine LeO.bind ?_ (fun _ => ?_))
   | exact ih0 _ _ _ _ | exact LeO.none _ | refine LeO.ite ?_ ?_ | refine LeO.bind ?_ (fun _ => ?_)
theorem slices_Index_string_string.mono : ∀ a0 a1 k, LeO (slices_Index_string_string.f k a0 a1) (slices_Index_string_string.f (k + 1) a0 a1) := by
 intro a0 a1 k
 have ih0 := slices_Index_string_string.mono_l k
 unfold slices_Index_string_string.f
 repeat' first
   | (with_reducible exact ih0 _ _ _ _)
   | (with_reducible first | exact LeO.refl _ | exact LeO.none _ | refine LeO.ite ?_ ?_ | refine LeO.bind ?_ (fun _ => ?_))
   | exact ih0 _ _ _ _ | exact LeO.none _ | refine LeO.ite ?_ ?_ | refine LeO.bind ?_ (fun _ => ?_)
set_option maxHeartbeats 8000000 in
set_option maxRecDepth 100000 in
theorem slices_Index_string_string.calls (k : Nat) (A0 : Option Addr) (c0 : Nat) (l0 : List ByteArray) (a1 : ByteArray) (r : Int) (w : World) (hr0 : Kd.C Kd.string w A0 l0.length l0) (hc0 : l0.length ≤ c0) (h : slices_Index_string_string.f k l0 a1 = some r) :
  Calls Try.prog 54 #[.slice A0 l0.length c0, .string a1] w fun e w' => e = .returned (.int .i64 r) ∧ Drawn0 w w' := by
 have HR0 := Aside0.mk hr0
 have HC0 := Aside0.mk hc0
 clear hr0 hc0
 have H : (slices_Index_string_string.l0 k l0 a1 (l0.length : Int) 0) = some r := h
 clear h
 have H' := Aside0.mk H
 clear H
 go_enter Try.func54, Try.ntmps54
 go_wp2
 go_loopg [8] k (fun kq v8 w' => ∃ (x8_1 : Int), v8 = .int .i64 x8_1 ∧ Aside0 (slices_Index_string_string.l0 kq l0 a1 (l0.length : Int) x8_1 = some r) ∧ Aside0 (kq ≤ k) ∧ Drawn0 w w')
 case atStart => exact ⟨(0), tE, H', ⟨Nat.le_refl _⟩, by repeat (first | exact Drawn0.refl _ | apply Drawn0.step)⟩
 case round =>
  clear H'
  try clear p2
  obtain ⟨x8_1, rfl, HA, HK1, ⟨m1, rfl⟩⟩ := hrel
  cases gk with
  | zero => exact absurd HA.out (by simp [slices_Index_string_string.l0])
  | succ k1 =>
   have H := HA.out
   clear HA
   simp only [slices_Index_string_string.l0] at H
   by_cases c3 : x8_1 < (l0.length : Int)
   ·rw [if_pos c3] at H
    have c3b0 : decide (x8_1 < (l0.length : Int)) = true := decide_eq_true c3
    clear c3
    by_cases c4 : 0 ≤ x8_1
    ·rw [if_pos c4] at H
     have c4b0 : decide (0 ≤ x8_1) = true := decide_eq_true c4
     clear c4
     by_cases c5 : x8_1 < (l0.length : Int)
     ·rw [if_pos c5] at H
      have c5b0 : decide (x8_1 < (l0.length : Int)) = true := decide_eq_true c5
      clear c5
      by_cases c6 : a1.toList = (rdOf ByteArray.empty l0 x8_1).toList
      ·rw [if_pos c6] at H
       have c6b0 : (a1.toList == (rdOf ByteArray.empty l0 x8_1).toList) = true := beq_iff_eq.mpr c6
       have c6b1 : (a1.toList != (rdOf ByteArray.empty l0 x8_1).toList) = false := bne_eq_false_iff_eq.mpr c6
       clear c6
       obtain rfl := Option.some.inj H
       have p231 : 0 ≤ (x8_1 : Int) := of_decide_eq_true hE
       have q231 : x8_1 < (l0.length : Int) := of_decide_eq_true hE
       obtain ⟨ad231, e231, hx231_0⟩ := Kd.at_string HR0.out x8_1 p231 q231
       cases e231
       replace p231 := eq_true p231
       replace q231 := eq_true q231
       go_wp2
       go_ret
       exact ⟨by first | rfl | (simp; done) | (simp [*]; done) | exact not_isEmpty _ | exact (not_isEmpty _).symm | exact is_empty _ | exact (is_empty _).symm, by repeat (first | exact Drawn0.refl _ | apply Drawn0.step)⟩
      ·rw [if_neg c6] at H
       have c6b0 : (a1.toList == (rdOf ByteArray.empty l0 x8_1).toList) = false := beq_eq_false_iff_ne.mpr c6
       have c6b1 : (a1.toList != (rdOf ByteArray.empty l0 x8_1).toList) = true := bne_iff_ne.mpr c6
       have H' := Aside0.mk H
       clear H
       have p231 : 0 ≤ (x8_1 : Int) := of_decide_eq_true hE
       have q231 : x8_1 < (l0.length : Int) := of_decide_eq_true hE
       obtain ⟨ad231, e231, hx231_0⟩ := Kd.at_string HR0.out x8_1 p231 q231
       cases e231
       replace p231 := eq_true p231
       replace q231 := eq_true q231
       go_wp2
       go_roundg k1
       case measure => have := HK1.out; omega
       case rel => exact ⟨(wrap64 (x8_1 + 1)), tE, H', ⟨by have := HK1.out; omega⟩, by repeat (first | exact Drawn0.refl _ | apply Drawn0.step)⟩
     ·rw [if_neg c5] at H
      exact absurd H (by simp)
    ·rw [if_neg c4] at H
     exact absurd H (by simp)
   ·rw [if_neg c3] at H
    have c3b0 : decide (x8_1 < (l0.length : Int)) = false := decide_eq_false c3
    clear c3
    obtain rfl := Option.some.inj H
    go_wp2
    go_ret
    exact ⟨by first | rfl | (simp; done) | (simp [*]; done) | exact not_isEmpty _ | exact (not_isEmpty _).symm | exact is_empty _ | exact (is_empty _).symm, by repeat (first | exact Drawn0.refl _ | apply Drawn0.step)⟩
def slices_Contains_string_string.f (k : Nat) (l0 : List ByteArray) (a1 : ByteArray) : Option (Bool) := (slices_Index_string_string.f k l0 a1).bind fun t232 => (some (decide (t232 ≥ 0)))
theorem slices_Contains_string_string.mono : ∀ a0 a1 k, LeO (slices_Contains_string_string.f k a0 a1) (slices_Contains_string_string.f (k + 1) a0 a1) := by
 intro a0 a1 k
 unfold slices_Contains_string_string.f
 repeat' first
   | (with_reducible exact slices_Index_string_string.mono _ _ _)
   | (with_reducible first | exact LeO.refl _ | exact LeO.none _ | refine LeO.ite ?_ ?_ | refine LeO.bind ?_ (fun _ => ?_))
   | exact slices_Index_string_string.mono _ _ _ | exact LeO.none _ | refine LeO.ite ?_ ?_ | refine LeO.bind ?_ (fun _ => ?_)
set_option maxHeartbeats 8000000 in
set_option maxRecDepth 100000 in
theorem slices_Contains_string_string.calls (k : Nat) (A0 : Option Addr) (c0 : Nat) (l0 : List ByteArray) (a1 : ByteArray) (r : Bool) (w : World) (hr0 : Kd.C Kd.string w A0 l0.length l0) (hc0 : l0.length ≤ c0) (h : slices_Contains_string_string.f k l0 a1 = some r) :
  Calls Try.prog 51 #[.slice A0 l0.length c0, .string a1] w fun e w' => e = .returned (.bool r) ∧ Drawn0 w w' := by
 have HR0 := Aside0.mk hr0
 have HC0 := Aside0.mk hc0
 clear hr0 hc0
 have H : ((slices_Index_string_string.f k l0 a1).bind fun t232 => (some (decide (t232 ≥ 0)))) = some r := h
 clear h
 replace H := Option.bind_eq_some_iff.mp H
 obtain ⟨t232, A30, H⟩ := H
 replace H : (some (decide (t232 ≥ 0))) = some r := H
 have A3 := Aside0.mk A30
 clear A30
 obtain rfl := Option.some.inj H
 go_enter Try.func51, Try.ntmps51
 go_wp2_with (first | ((with_reducible refine gate_callee (f := 54) rfl ?_); refine goesL_ (some 7) rfl rfl Try.func54 (by kernel_rfl) rfl #[.slice A0 l0.length c0, .string a1] rfl aE ?_; (with_reducible refine (slices_Index_string_string.calls k _ _ l0 a1 t232 _ ?side1 ?side2 A3.out).mono ?_); (case side1 => repeat (first | exact HR0.out | (with_reducible refine Kd.C_alloc ?_ _) | (with_reducible refine Kd.C_drewN ?_ _) | (with_reducible refine Kd.C_drew ?_))); (case side2 => exact HC0.out); rintro e w' ⟨rfl, ⟨nd, rfl⟩⟩; refine ⟨_, rfl, ?_⟩))
 go_ret
 exact ⟨by first | rfl | (simp; done) | (simp [*]; done) | exact not_isEmpty _ | exact (not_isEmpty _).symm | exact is_empty _ | exact (is_empty _).symm, by repeat (first | exact Drawn0.refl _ | apply Drawn0.step)⟩
def impl_makeOrder_1_1.f (k : Nat) (a0 : ByteArray) (l1_0_0 : List ByteArray) : Option (Bool) := (slices_Contains_string_string.f k l1_0_0 a0).bind fun t233 => (some (!t233))
theorem impl_makeOrder_1_1.mono : ∀ a0 a1 k, LeO (impl_makeOrder_1_1.f k a0 a1) (impl_makeOrder_1_1.f (k + 1) a0 a1) := by
 intro a0 a1 k
 unfold impl_makeOrder_1_1.f
 repeat' first
   | (with_reducible exact slices_Contains_string_string.mono _ _ _)
   | (with_reducible first | exact LeO.refl _ | exact LeO.none _ | refine LeO.ite ?_ ?_ | refine LeO.bind ?_ (fun _ => ?_))
   | exact slices_Contains_string_string.mono _ _ _ | exact LeO.none _ | refine LeO.ite ?_ ?_ | refine LeO.bind ?_ (fun _ => ?_)
set_option maxHeartbeats 8000000 in
set_option maxRecDepth 100000 in
theorem impl_makeOrder_1_1.calls (k : Nat) (a0 : ByteArray) (gb28 : Nat) (A1_0_0 : Option Addr) (c1_0_0 : Nat) (l1_0_0 : List ByteArray) (r : Bool) (w : World) (hr1_0_0 : Kd.C Kd.string w A1_0_0 l1_0_0.length l1_0_0) (hc1_0_0 : l1_0_0.length ≤ c1_0_0) (hk28 : w.heap[gb28]? = some (.cells #[.slice A1_0_0 l1_0_0.length c1_0_0] 24 (0, 0))) (h : impl_makeOrder_1_1.f k a0 l1_0_0 = some r) :
  Calls Try.prog 52 #[.string a0, .pointer (some ⟨gb28, 0, none⟩)] w fun e w' => e = .returned (.bool r) ∧ Below w.heap.size w w' := by
 have HR1_0_0 := Aside0.mk hr1_0_0
 have HC1_0_0 := Aside0.mk hc1_0_0
 clear hr1_0_0 hc1_0_0
 have BK28 := Aside0.mk hk28
 clear hk28
 have HB := Aside0.mk (Below.refl w.heap.size w)
 have H : ((slices_Contains_string_string.f k l1_0_0 a0).bind fun t233 => (some (!t233))) = some r := h
 clear h
 replace H := Option.bind_eq_some_iff.mp H
 obtain ⟨t233, A30, H⟩ := H
 replace H : (some (!t233)) = some r := H
 have A3 := Aside0.mk A30
 clear A30
 obtain rfl := Option.some.inj H
 have hcz4_0 := cz BK28 0 (.slice A1_0_0 l1_0_0.length c1_0_0)
 have hfz4_0 := fz BK28 0
 go_enter Try.func52, Try.ntmps52
 go_wp2_with (first | ((with_reducible refine gate_callee (f := 51) rfl ?_); refine goesL_ (some 6) rfl rfl Try.func51 (by kernel_rfl) rfl #[.slice A1_0_0 l1_0_0.length c1_0_0, .string a0] rfl aE ?_; (with_reducible refine (slices_Contains_string_string.calls k _ _ l1_0_0 a0 t233 _ ?side1 ?side2 A3.out).mono ?_); (case side1 => repeat (first | exact HR1_0_0.out | (with_reducible refine Kd.C_alloc ?_ _) | (with_reducible refine Kd.C_drewN ?_ _) | (with_reducible refine Kd.C_drew ?_))); (case side2 => exact HC1_0_0.out); rintro e w' ⟨rfl, ⟨nd, rfl⟩⟩; refine ⟨_, rfl, ?_⟩))
 go_ret
 exact ⟨eE, lU⟩
def slices_IndexFunc_w52.l0 : Nat → List ByteArray → Int → Int → List ByteArray → Option (Int)
 | 0, _, _, _, _ => none
 | k + 1, x0, x7, x8, x29000 => if x8 < x7 then (if 0 ≤ x8 then (if x8 < (x0.length : Int) then ((impl_makeOrder_1_1.f k (rdOf ByteArray.empty x0 x8) x29000).bind fun t235 => (if t235 = true then (some x8) else (slices_IndexFunc_w52.l0 k x0 x7 (wrap64 (x8 + 1)) x29000))) else (none)) else (none)) else (some (-1))
def slices_IndexFunc_w52.f (k : Nat) (l0 : List ByteArray) (l1_0_0 : List ByteArray) : Option (Int) := slices_IndexFunc_w52.l0 k l0 (l0.length : Int) 0 l1_0_0
theorem slices_IndexFunc_w52.mono_l : ∀ k, (∀ y0 y1 y2 y3, LeO (slices_IndexFunc_w52.l0 k y0 y1 y2 y3) (slices_IndexFunc_w52.l0 (k + 1) y0 y1 y2 y3))
 | 0 => fun _ _ _ _ r h => by simp [slices_IndexFunc_w52.l0] at h
 | k + 1 => by
  have ih0 := slices_IndexFunc_w52.mono_l k
  ·intro y0 y1 y2 y3
   unfold slices_IndexFunc_w52.l0
   repeat' first
   | (with_reducible exact ih0 _ _ _ _)
   | (with_reducible exact impl_makeOrder_1_1.mono _ _ _)
   | (with_reducible first | exact LeO.refl _ | exact LeO.none _ | refine LeO.ite ?_ ?_ | refine LeO.bind ?_ (fun _ => ?_))
   | exact ih0 _ _ _ _
   | exact impl_makeOrder_1_1.mono _ _ _ | exact LeO.none _ | refine LeO.ite ?_ ?_ | refine LeO.bind ?_ (fun _ => ?_)
theorem slices_IndexFunc_w52.mono : ∀ a0 a1 k, LeO (slices_IndexFunc_w52.f k a0 a1) (slices_IndexFunc_w52.f (k + 1) a0 a1) := by
 intro a0 a1 k
 have ih0 := slices_IndexFunc_w52.mono_l k
 unfold slices_IndexFunc_w52.f
 repeat' first
   | (with_reducible exact ih0 _ _ _ _)
   | (with_reducible exact impl_makeOrder_1_1.mono _ _ _)
   | (with_reducible first | exact LeO.refl _ | exact LeO.none _ | refine LeO.ite ?_ ?_ | refine LeO.bind ?_ (fun _ => ?_))
   | exact ih0 _ _ _ _
   | exact impl_makeOrder_1_1.mono _ _ _ | exact LeO.none _ | refine LeO.ite ?_ ?_ | refine LeO.bind ?_ (fun _ => ?_)
set_option maxHeartbeats 8000000 in
set_option maxRecDepth 100000 in
theorem slices_IndexFunc_w52.calls (k : Nat) (A0 : Option Addr) (c0 : Nat) (l0 : List ByteArray) (gb28 : Nat) (A1_0_0 : Option Addr) (c1_0_0 : Nat) (l1_0_0 : List ByteArray) (r : Int) (w : World) (hr0 : Kd.C Kd.string w A0 l0.length l0) (hc0 : l0.length ≤ c0) (hr1_0_0 : Kd.C Kd.string w A1_0_0 l1_0_0.length l1_0_0) (hc1_0_0 : l1_0_0.length ≤ c1_0_0) (hk28 : w.heap[gb28]? = some (.cells #[.slice A1_0_0 l1_0_0.length c1_0_0] 24 (0, 0))) (h : slices_IndexFunc_w52.f k l0 l1_0_0 = some r) :
  Calls Try.prog 47 #[.slice A0 l0.length c0, .func (.func 52) #[] #[.pointer (some ⟨gb28, 0, none⟩)]] w fun e w' => e = .returned (.int .i64 r) ∧ Below w.heap.size w w' := by
 have HR0 := Aside0.mk hr0
 have HC0 := Aside0.mk hc0
 clear hr0 hc0
 have HR1_0_0 := Aside0.mk hr1_0_0
 have HC1_0_0 := Aside0.mk hc1_0_0
 clear hr1_0_0 hc1_0_0
 have BK28 := Aside0.mk hk28
 clear hk28
 have HB := Aside0.mk (Below.refl w.heap.size w)
 have H : (slices_IndexFunc_w52.l0 k l0 (l0.length : Int) 0 l1_0_0) = some r := h
 clear h
 have H' := Aside0.mk H
 clear H
 go_enter Try.func47, Try.ntmps47
 go_wp2
 go_loopg [8] k (fun kq v8 w' => ∃ (x8_1 : Int), v8 = .int .i64 x8_1 ∧ Aside0 (slices_IndexFunc_w52.l0 kq l0 (l0.length : Int) x8_1 l1_0_0 = some r) ∧ Aside0 (kq ≤ k) ∧ Aside0 (w'.heap[gb28]? = some (.cells #[(.slice A1_0_0 l1_0_0.length c1_0_0)] 24 (0, 0))) ∧ Aside0 (Below w.heap.size w w'))
 case atStart => exact ⟨(0), tE, H', ⟨Nat.le_refl _⟩, ⟨by refine bU ?_; exact BK28.out⟩, ⟨by repeat (first | (with_reducible first | exact HB.out | apply below_alloc | apply pw_below_drewN | apply below_drew1) | exact HB.out)⟩⟩
 case round =>
  clear H'
  try clear c1
  try clear p2
  obtain ⟨x8_1, rfl, HA, HK1, BK28, HB⟩ := hrel
  cases gk with
  | zero => exact absurd HA.out (by simp [slices_IndexFunc_w52.l0])
  | succ k1 =>
   have H := HA.out
   clear HA
   simp only [slices_IndexFunc_w52.l0] at H
   by_cases c3 : x8_1 < (l0.length : Int)
   ·rw [if_pos c3] at H
    have c3b0 : decide (x8_1 < (l0.length : Int)) = true := decide_eq_true c3
    clear c3
    by_cases c4 : 0 ≤ x8_1
    ·rw [if_pos c4] at H
     have c4b0 : decide (0 ≤ x8_1) = true := decide_eq_true c4
     clear c4
     by_cases c5 : x8_1 < (l0.length : Int)
     ·rw [if_pos c5] at H
      have c5b0 : decide (x8_1 < (l0.length : Int)) = true := decide_eq_true c5
      clear c5
      replace H := Option.bind_eq_some_iff.mp H
      obtain ⟨t235, A60, H⟩ := H
      replace H : (if t235 = true then (some x8_1) else (slices_IndexFunc_w52.l0 k1 l0 (l0.length : Int) (wrap64 (x8_1 + 1)) l1_0_0)) = some r := H
      have A6 := Aside0.mk A60
      clear A60
      by_cases c7 : t235 = true
      ·subst c7
       have H1 : (some x8_1) = some r := by rw [if_pos rfl] at H; exact H
       clear H
       have H := H1
       clear H1
       obtain rfl := Option.some.inj H
       have p234 : 0 ≤ (x8_1 : Int) := of_decide_eq_true hE
       have q234 : x8_1 < (l0.length : Int) := of_decide_eq_true hE
       obtain ⟨ad234, e234, hx234_0⟩ := Kd.at_string HR0.out x8_1 p234 q234
       cases e234
       replace hx234_0 := (HB.out.cell (World.block_lt_of_cell? w _ hx234_0)).trans hx234_0
       replace p234 := eq_true p234
       replace q234 := eq_true q234
       go_wp2_with (first | ((with_reducible refine gateD_ rfl ?_); refine goesC_ (some 16) rfl rfl Try.func52 (by kernel_rfl) rfl rfl rfl #[.string (rdOf ByteArray.empty l0 x8_1), .pointer (some ⟨gb28, 0, none⟩)] aE ?_; (with_reducible refine (impl_makeOrder_1_1.calls k1 (rdOf ByteArray.empty l0 x8_1) gb28 A1_0_0 c1_0_0 l1_0_0 true _ ?side1 ?side2 ?side3 A6.out).mono ?_); (case side1 => exact cU (Kd.C_below HR1_0_0.out HB.out)); (case side2 => exact HC1_0_0.out); (case side3 => refine bU ?_; exact BK28.out); rintro e w8 ⟨rfl, hb⟩; refine ⟨_, rfl, ?_⟩; replace BK28 := bB (bV BK28) hb; replace HB := bH (lU) hb; (try clear hb)))
       go_ret
       exact ⟨eE, lU⟩
      ·replace c7 := Bool.eq_false_iff.mpr c7
       subst c7
       have H1 : (slices_IndexFunc_w52.l0 k1 l0 (l0.length : Int) (wrap64 (x8_1 + 1)) l1_0_0) = some r := by rw [if_neg (show ¬ (false = true) by decide)] at H; exact H
       clear H
       have H := H1
       clear H1
       have H' := Aside0.mk H
       clear H
       have p234 : 0 ≤ (x8_1 : Int) := of_decide_eq_true hE
       have q234 : x8_1 < (l0.length : Int) := of_decide_eq_true hE
       obtain ⟨ad234, e234, hx234_0⟩ := Kd.at_string HR0.out x8_1 p234 q234
       cases e234
       replace hx234_0 := (HB.out.cell (World.block_lt_of_cell? w _ hx234_0)).trans hx234_0
       replace p234 := eq_true p234
       replace q234 := eq_true q234
       go_wp2_with (first | ((with_reducible refine gateD_ rfl ?_); refine goesC_ (some 16) rfl rfl Try.func52 (by kernel_rfl) rfl rfl rfl #[.string (rdOf ByteArray.empty l0 x8_1), .pointer (some ⟨gb28, 0, none⟩)] aE ?_; (with_reducible refine (impl_makeOrder_1_1.calls k1 (rdOf ByteArray.empty l0 x8_1) gb28 A1_0_0 c1_0_0 l1_0_0 false _ ?side1 ?side2 ?side3 A6.out).mono ?_); (case side1 => exact cU (Kd.C_below HR1_0_0.out HB.out)); (case side2 => exact HC1_0_0.out); (case side3 => refine bU ?_; exact BK28.out); rintro e w9 ⟨rfl, hb⟩; refine ⟨_, rfl, ?_⟩; replace BK28 := bB (bV BK28) hb; replace HB := bH (lU) hb; (try clear hb)))
       go_roundg k1
       case measure => have := HK1.out; omega
       case rel => exact ⟨(wrap64 (x8_1 + 1)), tE, H', ⟨by have := HK1.out; omega⟩, ⟨by refine bU ?_; exact BK28.out⟩, ⟨by repeat (first | (with_reducible first | exact HB.out | apply below_alloc | apply pw_below_drewN | apply below_drew1) | exact HB.out)⟩⟩
     ·rw [if_neg c5] at H
      exact absurd H (by simp)
    ·rw [if_neg c4] at H
     exact absurd H (by simp)
   ·rw [if_neg c3] at H
    have c3b0 : decide (x8_1 < (l0.length : Int)) = false := decide_eq_false c3
    clear c3
    obtain rfl := Option.some.inj H
    go_wp2
    go_ret
    exact ⟨eE, lU⟩
def slices_ContainsFunc_w52.f (k : Nat) (l0 : List ByteArray) (l1_0_0 : List ByteArray) : Option (Bool) := (slices_IndexFunc_w52.f k l0 l1_0_0).bind fun t236 => (some (decide (t236 ≥ 0)))
theorem slices_ContainsFunc_w52.mono : ∀ a0 a1 k, LeO (slices_ContainsFunc_w52.f k a0 a1) (slices_ContainsFunc_w52.f (k + 1) a0 a1) := by
 intro a0 a1 k
 unfold slices_ContainsFunc_w52.f
 repeat' first
   | (with_reducible exact slices_IndexFunc_w52.mono _ _ _)
   | (with_reducible first | exact LeO.refl _ | exact LeO.none _ | refine LeO.ite ?_ ?_ | refine LeO.bind ?_ (fun _ => ?_))
   | exact slices_IndexFunc_w52.mono _ _ _ | exact LeO.none _ | refine LeO.ite ?_ ?_ | refine LeO.bind ?_ (fun _ => ?_)
set_option maxHeartbeats 8000000 in
set_option maxRecDepth 100000 in
theorem slices_ContainsFunc_w52.calls (k : Nat) (A0 : Option Addr) (c0 : Nat) (l0 : List ByteArray) (gb28 : Nat) (A1_0_0 : Option Addr) (c1_0_0 : Nat) (l1_0_0 : List ByteArray) (r : Bool) (w : World) (hr0 : Kd.C Kd.string w A0 l0.length l0) (hc0 : l0.length ≤ c0) (hr1_0_0 : Kd.C Kd.string w A1_0_0 l1_0_0.length l1_0_0) (hc1_0_0 : l1_0_0.length ≤ c1_0_0) (hk28 : w.heap[gb28]? = some (.cells #[.slice A1_0_0 l1_0_0.length c1_0_0] 24 (0, 0))) (h : slices_ContainsFunc_w52.f k l0 l1_0_0 = some r) :
  Calls Try.prog 33 #[.slice A0 l0.length c0, .func (.func 52) #[] #[.pointer (some ⟨gb28, 0, none⟩)]] w fun e w' => e = .returned (.bool r) ∧ Below w.heap.size w w' := by
 have HR0 := Aside0.mk hr0
 have HC0 := Aside0.mk hc0
 clear hr0 hc0
 have HR1_0_0 := Aside0.mk hr1_0_0
 have HC1_0_0 := Aside0.mk hc1_0_0
 clear hr1_0_0 hc1_0_0
 have BK28 := Aside0.mk hk28
 clear hk28
 have HB := Aside0.mk (Below.refl w.heap.size w)
 have H : ((slices_IndexFunc_w52.f k l0 l1_0_0).bind fun t236 => (some (decide (t236 ≥ 0)))) = some r := h
 clear h
 replace H := Option.bind_eq_some_iff.mp H
 obtain ⟨t236, A30, H⟩ := H
 replace H : (some (decide (t236 ≥ 0))) = some r := H
 have A3 := Aside0.mk A30
 clear A30
 obtain rfl := Option.some.inj H
 go_enter Try.func33, Try.ntmps33
 go_wp2_with (first | ((with_reducible refine gate_callee (f := 47) rfl ?_); refine goesL_ (some 7) rfl rfl Try.func47 (by kernel_rfl) rfl #[.slice A0 l0.length c0, .func (.func 52) #[] #[.pointer (some ⟨gb28, 0, none⟩)]] rfl aE ?_; (with_reducible refine (slices_IndexFunc_w52.calls k _ _ l0 gb28 A1_0_0 c1_0_0 l1_0_0 t236 _ ?side1 ?side2 ?side3 ?side4 ?side5 A3.out).mono ?_); (case side1 => repeat (first | exact HR0.out | (with_reducible refine Kd.C_alloc ?_ _) | (with_reducible refine Kd.C_drewN ?_ _) | (with_reducible refine Kd.C_drew ?_))); (case side2 => exact HC0.out); (case side3 => repeat (first | exact HR1_0_0.out | (with_reducible refine Kd.C_alloc ?_ _) | (with_reducible refine Kd.C_drewN ?_ _) | (with_reducible refine Kd.C_drew ?_))); (case side4 => exact HC1_0_0.out); (case side5 => refine bU ?_; exact BK28.out); rintro e w4 ⟨rfl, hb⟩; refine ⟨_, rfl, ?_⟩; replace BK28 := bB (bV BK28) hb; replace HB := bH (lU) hb; (try clear hb)))
 go_ret
 exact ⟨eE, lU⟩
def impl_makeOrder_1.f (k : Nat) (a0_0 : ByteArray) (l0_1 : List ByteArray) (l0_2 : List Int) (l1_0_0 : List ByteArray) : Option (Bool) := (slices_Contains_string_string.f k l1_0_0 a0_0).bind fun t238 => (if t238 = true then (some false) else ((slices_ContainsFunc_w52.f k l0_1 l1_0_0).bind fun t239 => (some (!t239))))
theorem impl_makeOrder_1.mono : ∀ a0 a1 a2 a3 k, LeO (impl_makeOrder_1.f k a0 a1 a2 a3) (impl_makeOrder_1.f (k + 1) a0 a1 a2 a3) := by
 intro a0 a1 a2 a3 k
 unfold impl_makeOrder_1.f
 repeat' first
   | (with_reducible exact slices_ContainsFunc_w52.mono _ _ _)
   | (with_reducible exact slices_Contains_string_string.mono _ _ _)
   | (with_reducible first | exact LeO.refl _ | exact LeO.none _ | refine LeO.ite ?_ ?_ | refine LeO.bind ?_ (fun _ => ?_))
   | exact slices_ContainsFunc_w52.mono _ _ _
   | exact slices_Contains_string_string.mono _ _ _ | exact LeO.none _ | refine LeO.ite ?_ ?_ | refine LeO.bind ?_ (fun _ => ?_)
set_option maxHeartbeats 8000000 in
set_option maxRecDepth 100000 in
theorem impl_makeOrder_1.calls (k : Nat) (a0_0 : ByteArray) (A0_1 : Option Addr) (c0_1 : Nat) (l0_1 : List ByteArray) (A0_2 : Option Addr) (c0_2 : Nat) (l0_2 : List Int) (gb28 : Nat) (A1_0_0 : Option Addr) (c1_0_0 : Nat) (l1_0_0 : List ByteArray) (r : Bool) (w : World) (hr0_1 : Kd.C Kd.string w A0_1 l0_1.length l0_1) (hc0_1 : l0_1.length ≤ c0_1) (hr0_2 : Kd.C (Kd.int .u8) w A0_2 l0_2.length l0_2) (hc0_2 : l0_2.length ≤ c0_2) (hr1_0_0 : Kd.C Kd.string w A1_0_0 l1_0_0.length l1_0_0) (hc1_0_0 : l1_0_0.length ≤ c1_0_0) (hk28 : w.heap[gb28]? = some (.cells #[.slice A1_0_0 l1_0_0.length c1_0_0] 24 (0, 0))) (h : impl_makeOrder_1.f k a0_0 l0_1 l0_2 l1_0_0 = some r) :
  Calls Try.prog 50 #[.agg #[.string a0_0, .slice A0_1 l0_1.length c0_1, .slice A0_2 l0_2.length c0_2], .pointer (some ⟨gb28, 0, none⟩)] w fun e w' => e = .returned (.bool r) ∧ Below w.heap.size w w' := by
 have hu41 := Try.underlying41
 have HR0_1 := Aside0.mk hr0_1
 have HC0_1 := Aside0.mk hc0_1
 clear hr0_1 hc0_1
 have HR0_2 := Aside0.mk hr0_2
 have HC0_2 := Aside0.mk hc0_2
 clear hr0_2 hc0_2
 have HR1_0_0 := Aside0.mk hr1_0_0
 have HC1_0_0 := Aside0.mk hc1_0_0
 clear hr1_0_0 hc1_0_0
 have BK28 := Aside0.mk hk28
 clear hk28
 have HB := Aside0.mk (Below.refl w.heap.size w)
 have H : ((slices_Contains_string_string.f k l1_0_0 a0_0).bind fun t238 => (if t238 = true then (some false) else ((slices_ContainsFunc_w52.f k l0_1 l1_0_0).bind fun t239 => (some (!t239))))) = some r := h
 clear h
 replace H := Option.bind_eq_some_iff.mp H
 obtain ⟨t238, A30, H⟩ := H
 replace H : (if t238 = true then (some false) else ((slices_ContainsFunc_w52.f k l0_1 l1_0_0).bind fun t239 => (some (!t239)))) = some r := H
 have A3 := Aside0.mk A30
 clear A30
 by_cases c4 : t238 = true
 ·subst c4
  have H1 : (some false) = some r := by rw [if_pos rfl] at H; exact H
  clear H
  have H := H1
  clear H1
  obtain rfl := Option.some.inj H
  go_enter Try.func50, Try.ntmps50
  go_wp2_with (first | ((with_reducible refine gate_dst (N := 2) rfl ?_); refine box_event rfl (N := 2) rfl (cs := #[.string a0_0, .slice A0_1 l0_1.length c0_1, .slice A0_2 l0_2.length c0_2]) (t := 41) sE ?_; intro gb237 hg w5 hbox hb; have BK237 := Aside0.mk hbox; have GW237 := gS w hg (lU); have GE237 := gS w hg (lU); replace HB := bH (lU) hb; have NB28_237 := nL hg (bV BK28); have NB237_28 := nG hg (bV BK28); replace BK28 := bB (bV BK28) hb; clear hb hbox hg; have hnb6 := NB28_237.out; have hnc6 := NB237_28.out; have hcz7_0 := cz BK28 0 (.slice A1_0_0 l1_0_0.length c1_0_0); have hfz7_0 := fz BK28 0; have hcz8_0 := cz BK237 0 (.string a0_0); have hcz8_1 := cz BK237 1 (.slice A0_1 l0_1.length c0_1); have hcz8_2 := cz BK237 2 (.slice A0_2 l0_2.length c0_2); have hfz8_0 := fz BK237 0; have hfz8_1 := fz BK237 1; have hfz8_2 := fz BK237 2) | ((with_reducible refine gate_callee (f := 51) rfl ?_); refine goesL_ (some 7) rfl rfl Try.func51 (by kernel_rfl) rfl #[.slice A1_0_0 l1_0_0.length c1_0_0, .string a0_0] rfl aE ?_; (with_reducible refine (slices_Contains_string_string.calls k _ _ l1_0_0 a0_0 true _ ?side1 ?side2 A3.out).mono ?_); (case side1 => exact cU (Kd.C_below HR1_0_0.out HB.out)); (case side2 => exact HC1_0_0.out); rintro e w' ⟨rfl, ⟨nd, rfl⟩⟩; refine ⟨_, rfl, ?_⟩))
  go_ret
  exact ⟨eE, lV1 GE237⟩
 ·replace c4 := Bool.eq_false_iff.mpr c4
  subst c4
  have H1 : ((slices_ContainsFunc_w52.f k l0_1 l1_0_0).bind fun t239 => (some (!t239))) = some r := by rw [if_neg (show ¬ (false = true) by decide)] at H; exact H
  clear H
  have H := H1
  clear H1
  replace H := Option.bind_eq_some_iff.mp H
  obtain ⟨t239, A90, H⟩ := H
  replace H : (some (!t239)) = some r := H
  have A9 := Aside0.mk A90
  clear A90
  obtain rfl := Option.some.inj H
  go_enter Try.func50, Try.ntmps50
  go_wp2_with (first | ((with_reducible refine gate_dst (N := 2) rfl ?_); refine box_event rfl (N := 2) rfl (cs := #[.string a0_0, .slice A0_1 l0_1.length c0_1, .slice A0_2 l0_2.length c0_2]) (t := 41) sE ?_; intro gb237 hg w10 hbox hb; have BK237 := Aside0.mk hbox; have GW237 := gS w hg (lU); have GE237 := gS w hg (lU); replace HB := bH (lU) hb; have NB28_237 := nL hg (bV BK28); have NB237_28 := nG hg (bV BK28); replace BK28 := bB (bV BK28) hb; clear hb hbox hg; have hnb11 := NB28_237.out; have hnc11 := NB237_28.out; have hcz12_0 := cz BK28 0 (.slice A1_0_0 l1_0_0.length c1_0_0); have hfz12_0 := fz BK28 0; have hcz13_0 := cz BK237 0 (.string a0_0); have hcz13_1 := cz BK237 1 (.slice A0_1 l0_1.length c0_1); have hcz13_2 := cz BK237 2 (.slice A0_2 l0_2.length c0_2); have hfz13_0 := fz BK237 0; have hfz13_1 := fz BK237 1; have hfz13_2 := fz BK237 2) | ((with_reducible refine gate_callee (f := 51) rfl ?_); refine goesL_ (some 7) rfl rfl Try.func51 (by kernel_rfl) rfl #[.slice A1_0_0 l1_0_0.length c1_0_0, .string a0_0] rfl aE ?_; (with_reducible refine (slices_Contains_string_string.calls k _ _ l1_0_0 a0_0 false _ ?side1 ?side2 A3.out).mono ?_); (case side1 => exact cU (Kd.C_below HR1_0_0.out HB.out)); (case side2 => exact HC1_0_0.out); rintro e w' ⟨rfl, ⟨nd, rfl⟩⟩; refine ⟨_, rfl, ?_⟩) | (go_at_call 33; (with_reducible refine (slices_ContainsFunc_w52.calls k _ _ l0_1 gb28 A1_0_0 c1_0_0 l1_0_0 t239 _ ?side1 ?side2 ?side3 ?side4 ?side5 A9.out).mono ?_); (case side1 => exact cU (Kd.C_below HR0_1.out (lV1 GE237))); (case side2 => exact HC0_1.out); (case side3 => exact cU (Kd.C_below HR1_0_0.out (lV1 GE237))); (case side4 => exact HC1_0_0.out); (case side5 => refine bU ?_; exact BK28.out); rintro e w14 ⟨rfl, hb⟩; replace BK28 := bB (bV BK28) hb; replace BK237 := bB (bV BK237) hb; replace HB := bH (lV1 GE237) hb; (try clear hb)))
  go_ret
  exact ⟨eE, lV1 GE237⟩
end Go.Proofs.Ytehkpnnidbghhab.PFnExactStaleBetween
