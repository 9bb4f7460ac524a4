/- Texts of the row of the law FnExactGoodAssets, laid together. -/
import Derived.Test.YtifejplilaefiaaZFnExactGoodAssets3
import Derived.Test.YtifejplilaefiaaZFnExactGoodAssets0
import Derived.SizedLaws
import Derived.ChangeArms
import Derived.OpenShut
import Derived.WideShapes
import Derived.WalkKit
import Derived.KernelRfl
namespace Go.Proofs.Ytifejplilaefiaa.PFnExactGoodAssets
open Go.RowKit Go.Proofs.YtifejplilaefiaaW.PrintWords Go.Proofs.YtifejplilaefiaaW.PrintLast Go.Proofs.YtifejplilaefiaaW.PrintMore
attribute [local go_sem] max2_int min2_int max_two min_two max_three min_three max_four min_four   -- for this text's walks alone
set_option linter.unusedVariables false
set_option linter.unusedSimpArgs false
def impl_areNames.l0 : Nat → List ByteArray → List ByteArray → Int → Int → Option (Bool)
 | 0, _, _, _, _ => none
 | k + 1, x0, x5, x6, x7 => if x7 < x6 then (if 0 ≤ x7 then (if x7 < (x5.length : Int) then ((impl_GoodName.f k (rdOf ByteArray.empty x5 x7)).bind fun t170 => (if t170 = true then (if x7 > 0 then (if 0 ≤ (wrap64 (x7 - 1)) then (if (wrap64 (x7 - 1)) < (x0.length : Int) then (if ((Op.bytesLess ((rdOf ByteArray.empty x0 (wrap64 (x7 - 1))).toList) ((rdOf ByteArray.empty x5 x7).toList)) = true) then (impl_areNames.l0 k x0 x5 x6 (wrap64 (x7 + 1))) else (some false)) else (none)) else (none)) else (impl_areNames.l0 k x0 x5 x6 (wrap64 (x7 + 1)))) else (some false))) else (none)) else (none)) else (some true)
def impl_areNames.f (k : Nat) (l0 : List ByteArray) : Option (Bool) := impl_areNames.l0 k l0 l0 (l0.length : Int) 0
theorem impl_areNames.mono_l : ∀ k, (∀ y0 y1 y2 y3, LeO (impl_areNames.l0 k y0 y1 y2 y3) (impl_areNames.l0 (k + 1) y0 y1 y2 y3))
 | 0 => fun _ _ _ _ r h => by simp [impl_areNames.l0] at h
 | k + 1 => by
  have ih0 := impl_areNames.mono_l k
  ·intro y0 y1 y2 y3
   unfold impl_areNames.l0
   repeat' first
   | (with_reducible exact ih0 _ _ _ _)
   | (with_reducible exact impl_GoodName.mono _ _)
   | (with_reducible exact LeO.refl _)
   | (with_reducible exact LeO.none _)
   | (with_reducible refine LeO.ite ?_ ?_)
   | (with_reducible refine LeO.bind ?_ (fun _ => ?_))
   | exact ih0 _ _ _ _
   | exact impl_GoodName.mono _ _
   | exact LeO.none _
   | refine LeO.ite ?_ ?_
   | refine LeO.bind ?_ (fun _ => ?_)
theorem impl_areNames.mono : ∀ a0 k, LeO (impl_areNames.f k a0) (impl_areNames.f (k + 1) a0) := by
 intro a0 k
 have ih0 := impl_areNames.mono_l k
 unfold impl_areNames.f
 repeat' first
   | (with_reducible exact ih0 _ _ _ _)
   | (with_reducible exact impl_GoodName.mono _ _)
   | (with_reducible exact LeO.refl _)
   | (with_reducible exact LeO.none _)
   | (with_reducible refine LeO.ite ?_ ?_)
   | (with_reducible refine LeO.bind ?_ (fun _ => ?_))
   | exact ih0 _ _ _ _
   | exact impl_GoodName.mono _ _
   | exact LeO.none _
   | refine LeO.ite ?_ ?_
   | refine LeO.bind ?_ (fun _ => ?_)
set_option maxHeartbeats 8000000 in
set_option maxRecDepth 100000 in
theorem impl_areNames.calls (k : Nat) (A0 : Option Addr) (c0 : Nat) (l0 : List ByteArray) (r : Bool) (w : World) (hr0 : Kd.C Kd.string w A0 l0.length l0) (hc0 : l0.length ≤ c0) (h : impl_areNames.f k l0 = some r) :
  Calls Try.prog 35 #[.slice A0 l0.length c0] w fun e w' => e = .returned (.bool r) ∧ Drawn0 w w' := by
 have HR0 := Aside0.mk hr0
 have HC0 := Aside0.mk hc0
 clear hr0 hc0
 have H : (impl_areNames.l0 k l0 l0 (l0.length : Int) 0) = some r := h
 clear h
 have H' := Aside0.mk H
 clear H
 go_enter Try.func35, Try.ntmps35
 go_wp2
 go_loopg [7] k (fun kq v7 w' => ∃ (x7_1 : Int), v7 = .int .i64 x7_1 ∧ Aside0 (impl_areNames.l0 kq l0 l0 (l0.length : Int) x7_1 = some r) ∧ Aside0 (kq ≤ k) ∧ Drawn0 w w')
 case atStart => exact ⟨(0), tE, H', ⟨Nat.le_refl _⟩, by repeat (first | exact Drawn0.refl _ | apply Drawn0.step)⟩
 case round =>
  clear H'
  obtain ⟨x7_1, rfl, HA, HK1, ⟨m1, rfl⟩⟩ := hrel
  cases gk with
  | zero => exact absurd HA.out (by simp [impl_areNames.l0])
  | succ k1 =>
   have H := HA.out
   clear HA
   simp only [impl_areNames.l0] at H
   by_cases c2 : x7_1 < (l0.length : Int)
   ·rw [if_pos c2] at H
    have c2b0 : decide (x7_1 < (l0.length : Int)) = true := decide_eq_true c2
    clear c2
    by_cases c3 : 0 ≤ x7_1
    ·rw [if_pos c3] at H
     have c3b0 : decide (0 ≤ x7_1) = true := decide_eq_true c3
     clear c3
     by_cases c4 : x7_1 < (l0.length : Int)
     ·rw [if_pos c4] at H
      have c4b0 : decide (x7_1 < (l0.length : Int)) = true := decide_eq_true c4
      clear c4
      replace H := Option.bind_eq_some_iff.mp H
      obtain ⟨t170, A50, H⟩ := H
      replace H : (if t170 = true then (if x7_1 > 0 then (if 0 ≤ (wrap64 (x7_1 - 1)) then (if (wrap64 (x7_1 - 1)) < (l0.length : Int) then (if ((Op.bytesLess ((rdOf ByteArray.empty l0 (wrap64 (x7_1 - 1))).toList) ((rdOf ByteArray.empty l0 x7_1).toList)) = true) then (impl_areNames.l0 k1 l0 l0 (l0.length : Int) (wrap64 (x7_1 + 1))) else (some false)) else (none)) else (none)) else (impl_areNames.l0 k1 l0 l0 (l0.length : Int) (wrap64 (x7_1 + 1)))) else (some false)) = some r := H
      have A5 := Aside0.mk A50
      clear A50
      by_cases c6 : t170 = true
      ·subst c6
       have H1 : (if x7_1 > 0 then (if 0 ≤ (wrap64 (x7_1 - 1)) then (if (wrap64 (x7_1 - 1)) < (l0.length : Int) then (if ((Op.bytesLess ((rdOf ByteArray.empty l0 (wrap64 (x7_1 - 1))).toList) ((rdOf ByteArray.empty l0 x7_1).toList)) = true) then (impl_areNames.l0 k1 l0 l0 (l0.length : Int) (wrap64 (x7_1 + 1))) else (some false)) else (none)) else (none)) else (impl_areNames.l0 k1 l0 l0 (l0.length : Int) (wrap64 (x7_1 + 1)))) = some r := by rw [if_pos rfl] at H; exact H
       clear H
       have H := H1
       clear H1
       by_cases c7 : x7_1 > 0
       ·rw [if_pos c7] at H
        have c7b0 : decide (0 < x7_1) = true := decide_eq_true c7
        clear c7
        obtain ⟨ji8, hji8⟩ : ∃ j_ : Int, (wrap64 (x7_1 - 1)) = j_ := ⟨_, rfl⟩
        replace H : (if 0 ≤ (ji8) then (if (ji8) < (l0.length : Int) then (if ((Op.bytesLess ((rdOf ByteArray.empty l0 (ji8)).toList) ((rdOf ByteArray.empty l0 x7_1).toList)) = true) then (impl_areNames.l0 k1 l0 l0 (l0.length : Int) (wrap64 (x7_1 + 1))) else (some false)) else (none)) else (none)) = some r := by first | (rw [hji8] at H; exact H) | (simp only [hji8] at H ⊢; exact H)
        (try rw [hji8] at A5)
        have hji8w : (IntKind.i64.wrap (x7_1 - 1)) = ji8 := (i64_w _).trans hji8
        by_cases c9 : 0 ≤ (ji8)
        ·rw [if_pos c9] at H
         have c9b0 : decide (0 ≤ (ji8)) = true := decide_eq_true c9
         clear c9
         by_cases c10 : (ji8) < (l0.length : Int)
         ·rw [if_pos c10] at H
          have c10b0 : decide ((ji8) < (l0.length : Int)) = true := decide_eq_true c10
          clear c10
          by_cases c11 : ((Op.bytesLess ((rdOf ByteArray.empty l0 (ji8)).toList) ((rdOf ByteArray.empty l0 x7_1).toList)) = true)
          ·rw [if_pos c11] at H
           have c11b0 : (Op.bytesLess ((rdOf ByteArray.empty l0 (ji8)).toList) ((rdOf ByteArray.empty l0 x7_1).toList)) = true := c11
           clear c11
           have H' := Aside0.mk H
           clear H
           have p169 : 0 ≤ (x7_1 : Int) := of_decide_eq_true hE
           have q169 : x7_1 < (l0.length : Int) := of_decide_eq_true hE
           obtain ⟨ad169, e169, hx169_0⟩ := Kd.at_string HR0.out x7_1 p169 q169
           cases e169
           replace p169 := eq_true p169
           replace q169 := eq_true q169
           go_wp2_with (first | ((with_reducible refine gate_callee (f := 34) rfl ?_); refine goesL_ (some 13) rfl rfl Try.func34 (by kernel_rfl) rfl #[.string (rdOf ByteArray.empty l0 x7_1)] rfl aE ?_; (with_reducible refine (impl_GoodName.calls k1 (rdOf ByteArray.empty l0 x7_1) true _ A5.out).mono ?_); rintro e w' ⟨rfl, ⟨nd, rfl⟩⟩; refine ⟨_, rfl, ?_⟩; have p171 : 0 ≤ ((ji8) : Int) := of_decide_eq_true hE; have q171 : (ji8) < (l0.length : Int) := of_decide_eq_true hE; obtain ⟨ad171, e171, hx171_0⟩ := Kd.at_string HR0.out (ji8) p171 q171; obtain rfl : ad169 = ad171 := (by injection e171); replace p171 := eq_true p171; replace q171 := eq_true q171))
           go_roundg k1
           case measure => have := HK1.out; omega
           case rel => exact ⟨(wrap64 (x7_1 + 1)), tE, H', ⟨by have := HK1.out; omega⟩, by repeat (first | exact Drawn0.refl _ | apply Drawn0.step)⟩
          ·rw [if_neg c11] at H
           have c11b0 : (Op.bytesLess ((rdOf ByteArray.empty l0 (ji8)).toList) ((rdOf ByteArray.empty l0 x7_1).toList)) = false := by simpa using c11
           clear c11
           obtain rfl := Option.some.inj H
           have p169 : 0 ≤ (x7_1 : Int) := of_decide_eq_true hE
           have q169 : x7_1 < (l0.length : Int) := of_decide_eq_true hE
           obtain ⟨ad169, e169, hx169_0⟩ := Kd.at_string HR0.out x7_1 p169 q169
           cases e169
           replace p169 := eq_true p169
           replace q169 := eq_true q169
           go_wp2_with (first | ((with_reducible refine gate_callee (f := 34) rfl ?_); refine goesL_ (some 13) rfl rfl Try.func34 (by kernel_rfl) rfl #[.string (rdOf ByteArray.empty l0 x7_1)] rfl aE ?_; (with_reducible refine (impl_GoodName.calls k1 (rdOf ByteArray.empty l0 x7_1) true _ A5.out).mono ?_); rintro e w' ⟨rfl, ⟨nd, rfl⟩⟩; refine ⟨_, rfl, ?_⟩; have p171 : 0 ≤ ((ji8) : Int) := of_decide_eq_true hE; have q171 : (ji8) < (l0.length : Int) := of_decide_eq_true hE; obtain ⟨ad171, e171, hx171_0⟩ := Kd.at_string HR0.out (ji8) p171 q171; obtain rfl : ad169 = ad171 := (by injection e171); replace p171 := eq_true p171; replace q171 := eq_true q171))
           go_ret
           exact ⟨by first | rfl | (simp; done) | (simp only [← hji8] <;> (first | rfl | simp)) | (simp [*]; done) | exact not_isEmpty _ | exact (not_isEmpty _).symm | exact is_empty _ | exact (is_empty _).symm, by repeat (first | exact Drawn0.refl _ | apply Drawn0.step)⟩
         ·rw [if_neg c10] at H
          exact absurd H (by simp)
        ·rw [if_neg c9] at H
         exact absurd H (by simp)
       ·rw [if_neg c7] at H
        have c7b0 : decide (0 < x7_1) = false := decide_eq_false c7
        clear c7
        have H' := Aside0.mk H
        clear H
        have p169 : 0 ≤ (x7_1 : Int) := of_decide_eq_true hE
        have q169 : x7_1 < (l0.length : Int) := of_decide_eq_true hE
        obtain ⟨ad169, e169, hx169_0⟩ := Kd.at_string HR0.out x7_1 p169 q169
        cases e169
        replace p169 := eq_true p169
        replace q169 := eq_true q169
        go_wp2_with (first | ((with_reducible refine gate_callee (f := 34) rfl ?_); refine goesL_ (some 13) rfl rfl Try.func34 (by kernel_rfl) rfl #[.string (rdOf ByteArray.empty l0 x7_1)] rfl aE ?_; (with_reducible refine (impl_GoodName.calls k1 (rdOf ByteArray.empty l0 x7_1) true _ A5.out).mono ?_); rintro e w' ⟨rfl, ⟨nd, rfl⟩⟩; refine ⟨_, rfl, ?_⟩))
        go_roundg k1
        case measure => have := HK1.out; omega
        case rel => exact ⟨(wrap64 (x7_1 + 1)), tE, H', ⟨by have := HK1.out; omega⟩, by repeat (first | exact Drawn0.refl _ | apply Drawn0.step)⟩
      ·replace c6 := Bool.eq_false_iff.mpr c6
       subst c6
       have H1 : (some false) = some r := by rw [if_neg (show ¬ (false = true) by decide)] at H; exact H
       clear H
       have H := H1
       clear H1
       obtain rfl := Option.some.inj H
       have p169 : 0 ≤ (x7_1 : Int) := of_decide_eq_true hE
       have q169 : x7_1 < (l0.length : Int) := of_decide_eq_true hE
       obtain ⟨ad169, e169, hx169_0⟩ := Kd.at_string HR0.out x7_1 p169 q169
       cases e169
       replace p169 := eq_true p169
       replace q169 := eq_true q169
       go_wp2_with (first | ((with_reducible refine gate_callee (f := 34) rfl ?_); refine goesL_ (some 13) rfl rfl Try.func34 (by kernel_rfl) rfl #[.string (rdOf ByteArray.empty l0 x7_1)] rfl aE ?_; (with_reducible refine (impl_GoodName.calls k1 (rdOf ByteArray.empty l0 x7_1) false _ A5.out).mono ?_); rintro e w' ⟨rfl, ⟨nd, rfl⟩⟩; refine ⟨_, rfl, ?_⟩))
       go_ret
       exact ⟨by first | rfl | (simp; done) | (simp [*]; done) | exact not_isEmpty _ | exact (not_isEmpty _).symm | exact is_empty _ | exact (is_empty _).symm, by repeat (first | exact Drawn0.refl _ | apply Drawn0.step)⟩
     ·rw [if_neg c4] at H
      exact absurd H (by simp)
    ·rw [if_neg c3] at H
     exact absurd H (by simp)
   ·rw [if_neg c2] at H
    have c2b0 : decide (x7_1 < (l0.length : Int)) = false := decide_eq_false c2
    clear c2
    obtain rfl := Option.some.inj H
    go_wp2
    go_ret
    exact ⟨by first | rfl | (simp; done) | (simp [*]; done) | exact not_isEmpty _ | exact (not_isEmpty _).symm | exact is_empty _ | exact (is_empty _).symm, by repeat (first | exact Drawn0.refl _ | apply Drawn0.step)⟩
def impl_assetAt_1.f (a0_0 : ByteArray) (l0_1 : List ByteArray) (l0_2 : List Int) (a1_0_0 : ByteArray) : Option (Bool) := some (a0_0.toList == a1_0_0.toList)
set_option maxHeartbeats 8000000 in
set_option maxRecDepth 100000 in
theorem impl_assetAt_1.calls (a0_0 : ByteArray) (A0_1 : Option Addr) (c0_1 : Nat) (l0_1 : List ByteArray) (A0_2 : Option Addr) (c0_2 : Nat) (l0_2 : List Int) (gb28 : Nat) (a1_0_0 : ByteArray) (r : Bool) (w : World) (hr0_1 : Kd.C Kd.string w A0_1 l0_1.length l0_1) (hc0_1 : l0_1.length ≤ c0_1) (hr0_2 : Kd.C (Kd.int .u8) w A0_2 l0_2.length l0_2) (hc0_2 : l0_2.length ≤ c0_2) (hk28 : w.heap[gb28]? = some (.cells #[.string a1_0_0] 9 (0, 0))) (h : impl_assetAt_1.f a0_0 l0_1 l0_2 a1_0_0 = some r) :
  Calls Try.prog 77 #[.agg #[.string a0_0, .slice A0_1 l0_1.length c0_1, .slice A0_2 l0_2.length c0_2], .pointer (some ⟨gb28, 0, none⟩)] w fun e w' => e = .returned (.bool r) ∧ Below w.heap.size w w' := by
 have hu63 := Try.underlying63
 have HR0_1 := Aside0.mk hr0_1
 have HC0_1 := Aside0.mk hc0_1
 clear hr0_1 hc0_1
 have HR0_2 := Aside0.mk hr0_2
 have HC0_2 := Aside0.mk hc0_2
 clear hr0_2 hc0_2
 have BK28 := Aside0.mk hk28
 clear hk28
 have HB := Aside0.mk (Below.refl w.heap.size w)
 have H : (some (a0_0.toList == a1_0_0.toList)) = some r := h
 clear h
 obtain rfl := Option.some.inj H
 go_enter Try.func77, Try.ntmps77
 go_wp2_with (first | ((with_reducible refine gate_dst (N := 2) rfl ?_); refine box_event rfl (N := 2) rfl (cs := #[.string a0_0, .slice A0_1 l0_1.length c0_1, .slice A0_2 l0_2.length c0_2]) (t := 63) sE ?_; intro gb172 hg w3 hbox hb; have BK172 := Aside0.mk hbox; have GW172 := gS w hg (lU); have GE172 := gS w hg (lU); replace HB := bH (lU) hb; have NB28_172 := nL hg (bV BK28); have NB172_28 := nG hg (bV BK28); replace BK28 := bB (bV BK28) hb; clear hb hbox hg; have hnb4 := NB172_28.out; have hnc4 := NB28_172.out; have hcz5_0 := cz BK172 0 (.string a0_0); have hcz5_1 := cz BK172 1 (.slice A0_1 l0_1.length c0_1); have hcz5_2 := cz BK172 2 (.slice A0_2 l0_2.length c0_2); have hfz5_0 := fz BK172 0; have hfz5_1 := fz BK172 1; have hfz5_2 := fz BK172 2; have hcz6_0 := cz BK28 0 (.string a1_0_0); have hfz6_0 := fz BK28 0))
 go_ret
 exact ⟨eE, lV1 GE172⟩
def slices_IndexFunc_w77.l0 : Nat → List (S63) → Int → Int → ByteArray → Option (Int)
 | 0, _, _, _, _ => none
 | k + 1, x0, x7, x8, x29000 => if x8 < x7 then (if 0 ≤ x8 then (if x8 < (x0.length : Int) then ((impl_assetAt_1.f ((rd_T63 x0 x8).f0) ((rd_T63 x0 x8).f1) ((rd_T63 x0 x8).f2) x29000).bind fun t174 => (if t174 = true then (some x8) else (slices_IndexFunc_w77.l0 k x0 x7 (wrap64 (x8 + 1)) x29000))) else (none)) else (none)) else (some (-1))
def slices_IndexFunc_w77.f (k : Nat) (l0 : List (S63)) (a1_0_0 : ByteArray) : Option (Int) := slices_IndexFunc_w77.l0 k l0 (l0.length : Int) 0 a1_0_0
theorem slices_IndexFunc_w77.mono_l : ∀ k, (∀ y0 y1 y2 y3, LeO (slices_IndexFunc_w77.l0 k y0 y1 y2 y3) (slices_IndexFunc_w77.l0 (k + 1) y0 y1 y2 y3))
 | 0 => fun _ _ _ _ r h => by simp [slices_IndexFunc_w77.l0] at h
 | k + 1 => by
  have ih0 := slices_IndexFunc_w77.mono_l k
  ·intro y0 y1 y2 y3
   unfold slices_IndexFunc_w77.l0
   repeat' first
   | (with_reducible exact ih0 _ _ _ _)
   | (with_reducible exact LeO.refl _)
   | (with_reducible exact LeO.none _)
   | (with_reducible refine LeO.ite ?_ ?_)
   | (with_reducible refine LeO.bind ?_ (fun _ => ?_))
   | exact ih0 _ _ _ _
   | exact LeO.none _
   | refine LeO.ite ?_ ?_
   | refine LeO.bind ?_ (fun _ => ?_)
theorem slices_IndexFunc_w77.mono : ∀ a0 a1 k, LeO (slices_IndexFunc_w77.f k a0 a1) (slices_IndexFunc_w77.f (k + 1) a0 a1) := by
 intro a0 a1 k
 have ih0 := slices_IndexFunc_w77.mono_l k
 unfold slices_IndexFunc_w77.f
 repeat' first
   | (with_reducible exact ih0 _ _ _ _)
   | (with_reducible exact LeO.refl _)
   | (with_reducible exact LeO.none _)
   | (with_reducible refine LeO.ite ?_ ?_)
   | (with_reducible refine LeO.bind ?_ (fun _ => ?_))
   | exact ih0 _ _ _ _
   | exact LeO.none _
   | refine LeO.ite ?_ ?_
   | refine LeO.bind ?_ (fun _ => ?_)
set_option maxHeartbeats 8000000 in
set_option maxRecDepth 100000 in
theorem slices_IndexFunc_w77.calls (k : Nat) (A0 : Option Addr) (c0 : Nat) (l0 : List (S63)) (gb28 : Nat) (a1_0_0 : ByteArray) (r : Int) (w : World) (hr0 : Kd.C k63 w A0 l0.length l0) (hc0 : l0.length ≤ c0) (hk28 : w.heap[gb28]? = some (.cells #[.string a1_0_0] 9 (0, 0))) (h : slices_IndexFunc_w77.f k l0 a1_0_0 = some r) :
  Calls Try.prog 76 #[.slice A0 l0.length c0, .func (.func 77) #[] #[.pointer (some ⟨gb28, 0, none⟩)]] w fun e w' => e = .returned (.int .i64 r) ∧ Below w.heap.size w w' := by
 have hu63 := Try.underlying63
 have HR0 := Aside0.mk hr0
 have HC0 := Aside0.mk hc0
 clear hr0 hc0
 have BK28 := Aside0.mk hk28
 clear hk28
 have HB := Aside0.mk (Below.refl w.heap.size w)
 have H : (slices_IndexFunc_w77.l0 k l0 (l0.length : Int) 0 a1_0_0) = some r := h
 clear h
 have H' := Aside0.mk H
 clear H
 go_enter Try.func76, Try.ntmps76
 go_wp2
 go_loopg [8] k (fun kq v8 w' => ∃ (x8_1 : Int), v8 = .int .i64 x8_1 ∧ Aside0 (slices_IndexFunc_w77.l0 kq l0 (l0.length : Int) x8_1 a1_0_0 = some r) ∧ Aside0 (kq ≤ k) ∧ Aside0 (w'.heap[gb28]? = some (.cells #[.string a1_0_0] 9 (0, 0))) ∧ Aside0 (Below w.heap.size w w'))
 case atStart => exact ⟨(0), tE, H', ⟨Nat.le_refl _⟩, ⟨by refine bU ?_; exact BK28.out⟩, ⟨by repeat (first | (with_reducible first | exact HB.out | apply below_alloc | apply pw_below_drewN | apply below_drew1) | exact HB.out)⟩⟩
 case round =>
  clear H'
  try clear p2
  obtain ⟨x8_1, rfl, HA, HK1, BK28, HB⟩ := hrel
  cases gk with
  | zero => exact absurd HA.out (by simp [slices_IndexFunc_w77.l0])
  | succ k1 =>
   have H := HA.out
   clear HA
   simp only [slices_IndexFunc_w77.l0] at H
   by_cases c3 : x8_1 < (l0.length : Int)
   ·rw [if_pos c3] at H
    have c3b0 : decide (x8_1 < (l0.length : Int)) = true := decide_eq_true c3
    clear c3
    by_cases c4 : 0 ≤ x8_1
    ·rw [if_pos c4] at H
     have c4b0 : decide (0 ≤ x8_1) = true := decide_eq_true c4
     clear c4
     by_cases c5 : x8_1 < (l0.length : Int)
     ·rw [if_pos c5] at H
      have c5b0 : decide (x8_1 < (l0.length : Int)) = true := decide_eq_true c5
      clear c5
      replace H := Option.bind_eq_some_iff.mp H
      obtain ⟨t174, A60, H⟩ := H
      replace H : (if t174 = true then (some x8_1) else (slices_IndexFunc_w77.l0 k1 l0 (l0.length : Int) (wrap64 (x8_1 + 1)) a1_0_0)) = some r := H
      have A6 := Aside0.mk A60
      clear A60
      by_cases c7 : t174 = true
      ·subst c7
       have H1 : (some x8_1) = some r := by rw [if_pos rfl] at H; exact H
       clear H
       have H := H1
       clear H1
       obtain rfl := Option.some.inj H
       have p173 : 0 ≤ (x8_1 : Int) := of_decide_eq_true hE
       have q173 : x8_1 < (l0.length : Int) := of_decide_eq_true hE
       obtain ⟨ad173, A173_1, c173_1, A173_2, c173_2, e173, hx173_0, hx173_1, hx173_2, hl173_1, hi173_1, hl173_2, hi173_2⟩ := at_T63 HR0.out x8_1 p173 q173
       cases e173
       replace hx173_0 := (HB.out.cell (World.block_lt_of_cell? w _ hx173_0)).trans hx173_0
       replace hx173_1 := (HB.out.cell (World.block_lt_of_cell? w _ hx173_1)).trans hx173_1
       replace hx173_2 := (HB.out.cell (World.block_lt_of_cell? w _ hx173_2)).trans hx173_2
       have HR173_1 := Aside0.mk hi173_1
       have HC173_1 := Aside0.mk hl173_1
       clear hi173_1 hl173_1
       have HR173_2 := Aside0.mk hi173_2
       have HC173_2 := Aside0.mk hl173_2
       clear hi173_2 hl173_2
       replace p173 := eq_true p173
       replace q173 := eq_true q173
       go_wp2_with (first | ((with_reducible refine gateD_ rfl ?_); refine goesC_ (some 16) rfl rfl Try.func77 (by kernel_rfl) rfl rfl rfl #[.agg #[.string ((rd_T63 l0 x8_1).f0), .slice A173_1 ((rd_T63 l0 x8_1).f1).length c173_1, .slice A173_2 ((rd_T63 l0 x8_1).f2).length c173_2], .pointer (some ⟨gb28, 0, none⟩)] aE ?_; (with_reducible refine (impl_assetAt_1.calls ((rd_T63 l0 x8_1).f0) _ _ ((rd_T63 l0 x8_1).f1) _ _ ((rd_T63 l0 x8_1).f2) gb28 a1_0_0 true _ ?side1 ?side2 ?side3 ?side4 ?side5 A6.out).mono ?_); (case side1 => exact cU (Kd.C_below HR173_1.out HB.out)); (case side2 => exact HC173_1.out); (case side3 => exact cU (Kd.C_below HR173_2.out HB.out)); (case side4 => exact HC173_2.out); (case side5 => refine bU ?_; exact BK28.out); rintro e w8 ⟨rfl, hb⟩; refine ⟨_, rfl, ?_⟩; replace BK28 := bB (bV BK28) hb; replace HB := bH (lU) hb; (try clear hb)))
       go_ret
       exact ⟨eE, lU⟩
      ·replace c7 := Bool.eq_false_iff.mpr c7
       subst c7
       have H1 : (slices_IndexFunc_w77.l0 k1 l0 (l0.length : Int) (wrap64 (x8_1 + 1)) a1_0_0) = some r := by rw [if_neg (show ¬ (false = true) by decide)] at H; exact H
       clear H
       have H := H1
       clear H1
       have H' := Aside0.mk H
       clear H
       have p173 : 0 ≤ (x8_1 : Int) := of_decide_eq_true hE
       have q173 : x8_1 < (l0.length : Int) := of_decide_eq_true hE
       obtain ⟨ad173, A173_1, c173_1, A173_2, c173_2, e173, hx173_0, hx173_1, hx173_2, hl173_1, hi173_1, hl173_2, hi173_2⟩ := at_T63 HR0.out x8_1 p173 q173
       cases e173
       replace hx173_0 := (HB.out.cell (World.block_lt_of_cell? w _ hx173_0)).trans hx173_0
       replace hx173_1 := (HB.out.cell (World.block_lt_of_cell? w _ hx173_1)).trans hx173_1
       replace hx173_2 := (HB.out.cell (World.block_lt_of_cell? w _ hx173_2)).trans hx173_2
       have HR173_1 := Aside0.mk hi173_1
       have HC173_1 := Aside0.mk hl173_1
       clear hi173_1 hl173_1
       have HR173_2 := Aside0.mk hi173_2
       have HC173_2 := Aside0.mk hl173_2
       clear hi173_2 hl173_2
       replace p173 := eq_true p173
       replace q173 := eq_true q173
       go_wp2_with (first | ((with_reducible refine gateD_ rfl ?_); refine goesC_ (some 16) rfl rfl Try.func77 (by kernel_rfl) rfl rfl rfl #[.agg #[.string ((rd_T63 l0 x8_1).f0), .slice A173_1 ((rd_T63 l0 x8_1).f1).length c173_1, .slice A173_2 ((rd_T63 l0 x8_1).f2).length c173_2], .pointer (some ⟨gb28, 0, none⟩)] aE ?_; (with_reducible refine (impl_assetAt_1.calls ((rd_T63 l0 x8_1).f0) _ _ ((rd_T63 l0 x8_1).f1) _ _ ((rd_T63 l0 x8_1).f2) gb28 a1_0_0 false _ ?side1 ?side2 ?side3 ?side4 ?side5 A6.out).mono ?_); (case side1 => exact cU (Kd.C_below HR173_1.out HB.out)); (case side2 => exact HC173_1.out); (case side3 => exact cU (Kd.C_below HR173_2.out HB.out)); (case side4 => exact HC173_2.out); (case side5 => refine bU ?_; exact BK28.out); rintro e w9 ⟨rfl, hb⟩; refine ⟨_, rfl, ?_⟩; replace BK28 := bB (bV BK28) hb; replace HB := bH (lU) hb; (try clear hb)))
       go_roundg k1
       case measure => have := HK1.out; omega
       case rel => exact ⟨(wrap64 (x8_1 + 1)), tE, H', ⟨by have := HK1.out; omega⟩, ⟨by refine bU ?_; exact BK28.out⟩, ⟨by repeat (first | (with_reducible first | exact HB.out | apply below_alloc | apply pw_below_drewN | apply below_drew1) | exact HB.out)⟩⟩
     ·rw [if_neg c5] at H
      exact absurd H (by simp)
    ·rw [if_neg c4] at H
     exact absurd H (by simp)
   ·rw [if_neg c3] at H
    have c3b0 : decide (x8_1 < (l0.length : Int)) = false := decide_eq_false c3
    clear c3
    obtain rfl := Option.some.inj H
    go_wp2
    go_ret
    exact ⟨eE, lU⟩
def impl_assetAt.f (k : Nat) (l0 : List (S63)) (a1 : ByteArray) : Option (Int) := (slices_IndexFunc_w77.f k l0 a1).bind fun t176 => (some t176)
theorem impl_assetAt.mono : ∀ a0 a1 k, LeO (impl_assetAt.f k a0 a1) (impl_assetAt.f (k + 1) a0 a1) := by
 intro a0 a1 k
 unfold impl_assetAt.f
 repeat' first
   | (with_reducible exact slices_IndexFunc_w77.mono _ _ _)
   | (with_reducible exact LeO.refl _)
   | (with_reducible exact LeO.none _)
   | (with_reducible refine LeO.ite ?_ ?_)
   | (with_reducible refine LeO.bind ?_ (fun _ => ?_))
   | exact slices_IndexFunc_w77.mono _ _ _
   | exact LeO.none _
   | refine LeO.ite ?_ ?_
   | refine LeO.bind ?_ (fun _ => ?_)
set_option maxHeartbeats 8000000 in
set_option maxRecDepth 100000 in
theorem impl_assetAt.calls (k : Nat) (A0 : Option Addr) (c0 : Nat) (l0 : List (S63)) (a1 : ByteArray) (r : Int) (w : World) (hr0 : Kd.C k63 w A0 l0.length l0) (hc0 : l0.length ≤ c0) (h : impl_assetAt.f k l0 a1 = some r) :
  Calls Try.prog 38 #[.slice A0 l0.length c0, .string a1] w fun e w' => e = .returned (.int .i64 r) ∧ Below w.heap.size w w' := by
 have hu9 := Try.underlying9
 have HR0 := Aside0.mk hr0
 have HC0 := Aside0.mk hc0
 clear hr0 hc0
 have HB := Aside0.mk (Below.refl w.heap.size w)
 have H : ((slices_IndexFunc_w77.f k l0 a1).bind fun t176 => (some t176)) = some r := h
 clear h
 replace H := Option.bind_eq_some_iff.mp H
 obtain ⟨t176, A30, H⟩ := H
 replace H : (some t176) = some r := H
 have A3 := Aside0.mk A30
 clear A30
 obtain rfl := Option.some.inj H
 go_enter Try.func38, Try.ntmps38
 go_wp2_with (first | ((with_reducible refine gate_dst (N := 3) rfl ?_); refine box_event rfl (N := 3) rfl (cs := #[.string a1]) (t := 9) sE ?_; intro gb175 hg w4 hbox hb; have BK175 := Aside0.mk hbox; have GW175 := gS w hg (lU); have GE175 := gS w hg (lU); replace HB := bH (lU) hb; clear hb hbox hg) | ((with_reducible refine gate_callee (f := 76) rfl ?_); refine goesL_ (some 7) rfl rfl Try.func76 (by kernel_rfl) rfl #[.slice A0 l0.length c0, .func (.func 77) #[] #[.pointer (some ⟨gb175, 0, none⟩)]] rfl aE ?_; (with_reducible refine (slices_IndexFunc_w77.calls k _ _ l0 gb175 a1 t176 _ ?side1 ?side2 ?side3 A3.out).mono ?_); (case side1 => exact cU (Kd.C_below HR0.out HB.out)); (case side2 => exact HC0.out); (case side3 => refine bU ?_; exact BK175.out); rintro e w5 ⟨rfl, hb⟩; refine ⟨_, rfl, ?_⟩; replace BK175 := bB (bV BK175) hb; replace HB := bH (lV1 GE175) hb; (try clear hb)))
 go_ret
 exact ⟨eE, lV1 GE175⟩
def impl_GoodAssets_1.f (k : Nat) (a0 : ByteArray) (l1_0_0 : List (S63)) : Option (Bool) := (impl_assetAt.f k l1_0_0 a0).bind fun t177 => (some (decide (t177 < 0)))
theorem impl_GoodAssets_1.mono : ∀ a0 a1 k, LeO (impl_GoodAssets_1.f k a0 a1) (impl_GoodAssets_1.f (k + 1) a0 a1) := by
 intro a0 a1 k
 unfold impl_GoodAssets_1.f
 repeat' first
   | (with_reducible exact impl_assetAt.mono _ _ _)
   | (with_reducible exact LeO.refl _)
   | (with_reducible exact LeO.none _)
   | (with_reducible refine LeO.ite ?_ ?_)
   | (with_reducible refine LeO.bind ?_ (fun _ => ?_))
   | exact impl_assetAt.mono _ _ _
   | exact LeO.none _
   | refine LeO.ite ?_ ?_
   | refine LeO.bind ?_ (fun _ => ?_)
set_option maxHeartbeats 8000000 in
set_option maxRecDepth 100000 in
theorem impl_GoodAssets_1.calls (k : Nat) (a0 : ByteArray) (gb28 : Nat) (A1_0_0 : Option Addr) (c1_0_0 : Nat) (l1_0_0 : List (S63)) (r : Bool) (w : World) (hr1_0_0 : Kd.C k63 w A1_0_0 l1_0_0.length l1_0_0) (hc1_0_0 : l1_0_0.length ≤ c1_0_0) (hk28 : w.heap[gb28]? = some (.cells #[.slice A1_0_0 l1_0_0.length c1_0_0] 25 (0, 0))) (h : impl_GoodAssets_1.f k a0 l1_0_0 = some r) :
  Calls Try.prog 37 #[.string a0, .pointer (some ⟨gb28, 0, none⟩)] w fun e w' => e = .returned (.bool r) ∧ Below w.heap.size w w' := by
 have HR1_0_0 := Aside0.mk hr1_0_0
 have HC1_0_0 := Aside0.mk hc1_0_0
 clear hr1_0_0 hc1_0_0
 have BK28 := Aside0.mk hk28
 clear hk28
 have HB := Aside0.mk (Below.refl w.heap.size w)
 have H : ((impl_assetAt.f k l1_0_0 a0).bind fun t177 => (some (decide (t177 < 0)))) = some r := h
 clear h
 replace H := Option.bind_eq_some_iff.mp H
 obtain ⟨t177, A30, H⟩ := H
 replace H : (some (decide (t177 < 0))) = some r := H
 have A3 := Aside0.mk A30
 clear A30
 obtain rfl := Option.some.inj H
 have hcz4_0 := cz BK28 0 (.slice A1_0_0 l1_0_0.length c1_0_0)
 have hfz4_0 := fz BK28 0
 go_enter Try.func37, Try.ntmps37
 go_wp2_with (first | ((with_reducible refine gate_callee (f := 38) rfl ?_); refine goesL_ (some 6) rfl rfl Try.func38 (by kernel_rfl) rfl #[.slice A1_0_0 l1_0_0.length c1_0_0, .string a0] rfl aE ?_; (with_reducible refine (impl_assetAt.calls k _ _ l1_0_0 a0 t177 _ ?side1 ?side2 A3.out).mono ?_); (case side1 => repeat (first | exact HR1_0_0.out | (with_reducible refine Kd.C_alloc ?_ _) | (with_reducible refine Kd.C_drewN ?_ _) | (with_reducible refine Kd.C_drew ?_))); (case side2 => exact HC1_0_0.out); rintro e w5 ⟨rfl, hb⟩; refine ⟨_, rfl, ?_⟩; replace BK28 := bB (bV BK28) hb; replace HB := bH (lU) hb; (try clear hb)))
 go_ret
 exact ⟨eE, lU⟩
def slices_Index_string_string.l0 : Nat → List ByteArray → ByteArray → Int → Int → Option (Int)
 | 0, _, _, _, _ => none
 | k + 1, x0, x1, x7, x8 => if x8 < x7 then (if 0 ≤ x8 then (if x8 < (x0.length : Int) then (if x1.toList = (rdOf ByteArray.empty x0 x8).toList then (some x8) else (slices_Index_string_string.l0 k x0 x1 x7 (wrap64 (x8 + 1)))) else (none)) else (none)) else (some (-1))
def slices_Index_string_string.f (k : Nat) (l0 : List ByteArray) (a1 : ByteArray) : Option (Int) := slices_Index_string_string.l0 k l0 a1 (l0.length : Int) 0
theorem slices_Index_string_string.mono_l : ∀ k, (∀ y0 y1 y2 y3, LeO (slices_Index_string_string.l0 k y0 y1 y2 y3) (slices_Index_string_string.l0 (k + 1) y0 y1 y2 y3))
 | 0 => fun _ _ _ _ r h => by simp [slices_Index_string_string.l0] at h
 | k + 1 => by
  have ih0 := slices_Index_string_string.mono_l k
  ·intro y0 y1 y2 y3
   unfold slices_Index_string_string.l0
   repeat' first
   | (with_reducible exact ih0 _ _ _ _)
   | (with_reducible exact LeO.refl _)
   | (with_reducible exact LeO.none _)
   | (with_reducible refine LeO.ite ?_ ?_)
   | (with_reducible refine LeO.bind ?_ (fun _ => ?_))
   | exact ih0 _ _ _ _
   | exact LeO.none _
   | refine LeO.ite ?_ ?_
   | refine LeO.bind ?_ (fun _ => ?_)
theorem slices_Index_string_string.mono : ∀ a0 a1 k, LeO (slices_Index_string_string.f k a0 a1) (slices_Index_string_string.f (k + 1) a0 a1) := by
 intro a0 a1 k
 have ih0 := slices_Index_string_string.mono_l k
 unfold slices_Index_string_string.f
 repeat' first
   | (with_reducible exact ih0 _ _ _ _)
   | (with_reducible exact LeO.refl _)
   | (with_reducible exact LeO.none _)
   | (with_reducible refine LeO.ite ?_ ?_)
   | (with_reducible refine LeO.bind ?_ (fun _ => ?_))
   | exact ih0 _ _ _ _
   | exact LeO.none _
   | refine LeO.ite ?_ ?_
   | refine LeO.bind ?_ (fun _ => ?_)
set_option maxHeartbeats 8000000 in
set_option maxRecDepth 100000 in
theorem slices_Index_string_string.calls (k : Nat) (A0 : Option Addr) (c0 : Nat) (l0 : List ByteArray) (a1 : ByteArray) (r : Int) (w : World) (hr0 : Kd.C Kd.string w A0 l0.length l0) (hc0 : l0.length ≤ c0) (h : slices_Index_string_string.f k l0 a1 = some r) :
  Calls Try.prog 97 #[.slice A0 l0.length c0, .string a1] w fun e w' => e = .returned (.int .i64 r) ∧ Drawn0 w w' := by
 have HR0 := Aside0.mk hr0
 have HC0 := Aside0.mk hc0
 clear hr0 hc0
 have H : (slices_Index_string_string.l0 k l0 a1 (l0.length : Int) 0) = some r := h
 clear h
 have H' := Aside0.mk H
 clear H
 go_enter Try.func97, Try.ntmps97
 go_wp2
 go_loopg [8] k (fun kq v8 w' => ∃ (x8_1 : Int), v8 = .int .i64 x8_1 ∧ Aside0 (slices_Index_string_string.l0 kq l0 a1 (l0.length : Int) x8_1 = some r) ∧ Aside0 (kq ≤ k) ∧ Drawn0 w w')
 case atStart => exact ⟨(0), tE, H', ⟨Nat.le_refl _⟩, by repeat (first | exact Drawn0.refl _ | apply Drawn0.step)⟩
 case round =>
  clear H'
  try clear p2
  obtain ⟨x8_1, rfl, HA, HK1, ⟨m1, rfl⟩⟩ := hrel
  cases gk with
  | zero => exact absurd HA.out (by simp [slices_Index_string_string.l0])
  | succ k1 =>
   have H := HA.out
   clear HA
   simp only [slices_Index_string_string.l0] at H
   by_cases c3 : x8_1 < (l0.length : Int)
   ·rw [if_pos c3] at H
    have c3b0 : decide (x8_1 < (l0.length : Int)) = true := decide_eq_true c3
    clear c3
    by_cases c4 : 0 ≤ x8_1
    ·rw [if_pos c4] at H
     have c4b0 : decide (0 ≤ x8_1) = true := decide_eq_true c4
     clear c4
     by_cases c5 : x8_1 < (l0.length : Int)
     ·rw [if_pos c5] at H
      have c5b0 : decide (x8_1 < (l0.length : Int)) = true := decide_eq_true c5
      clear c5
      by_cases c6 : a1.toList = (rdOf ByteArray.empty l0 x8_1).toList
      ·rw [if_pos c6] at H
       have c6b0 : (a1.toList == (rdOf ByteArray.empty l0 x8_1).toList) = true := beq_iff_eq.mpr c6
       have c6b1 : (a1.toList != (rdOf ByteArray.empty l0 x8_1).toList) = false := bne_eq_false_iff_eq.mpr c6
       clear c6
       obtain rfl := Option.some.inj H
       have p178 : 0 ≤ (x8_1 : Int) := of_decide_eq_true hE
       have q178 : x8_1 < (l0.length : Int) := of_decide_eq_true hE
       obtain ⟨ad178, e178, hx178_0⟩ := Kd.at_string HR0.out x8_1 p178 q178
       cases e178
       replace p178 := eq_true p178
       replace q178 := eq_true q178
       go_wp2
       go_ret
       exact ⟨by first | rfl | (simp; done) | (simp [*]; done) | exact not_isEmpty _ | exact (not_isEmpty _).symm | exact is_empty _ | exact (is_empty _).symm, by repeat (first | exact Drawn0.refl _ | apply Drawn0.step)⟩
      ·rw [if_neg c6] at H
       have c6b0 : (a1.toList == (rdOf ByteArray.empty l0 x8_1).toList) = false := beq_eq_false_iff_ne.mpr c6
       have c6b1 : (a1.toList != (rdOf ByteArray.empty l0 x8_1).toList) = true := bne_iff_ne.mpr c6
       have H' := Aside0.mk H
       clear H
       have p178 : 0 ≤ (x8_1 : Int) := of_decide_eq_true hE
       have q178 : x8_1 < (l0.length : Int) := of_decide_eq_true hE
       obtain ⟨ad178, e178, hx178_0⟩ := Kd.at_string HR0.out x8_1 p178 q178
       cases e178
       replace p178 := eq_true p178
       replace q178 := eq_true q178
       go_wp2
       go_roundg k1
       case measure => have := HK1.out; omega
       case rel => exact ⟨(wrap64 (x8_1 + 1)), tE, H', ⟨by have := HK1.out; omega⟩, by repeat (first | exact Drawn0.refl _ | apply Drawn0.step)⟩
     ·rw [if_neg c5] at H
      exact absurd H (by simp)
    ·rw [if_neg c4] at H
     exact absurd H (by simp)
   ·rw [if_neg c3] at H
    have c3b0 : decide (x8_1 < (l0.length : Int)) = false := decide_eq_false c3
    clear c3
    obtain rfl := Option.some.inj H
    go_wp2
    go_ret
    exact ⟨by first | rfl | (simp; done) | (simp [*]; done) | exact not_isEmpty _ | exact (not_isEmpty _).symm | exact is_empty _ | exact (is_empty _).symm, by repeat (first | exact Drawn0.refl _ | apply Drawn0.step)⟩
def slices_Contains_string_string.f (k : Nat) (l0 : List ByteArray) (a1 : ByteArray) : Option (Bool) := (slices_Index_string_string.f k l0 a1).bind fun t179 => (some (decide (t179 ≥ 0)))
theorem slices_Contains_string_string.mono : ∀ a0 a1 k, LeO (slices_Contains_string_string.f k a0 a1) (slices_Contains_string_string.f (k + 1) a0 a1) := by
 intro a0 a1 k
 unfold slices_Contains_string_string.f
 repeat' first
   | (with_reducible exact slices_Index_string_string.mono _ _ _)
   | (with_reducible exact LeO.refl _)
   | (with_reducible exact LeO.none _)
   | (with_reducible refine LeO.ite ?_ ?_)
   | (with_reducible refine LeO.bind ?_ (fun _ => ?_))
   | exact slices_Index_string_string.mono _ _ _
   | exact LeO.none _
   | refine LeO.ite ?_ ?_
   | refine LeO.bind ?_ (fun _ => ?_)
set_option maxHeartbeats 8000000 in
set_option maxRecDepth 100000 in
theorem slices_Contains_string_string.calls (k : Nat) (A0 : Option Addr) (c0 : Nat) (l0 : List ByteArray) (a1 : ByteArray) (r : Bool) (w : World) (hr0 : Kd.C Kd.string w A0 l0.length l0) (hc0 : l0.length ≤ c0) (h : slices_Contains_string_string.f k l0 a1 = some r) :
  Calls Try.prog 79 #[.slice A0 l0.length c0, .string a1] w fun e w' => e = .returned (.bool r) ∧ Drawn0 w w' := by
 have HR0 := Aside0.mk hr0
 have HC0 := Aside0.mk hc0
 clear hr0 hc0
 have H : ((slices_Index_string_string.f k l0 a1).bind fun t179 => (some (decide (t179 ≥ 0)))) = some r := h
 clear h
 replace H := Option.bind_eq_some_iff.mp H
 obtain ⟨t179, A30, H⟩ := H
 replace H : (some (decide (t179 ≥ 0))) = some r := H
 have A3 := Aside0.mk A30
 clear A30
 obtain rfl := Option.some.inj H
 go_enter Try.func79, Try.ntmps79
 go_wp2_with (first | ((with_reducible refine gate_callee (f := 97) rfl ?_); refine goesL_ (some 7) rfl rfl Try.func97 (by kernel_rfl) rfl #[.slice A0 l0.length c0, .string a1] rfl aE ?_; (with_reducible refine (slices_Index_string_string.calls k _ _ l0 a1 t179 _ ?side1 ?side2 A3.out).mono ?_); (case side1 => repeat (first | exact HR0.out | (with_reducible refine Kd.C_alloc ?_ _) | (with_reducible refine Kd.C_drewN ?_ _) | (with_reducible refine Kd.C_drew ?_))); (case side2 => exact HC0.out); rintro e w' ⟨rfl, ⟨nd, rfl⟩⟩; refine ⟨_, rfl, ?_⟩))
 go_ret
 exact ⟨by first | rfl | (simp; done) | (simp [*]; done) | exact not_isEmpty _ | exact (not_isEmpty _).symm | exact is_empty _ | exact (is_empty _).symm, by repeat (first | exact Drawn0.refl _ | apply Drawn0.step)⟩
def impl_makeOrder_1_1.f (k : Nat) (a0 : ByteArray) (l1_0_0 : List ByteArray) : Option (Bool) := (slices_Contains_string_string.f k l1_0_0 a0).bind fun t180 => (some (!t180))
theorem impl_makeOrder_1_1.mono : ∀ a0 a1 k, LeO (impl_makeOrder_1_1.f k a0 a1) (impl_makeOrder_1_1.f (k + 1) a0 a1) := by
 intro a0 a1 k
 unfold impl_makeOrder_1_1.f
 repeat' first
   | (with_reducible exact slices_Contains_string_string.mono _ _ _)
   | (with_reducible exact LeO.refl _)
   | (with_reducible exact LeO.none _)
   | (with_reducible refine LeO.ite ?_ ?_)
   | (with_reducible refine LeO.bind ?_ (fun _ => ?_))
   | exact slices_Contains_string_string.mono _ _ _
   | exact LeO.none _
   | refine LeO.ite ?_ ?_
   | refine LeO.bind ?_ (fun _ => ?_)
set_option maxHeartbeats 8000000 in
set_option maxRecDepth 100000 in
theorem impl_makeOrder_1_1.calls (k : Nat) (a0 : ByteArray) (gb28 : Nat) (A1_0_0 : Option Addr) (c1_0_0 : Nat) (l1_0_0 : List ByteArray) (r : Bool) (w : World) (hr1_0_0 : Kd.C Kd.string w A1_0_0 l1_0_0.length l1_0_0) (hc1_0_0 : l1_0_0.length ≤ c1_0_0) (hk28 : w.heap[gb28]? = some (.cells #[.slice A1_0_0 l1_0_0.length c1_0_0] 29 (0, 0))) (h : impl_makeOrder_1_1.f k a0 l1_0_0 = some r) :
  Calls Try.prog 80 #[.string a0, .pointer (some ⟨gb28, 0, none⟩)] w fun e w' => e = .returned (.bool r) ∧ Below w.heap.size w w' := by
 have HR1_0_0 := Aside0.mk hr1_0_0
 have HC1_0_0 := Aside0.mk hc1_0_0
 clear hr1_0_0 hc1_0_0
 have BK28 := Aside0.mk hk28
 clear hk28
 have HB := Aside0.mk (Below.refl w.heap.size w)
 have H : ((slices_Contains_string_string.f k l1_0_0 a0).bind fun t180 => (some (!t180))) = some r := h
 clear h
 replace H := Option.bind_eq_some_iff.mp H
 obtain ⟨t180, A30, H⟩ := H
 replace H : (some (!t180)) = some r := H
 have A3 := Aside0.mk A30
 clear A30
 obtain rfl := Option.some.inj H
 have hcz4_0 := cz BK28 0 (.slice A1_0_0 l1_0_0.length c1_0_0)
 have hfz4_0 := fz BK28 0
 go_enter Try.func80, Try.ntmps80
 go_wp2_with (first | ((with_reducible refine gate_callee (f := 79) rfl ?_); refine goesL_ (some 6) rfl rfl Try.func79 (by kernel_rfl) rfl #[.slice A1_0_0 l1_0_0.length c1_0_0, .string a0] rfl aE ?_; (with_reducible refine (slices_Contains_string_string.calls k _ _ l1_0_0 a0 t180 _ ?side1 ?side2 A3.out).mono ?_); (case side1 => repeat (first | exact HR1_0_0.out | (with_reducible refine Kd.C_alloc ?_ _) | (with_reducible refine Kd.C_drewN ?_ _) | (with_reducible refine Kd.C_drew ?_))); (case side2 => exact HC1_0_0.out); rintro e w' ⟨rfl, ⟨nd, rfl⟩⟩; refine ⟨_, rfl, ?_⟩))
 go_ret
 exact ⟨eE, lU⟩
def slices_IndexFunc_w80.l0 : Nat → List ByteArray → Int → Int → List ByteArray → Option (Int)
 | 0, _, _, _, _ => none
 | k + 1, x0, x7, x8, x29000 => if x8 < x7 then (if 0 ≤ x8 then (if x8 < (x0.length : Int) then ((impl_makeOrder_1_1.f k (rdOf ByteArray.empty x0 x8) x29000).bind fun t182 => (if t182 = true then (some x8) else (slices_IndexFunc_w80.l0 k x0 x7 (wrap64 (x8 + 1)) x29000))) else (none)) else (none)) else (some (-1))
def slices_IndexFunc_w80.f (k : Nat) (l0 : List ByteArray) (l1_0_0 : List ByteArray) : Option (Int) := slices_IndexFunc_w80.l0 k l0 (l0.length : Int) 0 l1_0_0
theorem slices_IndexFunc_w80.mono_l : ∀ k, (∀ y0 y1 y2 y3, LeO (slices_IndexFunc_w80.l0 k y0 y1 y2 y3) (slices_IndexFunc_w80.l0 (k + 1) y0 y1 y2 y3))
 | 0 => fun _ _ _ _ r h => by simp [slices_IndexFunc_w80.l0] at h
 | k + 1 => by
  have ih0 := slices_IndexFunc_w80.mono_l k
  ·intro y0 y1 y2 y3
   unfold slices_IndexFunc_w80.l0
   repeat' first
   | (with_reducible exact ih0 _ _ _ _)
   | (with_reducible exact impl_makeOrder_1_1.mono _ _ _)
   | (with_reducible exact LeO.refl _)
   | (with_reducible exact LeO.none _)
   | (with_reducible refine LeO.ite ?_ ?_)
   | (with_reducible refine LeO.bind ?_ (fun _ => ?_))
   | exact ih0 _ _ _ _
   | exact impl_makeOrder_1_1.mono _ _ _
   | exact LeO.none _
   | refine LeO.ite ?_ ?_
   | refine LeO.bind ?_ (fun _ => ?_)
theorem slices_IndexFunc_w80.mono : ∀ a0 a1 k, LeO (slices_IndexFunc_w80.f k a0 a1) (slices_IndexFunc_w80.f (k + 1) a0 a1) := by
 intro a0 a1 k
 have ih0 := slices_IndexFunc_w80.mono_l k
 unfold slices_IndexFunc_w80.f
 repeat' first
   | (with_reducible exact ih0 _ _ _ _)
   | (with_reducible exact impl_makeOrder_1_1.mono _ _ _)
   | (with_reducible exact LeO.refl _)
   | (with_reducible exact LeO.none _)
   | (with_reducible refine LeO.ite ?_ ?_)
   | (with_reducible refine LeO.bind ?_ (fun _ => ?_))
   | exact ih0 _ _ _ _
   | exact impl_makeOrder_1_1.mono _ _ _
   | exact LeO.none _
   | refine LeO.ite ?_ ?_
   | refine LeO.bind ?_ (fun _ => ?_)
set_option maxHeartbeats 8000000 in
set_option maxRecDepth 100000 in
theorem slices_IndexFunc_w80.calls (k : Nat) (A0 : Option Addr) (c0 : Nat) (l0 : List ByteArray) (gb28 : Nat) (A1_0_0 : Option Addr) (c1_0_0 : Nat) (l1_0_0 : List ByteArray) (r : Int) (w : World) (hr0 : Kd.C Kd.string w A0 l0.length l0) (hc0 : l0.length ≤ c0) (hr1_0_0 : Kd.C Kd.string w A1_0_0 l1_0_0.length l1_0_0) (hc1_0_0 : l1_0_0.length ≤ c1_0_0) (hk28 : w.heap[gb28]? = some (.cells #[.slice A1_0_0 l1_0_0.length c1_0_0] 29 (0, 0))) (h : slices_IndexFunc_w80.f k l0 l1_0_0 = some r) :
  Calls Try.prog 75 #[.slice A0 l0.length c0, .func (.func 80) #[] #[.pointer (some ⟨gb28, 0, none⟩)]] w fun e w' => e = .returned (.int .i64 r) ∧ Below w.heap.size w w' := by
 have HR0 := Aside0.mk hr0
 have HC0 := Aside0.mk hc0
 clear hr0 hc0
 have HR1_0_0 := Aside0.mk hr1_0_0
 have HC1_0_0 := Aside0.mk hc1_0_0
 clear hr1_0_0 hc1_0_0
 have BK28 := Aside0.mk hk28
 clear hk28
 have HB := Aside0.mk (Below.refl w.heap.size w)
 have H : (slices_IndexFunc_w80.l0 k l0 (l0.length : Int) 0 l1_0_0) = some r := h
 clear h
 have H' := Aside0.mk H
 clear H
 go_enter Try.func75, Try.ntmps75
 go_wp2
 go_loopg [8] k (fun kq v8 w' => ∃ (x8_1 : Int), v8 = .int .i64 x8_1 ∧ Aside0 (slices_IndexFunc_w80.l0 kq l0 (l0.length : Int) x8_1 l1_0_0 = some r) ∧ Aside0 (kq ≤ k) ∧ Aside0 (w'.heap[gb28]? = some (.cells #[(.slice A1_0_0 l1_0_0.length c1_0_0)] 29 (0, 0))) ∧ Aside0 (Below w.heap.size w w'))
 case atStart => exact ⟨(0), tE, H', ⟨Nat.le_refl _⟩, ⟨by refine bU ?_; exact BK28.out⟩, ⟨by repeat (first | (with_reducible first | exact HB.out | apply below_alloc | apply pw_below_drewN | apply below_drew1) | exact HB.out)⟩⟩
 case round =>
  clear H'
  try clear c1
  try clear p2
  obtain ⟨x8_1, rfl, HA, HK1, BK28, HB⟩ := hrel
  cases gk with
  | zero => exact absurd HA.out (by simp [slices_IndexFunc_w80.l0])
  | succ k1 =>
   have H := HA.out
   clear HA
   simp only [slices_IndexFunc_w80.l0] at H
   by_cases c3 : x8_1 < (l0.length : Int)
   ·rw [if_pos c3] at H
    have c3b0 : decide (x8_1 < (l0.length : Int)) = true := decide_eq_true c3
    clear c3
    by_cases c4 : 0 ≤ x8_1
    ·rw [if_pos c4] at H
     have c4b0 : decide (0 ≤ x8_1) = true := decide_eq_true c4
     clear c4
     by_cases c5 : x8_1 < (l0.length : Int)
     ·rw [if_pos c5] at H
      have c5b0 : decide (x8_1 < (l0.length : Int)) = true := decide_eq_true c5
      clear c5
      replace H := Option.bind_eq_some_iff.mp H
      obtain ⟨t182, A60, H⟩ := H
      replace H : (if t182 = true then (some x8_1) else (slices_IndexFunc_w80.l0 k1 l0 (l0.length : Int) (wrap64 (x8_1 + 1)) l1_0_0)) = some r := H
      have A6 := Aside0.mk A60
      clear A60
      by_cases c7 : t182 = true
      ·subst c7
       have H1 : (some x8_1) = some r := by rw [if_pos rfl] at H; exact H
       clear H
       have H := H1
       clear H1
       obtain rfl := Option.some.inj H
       have p181 : 0 ≤ (x8_1 : Int) := of_decide_eq_true hE
       have q181 : x8_1 < (l0.length : Int) := of_decide_eq_true hE
       obtain ⟨ad181, e181, hx181_0⟩ := Kd.at_string HR0.out x8_1 p181 q181
       cases e181
       replace hx181_0 := (HB.out.cell (World.block_lt_of_cell? w _ hx181_0)).trans hx181_0
       replace p181 := eq_true p181
       replace q181 := eq_true q181
       go_wp2_with (first | ((with_reducible refine gateD_ rfl ?_); refine goesC_ (some 16) rfl rfl Try.func80 (by kernel_rfl) rfl rfl rfl #[.string (rdOf ByteArray.empty l0 x8_1), .pointer (some ⟨gb28, 0, none⟩)] aE ?_; (with_reducible refine (impl_makeOrder_1_1.calls k1 (rdOf ByteArray.empty l0 x8_1) gb28 A1_0_0 c1_0_0 l1_0_0 true _ ?side1 ?side2 ?side3 A6.out).mono ?_); (case side1 => exact cU (Kd.C_below HR1_0_0.out HB.out)); (case side2 => exact HC1_0_0.out); (case side3 => refine bU ?_; exact BK28.out); rintro e w8 ⟨rfl, hb⟩; refine ⟨_, rfl, ?_⟩; replace BK28 := bB (bV BK28) hb; replace HB := bH (lU) hb; (try clear hb)))
       go_ret
       exact ⟨eE, lU⟩
      ·replace c7 := Bool.eq_false_iff.mpr c7
       subst c7
       have H1 : (slices_IndexFunc_w80.l0 k1 l0 (l0.length : Int) (wrap64 (x8_1 + 1)) l1_0_0) = some r := by rw [if_neg (show ¬ (false = true) by decide)] at H; exact H
       clear H
       have H := H1
       clear H1
       have H' := Aside0.mk H
       clear H
       have p181 : 0 ≤ (x8_1 : Int) := of_decide_eq_true hE
       have q181 : x8_1 < (l0.length : Int) := of_decide_eq_true hE
       obtain ⟨ad181, e181, hx181_0⟩ := Kd.at_string HR0.out x8_1 p181 q181
       cases e181
       replace hx181_0 := (HB.out.cell (World.block_lt_of_cell? w _ hx181_0)).trans hx181_0
       replace p181 := eq_true p181
       replace q181 := eq_true q181
       go_wp2_with (first | ((with_reducible refine gateD_ rfl ?_); refine goesC_ (some 16) rfl rfl Try.func80 (by kernel_rfl) rfl rfl rfl #[.string (rdOf ByteArray.empty l0 x8_1), .pointer (some ⟨gb28, 0, none⟩)] aE ?_; (with_reducible refine (impl_makeOrder_1_1.calls k1 (rdOf ByteArray.empty l0 x8_1) gb28 A1_0_0 c1_0_0 l1_0_0 false _ ?side1 ?side2 ?side3 A6.out).mono ?_); (case side1 => exact cU (Kd.C_below HR1_0_0.out HB.out)); (case side2 => exact HC1_0_0.out); (case side3 => refine bU ?_; exact BK28.out); rintro e w9 ⟨rfl, hb⟩; refine ⟨_, rfl, ?_⟩; replace BK28 := bB (bV BK28) hb; replace HB := bH (lU) hb; (try clear hb)))
       go_roundg k1
       case measure => have := HK1.out; omega
       case rel => exact ⟨(wrap64 (x8_1 + 1)), tE, H', ⟨by have := HK1.out; omega⟩, ⟨by refine bU ?_; exact BK28.out⟩, ⟨by repeat (first | (with_reducible first | exact HB.out | apply below_alloc | apply pw_below_drewN | apply below_drew1) | exact HB.out)⟩⟩
     ·rw [if_neg c5] at H
      exact absurd H (by simp)
    ·rw [if_neg c4] at H
     exact absurd H (by simp)
   ·rw [if_neg c3] at H
    have c3b0 : decide (x8_1 < (l0.length : Int)) = false := decide_eq_false c3
    clear c3
    obtain rfl := Option.some.inj H
    go_wp2
    go_ret
    exact ⟨eE, lU⟩
def slices_ContainsFunc_w80.f (k : Nat) (l0 : List ByteArray) (l1_0_0 : List ByteArray) : Option (Bool) := (slices_IndexFunc_w80.f k l0 l1_0_0).bind fun t183 => (some (decide (t183 ≥ 0)))
theorem slices_ContainsFunc_w80.mono : ∀ a0 a1 k, LeO (slices_ContainsFunc_w80.f k a0 a1) (slices_ContainsFunc_w80.f (k + 1) a0 a1) := by
 intro a0 a1 k
 unfold slices_ContainsFunc_w80.f
 repeat' first
   | (with_reducible exact slices_IndexFunc_w80.mono _ _ _)
   | (with_reducible exact LeO.refl _)
   | (with_reducible exact LeO.none _)
   | (with_reducible refine LeO.ite ?_ ?_)
   | (with_reducible refine LeO.bind ?_ (fun _ => ?_))
   | exact slices_IndexFunc_w80.mono _ _ _
   | exact LeO.none _
   | refine LeO.ite ?_ ?_
   | refine LeO.bind ?_ (fun _ => ?_)
set_option maxHeartbeats 8000000 in
set_option maxRecDepth 100000 in
theorem slices_ContainsFunc_w80.calls (k : Nat) (A0 : Option Addr) (c0 : Nat) (l0 : List ByteArray) (gb28 : Nat) (A1_0_0 : Option Addr) (c1_0_0 : Nat) (l1_0_0 : List ByteArray) (r : Bool) (w : World) (hr0 : Kd.C Kd.string w A0 l0.length l0) (hc0 : l0.length ≤ c0) (hr1_0_0 : Kd.C Kd.string w A1_0_0 l1_0_0.length l1_0_0) (hc1_0_0 : l1_0_0.length ≤ c1_0_0) (hk28 : w.heap[gb28]? = some (.cells #[.slice A1_0_0 l1_0_0.length c1_0_0] 29 (0, 0))) (h : slices_ContainsFunc_w80.f k l0 l1_0_0 = some r) :
  Calls Try.prog 36 #[.slice A0 l0.length c0, .func (.func 80) #[] #[.pointer (some ⟨gb28, 0, none⟩)]] w fun e w' => e = .returned (.bool r) ∧ Below w.heap.size w w' := by
 have HR0 := Aside0.mk hr0
 have HC0 := Aside0.mk hc0
 clear hr0 hc0
 have HR1_0_0 := Aside0.mk hr1_0_0
 have HC1_0_0 := Aside0.mk hc1_0_0
 clear hr1_0_0 hc1_0_0
 have BK28 := Aside0.mk hk28
 clear hk28
 have HB := Aside0.mk (Below.refl w.heap.size w)
 have H : ((slices_IndexFunc_w80.f k l0 l1_0_0).bind fun t183 => (some (decide (t183 ≥ 0)))) = some r := h
 clear h
 replace H := Option.bind_eq_some_iff.mp H
 obtain ⟨t183, A30, H⟩ := H
 replace H : (some (decide (t183 ≥ 0))) = some r := H
 have A3 := Aside0.mk A30
 clear A30
 obtain rfl := Option.some.inj H
 go_enter Try.func36, Try.ntmps36
 go_wp2_with (first | ((with_reducible refine gate_callee (f := 75) rfl ?_); refine goesL_ (some 7) rfl rfl Try.func75 (by kernel_rfl) rfl #[.slice A0 l0.length c0, .func (.func 80) #[] #[.pointer (some ⟨gb28, 0, none⟩)]] rfl aE ?_; (with_reducible refine (slices_IndexFunc_w80.calls k _ _ l0 gb28 A1_0_0 c1_0_0 l1_0_0 t183 _ ?side1 ?side2 ?side3 ?side4 ?side5 A3.out).mono ?_); (case side1 => repeat (first | exact HR0.out | (with_reducible refine Kd.C_alloc ?_ _) | (with_reducible refine Kd.C_drewN ?_ _) | (with_reducible refine Kd.C_drew ?_))); (case side2 => exact HC0.out); (case side3 => repeat (first | exact HR1_0_0.out | (with_reducible refine Kd.C_alloc ?_ _) | (with_reducible refine Kd.C_drewN ?_ _) | (with_reducible refine Kd.C_drew ?_))); (case side4 => exact HC1_0_0.out); (case side5 => refine bU ?_; exact BK28.out); rintro e w4 ⟨rfl, hb⟩; refine ⟨_, rfl, ?_⟩; replace BK28 := bB (bV BK28) hb; replace HB := bH (lU) hb; (try clear hb)))
 go_ret
 exact ⟨eE, lU⟩
def impl_makeOrder_1.f (k : Nat) (a0_0 : ByteArray) (l0_1 : List ByteArray) (l0_2 : List Int) (l1_0_0 : List ByteArray) : Option (Bool) := (slices_Contains_string_string.f k l1_0_0 a0_0).bind fun t185 => (if t185 = true then (some false) else ((slices_ContainsFunc_w80.f k l0_1 l1_0_0).bind fun t186 => (some (!t186))))
theorem impl_makeOrder_1.mono : ∀ a0 a1 a2 a3 k, LeO (impl_makeOrder_1.f k a0 a1 a2 a3) (impl_makeOrder_1.f (k + 1) a0 a1 a2 a3) := by
 intro a0 a1 a2 a3 k
 unfold impl_makeOrder_1.f
 repeat' first
   | (with_reducible exact slices_ContainsFunc_w80.mono _ _ _)
   | (with_reducible exact slices_Contains_string_string.mono _ _ _)
   | (with_reducible exact LeO.refl _)
   | (with_reducible exact LeO.none _)
   | (with_reducible refine LeO.ite ?_ ?_)
   | (with_reducible refine LeO.bind ?_ (fun _ => ?_))
   | exact slices_ContainsFunc_w80.mono _ _ _
   | exact slices_Contains_string_string.mono _ _ _
   | exact LeO.none _
   | refine LeO.ite ?_ ?_
   | refine LeO.bind ?_ (fun _ => ?_)
set_option maxHeartbeats 8000000 in
set_option maxRecDepth 100000 in
theorem impl_makeOrder_1.calls (k : Nat) (a0_0 : ByteArray) (A0_1 : Option Addr) (c0_1 : Nat) (l0_1 : List ByteArray) (A0_2 : Option Addr) (c0_2 : Nat) (l0_2 : List Int) (gb28 : Nat) (A1_0_0 : Option Addr) (c1_0_0 : Nat) (l1_0_0 : List ByteArray) (r : Bool) (w : World) (hr0_1 : Kd.C Kd.string w A0_1 l0_1.length l0_1) (hc0_1 : l0_1.length ≤ c0_1) (hr0_2 : Kd.C (Kd.int .u8) w A0_2 l0_2.length l0_2) (hc0_2 : l0_2.length ≤ c0_2) (hr1_0_0 : Kd.C Kd.string w A1_0_0 l1_0_0.length l1_0_0) (hc1_0_0 : l1_0_0.length ≤ c1_0_0) (hk28 : w.heap[gb28]? = some (.cells #[.slice A1_0_0 l1_0_0.length c1_0_0] 29 (0, 0))) (h : impl_makeOrder_1.f k a0_0 l0_1 l0_2 l1_0_0 = some r) :
  Calls Try.prog 78 #[.agg #[.string a0_0, .slice A0_1 l0_1.length c0_1, .slice A0_2 l0_2.length c0_2], .pointer (some ⟨gb28, 0, none⟩)] w fun e w' => e = .returned (.bool r) ∧ Below w.heap.size w w' := by
 have hu63 := Try.underlying63
 have HR0_1 := Aside0.mk hr0_1
 have HC0_1 := Aside0.mk hc0_1
 clear hr0_1 hc0_1
 have HR0_2 := Aside0.mk hr0_2
 have HC0_2 := Aside0.mk hc0_2
 clear hr0_2 hc0_2
 have HR1_0_0 := Aside0.mk hr1_0_0
 have HC1_0_0 := Aside0.mk hc1_0_0
 clear hr1_0_0 hc1_0_0
 have BK28 := Aside0.mk hk28
 clear hk28
 have HB := Aside0.mk (Below.refl w.heap.size w)
 have H : ((slices_Contains_string_string.f k l1_0_0 a0_0).bind fun t185 => (if t185 = true then (some false) else ((slices_ContainsFunc_w80.f k l0_1 l1_0_0).bind fun t186 => (some (!t186))))) = some r := h
 clear h
 replace H := Option.bind_eq_some_iff.mp H
 obtain ⟨t185, A30, H⟩ := H
 replace H : (if t185 = true then (some false) else ((slices_ContainsFunc_w80.f k l0_1 l1_0_0).bind fun t186 => (some (!t186)))) = some r := H
 have A3 := Aside0.mk A30
 clear A30
 by_cases c4 : t185 = true
 ·subst c4
  have H1 : (some false) = some r := by rw [if_pos rfl] at H; exact H
  clear H
  have H := H1
  clear H1
  obtain rfl := Option.some.inj H
  go_enter Try.func78, Try.ntmps78
  go_wp2_with (first | ((with_reducible refine gate_dst (N := 2) rfl ?_); refine box_event rfl (N := 2) rfl (cs := #[.string a0_0, .slice A0_1 l0_1.length c0_1, .slice A0_2 l0_2.length c0_2]) (t := 63) sE ?_; intro gb184 hg w5 hbox hb; have BK184 := Aside0.mk hbox; have GW184 := gS w hg (lU); have GE184 := gS w hg (lU); replace HB := bH (lU) hb; have NB28_184 := nL hg (bV BK28); have NB184_28 := nG hg (bV BK28); replace BK28 := bB (bV BK28) hb; clear hb hbox hg; have hnb6 := NB28_184.out; have hnc6 := NB184_28.out; have hcz7_0 := cz BK28 0 (.slice A1_0_0 l1_0_0.length c1_0_0); have hfz7_0 := fz BK28 0; have hcz8_0 := cz BK184 0 (.string a0_0); have hcz8_1 := cz BK184 1 (.slice A0_1 l0_1.length c0_1); have hcz8_2 := cz BK184 2 (.slice A0_2 l0_2.length c0_2); have hfz8_0 := fz BK184 0; have hfz8_1 := fz BK184 1; have hfz8_2 := fz BK184 2) | ((with_reducible refine gate_callee (f := 79) rfl ?_); refine goesL_ (some 7) rfl rfl Try.func79 (by kernel_rfl) rfl #[.slice A1_0_0 l1_0_0.length c1_0_0, .string a0_0] rfl aE ?_; (with_reducible refine (slices_Contains_string_string.calls k _ _ l1_0_0 a0_0 true _ ?side1 ?side2 A3.out).mono ?_); (case side1 => exact cU (Kd.C_below HR1_0_0.out HB.out)); (case side2 => exact HC1_0_0.out); rintro e w' ⟨rfl, ⟨nd, rfl⟩⟩; refine ⟨_, rfl, ?_⟩))
  go_ret
  exact ⟨eE, lV1 GE184⟩
 ·replace c4 := Bool.eq_false_iff.mpr c4
  subst c4
  have H1 : ((slices_ContainsFunc_w80.f k l0_1 l1_0_0).bind fun t186 => (some (!t186))) = some r := by rw [if_neg (show ¬ (false = true) by decide)] at H; exact H
  clear H
  have H := H1
  clear H1
  replace H := Option.bind_eq_some_iff.mp H
  obtain ⟨t186, A90, H⟩ := H
  replace H : (some (!t186)) = some r := H
  have A9 := Aside0.mk A90
  clear A90
  obtain rfl := Option.some.inj H
  go_enter Try.func78, Try.ntmps78
  go_wp2_with (first | ((with_reducible refine gate_dst (N := 2) rfl ?_); refine box_event rfl (N := 2) rfl (cs := #[.string a0_0, .slice A0_1 l0_1.length c0_1, .slice A0_2 l0_2.length c0_2]) (t := 63) sE ?_; intro gb184 hg w10 hbox hb; have BK184 := Aside0.mk hbox; have GW184 := gS w hg (lU); have GE184 := gS w hg (lU); replace HB := bH (lU) hb; have NB28_184 := nL hg (bV BK28); have NB184_28 := nG hg (bV BK28); replace BK28 := bB (bV BK28) hb; clear hb hbox hg; have hnb11 := NB28_184.out; have hnc11 := NB184_28.out; have hcz12_0 := cz BK28 0 (.slice A1_0_0 l1_0_0.length c1_0_0); have hfz12_0 := fz BK28 0; have hcz13_0 := cz BK184 0 (.string a0_0); have hcz13_1 := cz BK184 1 (.slice A0_1 l0_1.length c0_1); have hcz13_2 := cz BK184 2 (.slice A0_2 l0_2.length c0_2); have hfz13_0 := fz BK184 0; have hfz13_1 := fz BK184 1; have hfz13_2 := fz BK184 2) | ((with_reducible refine gate_callee (f := 79) rfl ?_); refine goesL_ (some 7) rfl rfl Try.func79 (by kernel_rfl) rfl #[.slice A1_0_0 l1_0_0.length c1_0_0, .string a0_0] rfl aE ?_; (with_reducible refine (slices_Contains_string_string.calls k _ _ l1_0_0 a0_0 false _ ?side1 ?side2 A3.out).mono ?_); (case side1 => exact cU (Kd.C_below HR1_0_0.out HB.out)); (case side2 => exact HC1_0_0.out); rintro e w' ⟨rfl, ⟨nd, rfl⟩⟩; refine ⟨_, rfl, ?_⟩) | (go_at_call 36; (with_reducible refine (slices_ContainsFunc_w80.calls k _ _ l0_1 gb28 A1_0_0 c1_0_0 l1_0_0 t186 _ ?side1 ?side2 ?side3 ?side4 ?side5 A9.out).mono ?_); (case side1 => exact cU (Kd.C_below HR0_1.out (lV1 GE184))); (case side2 => exact HC0_1.out); (case side3 => exact cU (Kd.C_below HR1_0_0.out (lV1 GE184))); (case side4 => exact HC1_0_0.out); (case side5 => refine bU ?_; exact BK28.out); rintro e w14 ⟨rfl, hb⟩; replace BK28 := bB (bV BK28) hb; replace BK184 := bB (bV BK184) hb; replace HB := bH (lV1 GE184) hb; (try clear hb)))
  go_ret
  exact ⟨eE, lV1 GE184⟩
end Go.Proofs.Ytifejplilaefiaa.PFnExactGoodAssets
namespace Go.Proofs.Ytifejplilaefiaa.PFnExactGoodAssets
open Go.RowKit Go.Proofs.YtifejplilaefiaaW.PrintWords Go.Proofs.YtifejplilaefiaaW.PrintLast Go.Proofs.YtifejplilaefiaaW.PrintMore
attribute [local go_sem] max2_int min2_int max_two min_two max_three min_three max_four min_four   -- for this text's walks alone
set_option linter.unusedVariables false
set_option linter.unusedSimpArgs false
def slices_IndexFunc_w78.l0 : Nat → List (S63) → Int → Int → List ByteArray → Option (Int)
 | 0, _, _, _, _ => none
 | k + 1, x0, x7, x8, x29000 => if x8 < x7 then (if 0 ≤ x8 then (if x8 < (x0.length : Int) then ((impl_makeOrder_1.f k ((rd_T63 x0 x8).f0) ((rd_T63 x0 x8).f1) ((rd_T63 x0 x8).f2) x29000).bind fun t188 => (if t188 = true then (some x8) else (slices_IndexFunc_w78.l0 k x0 x7 (wrap64 (x8 + 1)) x29000))) else (none)) else (none)) else (some (-1))
def slices_IndexFunc_w78.f (k : Nat) (l0 : List (S63)) (l1_0_0 : List ByteArray) : Option (Int) := slices_IndexFunc_w78.l0 k l0 (l0.length : Int) 0 l1_0_0
theorem slices_IndexFunc_w78.mono_l : ∀ k, (∀ y0 y1 y2 y3, LeO (slices_IndexFunc_w78.l0 k y0 y1 y2 y3) (slices_IndexFunc_w78.l0 (k + 1) y0 y1 y2 y3))
 | 0 => fun _ _ _ _ r h => by simp [slices_IndexFunc_w78.l0] at h
 | k + 1 => by
  have ih0 := slices_IndexFunc_w78.mono_l k
  ·intro y0 y1 y2 y3
   unfold slices_IndexFunc_w78.l0
   repeat' first
   | (with_reducible exact ih0 _ _ _ _)
   | (with_reducible exact impl_makeOrder_1.mono _ _ _ _ _)
   | (with_reducible exact LeO.refl _)
   | (with_reducible exact LeO.none _)
   | (with_reducible refine LeO.ite ?_ ?_)
   | (with_reducible refine LeO.bind ?_ (fun _ => ?_))
   | exact ih0 _ _ _ _
   | exact impl_makeOrder_1.mono _ _ _ _ _
   | exact LeO.none _
   | refine LeO.ite ?_ ?_
   | refine LeO.bind ?_ (fun _ => ?_)
theorem slices_IndexFunc_w78.mono : ∀ a0 a1 k, LeO (slices_IndexFunc_w78.f k a0 a1) (slices_IndexFunc_w78.f (k + 1) a0 a1) := by
 intro a0 a1 k
 have ih0 := slices_IndexFunc_w78.mono_l k
 unfold slices_IndexFunc_w78.f
 repeat' first
   | (with_reducible exact ih0 _ _ _ _)
   | (with_reducible exact impl_makeOrder_1.mono _ _ _ _ _)
   | (with_reducible exact LeO.refl _)
   | (with_reducible exact LeO.none _)
   | (with_reducible refine LeO.ite ?_ ?_)
   | (with_reducible refine LeO.bind ?_ (fun _ => ?_))
   | exact ih0 _ _ _ _
   | exact impl_makeOrder_1.mono _ _ _ _ _
   | exact LeO.none _
   | refine LeO.ite ?_ ?_
   | refine LeO.bind ?_ (fun _ => ?_)
set_option maxHeartbeats 8000000 in
set_option maxRecDepth 100000 in
theorem slices_IndexFunc_w78.calls (k : Nat) (A0 : Option Addr) (c0 : Nat) (l0 : List (S63)) (gb28 : Nat) (A1_0_0 : Option Addr) (c1_0_0 : Nat) (l1_0_0 : List ByteArray) (r : Int) (w : World) (hr0 : Kd.C k63 w A0 l0.length l0) (hc0 : l0.length ≤ c0) (hr1_0_0 : Kd.C Kd.string w A1_0_0 l1_0_0.length l1_0_0) (hc1_0_0 : l1_0_0.length ≤ c1_0_0) (hk28 : w.heap[gb28]? = some (.cells #[.slice A1_0_0 l1_0_0.length c1_0_0] 29 (0, 0))) (h : slices_IndexFunc_w78.f k l0 l1_0_0 = some r) :
  Calls Try.prog 76 #[.slice A0 l0.length c0, .func (.func 78) #[] #[.pointer (some ⟨gb28, 0, none⟩)]] w fun e w' => e = .returned (.int .i64 r) ∧ Below w.heap.size w w' := by
 have hu63 := Try.underlying63
 have HR0 := Aside0.mk hr0
 have HC0 := Aside0.mk hc0
 clear hr0 hc0
 have HR1_0_0 := Aside0.mk hr1_0_0
 have HC1_0_0 := Aside0.mk hc1_0_0
 clear hr1_0_0 hc1_0_0
 have BK28 := Aside0.mk hk28
 clear hk28
 have HB := Aside0.mk (Below.refl w.heap.size w)
 have H : (slices_IndexFunc_w78.l0 k l0 (l0.length : Int) 0 l1_0_0) = some r := h
 clear h
 have H' := Aside0.mk H
 clear H
 go_enter Try.func76, Try.ntmps76
 go_wp2
 go_loopg [8] k (fun kq v8 w' => ∃ (x8_1 : Int), v8 = .int .i64 x8_1 ∧ Aside0 (slices_IndexFunc_w78.l0 kq l0 (l0.length : Int) x8_1 l1_0_0 = some r) ∧ Aside0 (kq ≤ k) ∧ Aside0 (w'.heap[gb28]? = some (.cells #[(.slice A1_0_0 l1_0_0.length c1_0_0)] 29 (0, 0))) ∧ Aside0 (Below w.heap.size w w'))
 case atStart => exact ⟨(0), tE, H', ⟨Nat.le_refl _⟩, ⟨by refine bU ?_; exact BK28.out⟩, ⟨by repeat (first | (with_reducible first | exact HB.out | apply below_alloc | apply pw_below_drewN | apply below_drew1) | exact HB.out)⟩⟩
 case round =>
  clear H'
  try clear c1
  try clear p2
  obtain ⟨x8_1, rfl, HA, HK1, BK28, HB⟩ := hrel
  cases gk with
  | zero => exact absurd HA.out (by simp [slices_IndexFunc_w78.l0])
  | succ k1 =>
   have H := HA.out
   clear HA
   simp only [slices_IndexFunc_w78.l0] at H
   by_cases c3 : x8_1 < (l0.length : Int)
   ·rw [if_pos c3] at H
    have c3b0 : decide (x8_1 < (l0.length : Int)) = true := decide_eq_true c3
    clear c3
    by_cases c4 : 0 ≤ x8_1
    ·rw [if_pos c4] at H
     have c4b0 : decide (0 ≤ x8_1) = true := decide_eq_true c4
     clear c4
     by_cases c5 : x8_1 < (l0.length : Int)
     ·rw [if_pos c5] at H
      have c5b0 : decide (x8_1 < (l0.length : Int)) = true := decide_eq_true c5
      clear c5
      replace H := Option.bind_eq_some_iff.mp H
      obtain ⟨t188, A60, H⟩ := H
      replace H : (if t188 = true then (some x8_1) else (slices_IndexFunc_w78.l0 k1 l0 (l0.length : Int) (wrap64 (x8_1 + 1)) l1_0_0)) = some r := H
      have A6 := Aside0.mk A60
      clear A60
      by_cases c7 : t188 = true
      ·subst c7
       have H1 : (some x8_1) = some r := by rw [if_pos rfl] at H; exact H
       clear H
       have H := H1
       clear H1
       obtain rfl := Option.some.inj H
       have p187 : 0 ≤ (x8_1 : Int) := of_decide_eq_true hE
       have q187 : x8_1 < (l0.length : Int) := of_decide_eq_true hE
       obtain ⟨ad187, A187_1, c187_1, A187_2, c187_2, e187, hx187_0, hx187_1, hx187_2, hl187_1, hi187_1, hl187_2, hi187_2⟩ := at_T63 HR0.out x8_1 p187 q187
       cases e187
       replace hx187_0 := (HB.out.cell (World.block_lt_of_cell? w _ hx187_0)).trans hx187_0
       replace hx187_1 := (HB.out.cell (World.block_lt_of_cell? w _ hx187_1)).trans hx187_1
       replace hx187_2 := (HB.out.cell (World.block_lt_of_cell? w _ hx187_2)).trans hx187_2
       have HR187_1 := Aside0.mk hi187_1
       have HC187_1 := Aside0.mk hl187_1
       clear hi187_1 hl187_1
       have HR187_2 := Aside0.mk hi187_2
       have HC187_2 := Aside0.mk hl187_2
       clear hi187_2 hl187_2
       replace p187 := eq_true p187
       replace q187 := eq_true q187
       go_wp2_with (first | ((with_reducible refine gateD_ rfl ?_); refine goesC_ (some 16) rfl rfl Try.func78 (by kernel_rfl) rfl rfl rfl #[.agg #[.string ((rd_T63 l0 x8_1).f0), .slice A187_1 ((rd_T63 l0 x8_1).f1).length c187_1, .slice A187_2 ((rd_T63 l0 x8_1).f2).length c187_2], .pointer (some ⟨gb28, 0, none⟩)] aE ?_; (with_reducible refine (impl_makeOrder_1.calls k1 ((rd_T63 l0 x8_1).f0) _ _ ((rd_T63 l0 x8_1).f1) _ _ ((rd_T63 l0 x8_1).f2) gb28 A1_0_0 c1_0_0 l1_0_0 true _ ?side1 ?side2 ?side3 ?side4 ?side5 ?side6 ?side7 A6.out).mono ?_); (case side1 => exact cU (Kd.C_below HR187_1.out HB.out)); (case side2 => exact HC187_1.out); (case side3 => exact cU (Kd.C_below HR187_2.out HB.out)); (case side4 => exact HC187_2.out); (case side5 => exact cU (Kd.C_below HR1_0_0.out HB.out)); (case side6 => exact HC1_0_0.out); (case side7 => refine bU ?_; exact BK28.out); rintro e w8 ⟨rfl, hb⟩; refine ⟨_, rfl, ?_⟩; replace BK28 := bB (bV BK28) hb; replace HB := bH (lU) hb; (try clear hb)))
       go_ret
       exact ⟨eE, lU⟩
      ·replace c7 := Bool.eq_false_iff.mpr c7
       subst c7
       have H1 : (slices_IndexFunc_w78.l0 k1 l0 (l0.length : Int) (wrap64 (x8_1 + 1)) l1_0_0) = some r := by rw [if_neg (show ¬ (false = true) by decide)] at H; exact H
       clear H
       have H := H1
       clear H1
       have H' := Aside0.mk H
       clear H
       have p187 : 0 ≤ (x8_1 : Int) := of_decide_eq_true hE
       have q187 : x8_1 < (l0.length : Int) := of_decide_eq_true hE
       obtain ⟨ad187, A187_1, c187_1, A187_2, c187_2, e187, hx187_0, hx187_1, hx187_2, hl187_1, hi187_1, hl187_2, hi187_2⟩ := at_T63 HR0.out x8_1 p187 q187
       cases e187
       replace hx187_0 := (HB.out.cell (World.block_lt_of_cell? w _ hx187_0)).trans hx187_0
       replace hx187_1 := (HB.out.cell (World.block_lt_of_cell? w _ hx187_1)).trans hx187_1
       replace hx187_2 := (HB.out.cell (World.block_lt_of_cell? w _ hx187_2)).trans hx187_2
       have HR187_1 := Aside0.mk hi187_1
       have HC187_1 := Aside0.mk hl187_1
       clear hi187_1 hl187_1
       have HR187_2 := Aside0.mk hi187_2
       have HC187_2 := Aside0.mk hl187_2
       clear hi187_2 hl187_2
       replace p187 := eq_true p187
       replace q187 := eq_true q187
       go_wp2_with (first | ((with_reducible refine gateD_ rfl ?_); refine goesC_ (some 16) rfl rfl Try.func78 (by kernel_rfl) rfl rfl rfl #[.agg #[.string ((rd_T63 l0 x8_1).f0), .slice A187_1 ((rd_T63 l0 x8_1).f1).length c187_1, .slice A187_2 ((rd_T63 l0 x8_1).f2).length c187_2], .pointer (some ⟨gb28, 0, none⟩)] aE ?_; (with_reducible refine (impl_makeOrder_1.calls k1 ((rd_T63 l0 x8_1).f0) _ _ ((rd_T63 l0 x8_1).f1) _ _ ((rd_T63 l0 x8_1).f2) gb28 A1_0_0 c1_0_0 l1_0_0 false _ ?side1 ?side2 ?side3 ?side4 ?side5 ?side6 ?side7 A6.out).mono ?_); (case side1 => exact cU (Kd.C_below HR187_1.out HB.out)); (case side2 => exact HC187_1.out); (case side3 => exact cU (Kd.C_below HR187_2.out HB.out)); (case side4 => exact HC187_2.out); (case side5 => exact cU (Kd.C_below HR1_0_0.out HB.out)); (case side6 => exact HC1_0_0.out); (case side7 => refine bU ?_; exact BK28.out); rintro e w9 ⟨rfl, hb⟩; refine ⟨_, rfl, ?_⟩; replace BK28 := bB (bV BK28) hb; replace HB := bH (lU) hb; (try clear hb)))
       go_roundg k1
       case measure => have := HK1.out; omega
       case rel => exact ⟨(wrap64 (x8_1 + 1)), tE, H', ⟨by have := HK1.out; omega⟩, ⟨by refine bU ?_; exact BK28.out⟩, ⟨by repeat (first | (with_reducible first | exact HB.out | apply below_alloc | apply pw_below_drewN | apply below_drew1) | exact HB.out)⟩⟩
     ·rw [if_neg c5] at H
      exact absurd H (by simp)
    ·rw [if_neg c4] at H
     exact absurd H (by simp)
   ·rw [if_neg c3] at H
    have c3b0 : decide (x8_1 < (l0.length : Int)) = false := decide_eq_false c3
    clear c3
    obtain rfl := Option.some.inj H
    go_wp2
    go_ret
    exact ⟨eE, lU⟩
def impl_makeOrder.l0 : Nat → List (S63) → List ByteArray → Option (List ByteArray)
 | 0, _, _ => none
 | k + 1, x0, x193000 => (slices_IndexFunc_w78.f k x0 x193000).bind fun t193 => (if t193 < 0 then (some x193000) else (if 0 ≤ t193 then (if t193 < (x0.length : Int) then (if x193000.length < 8796093022208 then (impl_makeOrder.l0 k x0 (x193000 ++ [(rd_T63 x0 t193).f0])) else (none)) else (none)) else (none)))
def impl_makeOrder.f (k : Nat) (l0 : List (S63)) : Option (List ByteArray) := impl_makeOrder.l0 k l0 (([] : List ByteArray))
theorem impl_makeOrder.mono_l : ∀ k, (∀ y0 y1, LeO (impl_makeOrder.l0 k y0 y1) (impl_makeOrder.l0 (k + 1) y0 y1))
 | 0 => fun _ _ r h => by simp [impl_makeOrder.l0] at h
 | k + 1 => by
  have ih0 := impl_makeOrder.mono_l k
  ·intro y0 y1
   unfold impl_makeOrder.l0
   repeat' first
   | (with_reducible exact ih0 _ _)
   | (with_reducible exact slices_IndexFunc_w78.mono _ _ _)
   | (with_reducible exact LeO.refl _)
   | (with_reducible exact LeO.none _)
   | (with_reducible refine LeO.ite ?_ ?_)
   | (with_reducible refine LeO.bind ?_ (fun _ => ?_))
   | exact ih0 _ _
   | exact slices_IndexFunc_w78.mono _ _ _
   | exact LeO.none _
   | refine LeO.ite ?_ ?_
   | refine LeO.bind ?_ (fun _ => ?_)
theorem impl_makeOrder.mono : ∀ a0 k, LeO (impl_makeOrder.f k a0) (impl_makeOrder.f (k + 1) a0) := by
 intro a0 k
 have ih0 := impl_makeOrder.mono_l k
 unfold impl_makeOrder.f
 repeat' first
   | (with_reducible exact ih0 _ _)
   | (with_reducible exact slices_IndexFunc_w78.mono _ _ _)
   | (with_reducible exact LeO.refl _)
   | (with_reducible exact LeO.none _)
   | (with_reducible refine LeO.ite ?_ ?_)
   | (with_reducible refine LeO.bind ?_ (fun _ => ?_))
   | exact ih0 _ _
   | exact slices_IndexFunc_w78.mono _ _ _
   | exact LeO.none _
   | refine LeO.ite ?_ ?_
   | refine LeO.bind ?_ (fun _ => ?_)
def impl_makeOrder.T5 : Bool × List (List Nat × List Nat) := (true, [([], []), ([], []), ([], []), ([1, 2], [1, 2]), ([3], [3]), ([4], [4]), ([5], [5]), ([0, 6], [0, 6]), ([7, 7, 0, 1, 2, 3, 4, 5, 6, 7], [7])])
def impl_makeOrder.B5 : List Nat := [0, 0, 0, 6, 14, 30, 62, 127, 255]
theorem impl_makeOrder.tab5 : rtab .any (opsOf Try.f39 5) = impl_makeOrder.T5 := by kernel_rfl
theorem impl_makeOrder.bits5 : waitsOk impl_makeOrder.T5.2 impl_makeOrder.B5 = true := by kernel_rfl
set_option maxHeartbeats 8000000 in
set_option maxRecDepth 100000 in
theorem impl_makeOrder.calls (k : Nat) (A0 : Option Addr) (c0 : Nat) (l0 : List (S63)) (r : List ByteArray) (w : World) (hr0 : Kd.C k63 w A0 l0.length l0) (hc0 : l0.length ≤ c0) (h : impl_makeOrder.f k l0 = some r) :
  Calls Try.prog 39 #[.slice A0 l0.length c0] w fun e w' => ∃ v0_ : Value, e = .returned (v0_) ∧ Kd.R Kd.string 9 w' w.heap.size (fun _ => True) v0_ r ∧ Below w.heap.size w w' := by
 have hu29 := Try.underlying29
 have HR0 := Aside0.mk hr0
 have HC0 := Aside0.mk hc0
 clear hr0 hc0
 have HB := Aside0.mk (Below.refl w.heap.size w)
 have H : (impl_makeOrder.l0 k l0 (([] : List ByteArray))) = some r := h
 clear h
 obtain ⟨y189, hy189⟩ : ∃ y_ : List ByteArray, y_ = (([] : List ByteArray)) := ⟨_, rfl⟩
 replace H : (impl_makeOrder.l0 k l0 y189) = some r := by first | (rw [hy189]; with_reducible exact H) | (have H2_ := (Option.bind_some _ _).symm.trans H; rw [hy189]; with_reducible exact H2_) | (have H2_ := (Option.bind_some _ _).symm.trans H; with_reducible exact H2_) | with_reducible exact H | (rw [hy189]; exact H) | exact H
 have Ny189 := Aside0.mk hy189
 clear hy189
 have H' := Aside0.mk H
 clear H
 go_enter Try.func39, Try.ntmps39
 go_wp2_with (first | ((with_reducible refine gate_dst (N := 5) rfl ?_); refine Kd.R_lit Kd.string _ 9 ?hg (N := 5) ?hd (xs := ([] : List ByteArray)) (inner := []) (ok := fun _ => True) (okp := fun _ => True) ?hr ?hp (fun _ hk => hk) trivial (Below.refl _ _) (Nat.le_refl _) (by simp) ?_; (case hd => rfl); (case hg => rfl); (case hr => exact sE); (case hp => exact (Reps.none _ _)); intro v190 w2 ho3 hb hg_ hnew_; clear hg_ hnew_; (first | rw [← Ny189.out] at ho3 | (simp only [Int.reduceToNat] at ho3; rw [← Ny189.out] at ho3)); have HO191 := Aside0.mk (Kd.R_lower ho3 (below_size (lU))); replace HB := bH (lU) hb; clear hb ho3) | ((with_reducible refine gate_dst (N := 3) rfl ?_); refine box_event rfl (N := 3) rfl (cs := #[.slice none 0 0]) (t := 29) sE ?_; intro gb192 hg w4 hbox hb; replace HO191 := Aside0.mk (Kd.R_below (rU HO191.out) hb); have BK192 := Aside0.mk hbox; have GW192 := gS w hg (lU); have GE192 := gS w hg (lU); replace HB := bH (lU) hb; clear hb hbox hg; obtain ⟨Ao5, co5, eo5⟩ := Kd.R_slice HO191.out; subst eo5; have hcz6_0 := cz BK192 0 (.slice none 0 0); have hfz6_0 := fz BK192 0) | ((with_reducible refine gate_store (t := 29) (p := 3) rfl ?_); refine store_event (t := 29) (p := 3) (v := ?vo_w7) (w1 := (w4.setCell ⟨gb192, 0, none⟩ (.slice Ao5 y189.length co5))) ?hg ?ho ?hn ?hr ?_; (case ho => rfl); (case hg => rfl); (case hn => rfl); (case hr => first | (go_simp; done) | (go_simp; rfl) | (have hq0_ := (blk_cell BK192.out 0).trans (show _ = some _ from rfl); have hf0_ := blk_frozen BK192.out 0; first | (go_simp; done) | (go_simp; rfl))); intro w7 hw; replace HO191 : Aside0 (Kd.R Kd.string 9 w7 w.heap.size (fun _ => True) (.slice Ao5 y189.length co5) y189) := ⟨(by rw [hw]; exact (by (with_reducible repeat (first | apply Kd.R_alloc | apply Kd.R_drewN | apply Kd.R_drew)); exact Kd.R_mono (Kd.R_far (p := ⟨gb192, 0, none⟩) (Kd.R_types HO191.out BK192.out (by decide)) (fun _ hk => hk.2) (.slice Ao5 y189.length co5)) (fun _ hk => trivial)))⟩; replace BK192 : Aside0 (w7.heap[gb192]? = some (.cells #[.slice Ao5 y189.length co5] 29 (0, 0))) := ⟨(by rw [hw]; exact (by refine bU ?_; refine blk_put (cs := #[.slice none 0 0]) ?_ 0 _ rfl; refine bU ?_; exact BK192.out))⟩; replace HB : Aside0 (Below w.heap.size w w7) := ⟨(by rw [hw]; exact (lV1 GE192))⟩; clear hw))
 (try simp only [Act.put, List.setIfInBounds_toArray, List.set_cons_zero, List.set_cons_succ])
 go_loopg [] k (fun kq w' => ∃ (x193000_1 : List ByteArray) (u193000 : Value), Aside0 (impl_makeOrder.l0 kq l0 x193000_1 = some r) ∧ Aside0 (kq ≤ k) ∧ Aside0 (Kd.R Kd.string 9 w' w.heap.size (fun _ => True) u193000 x193000_1) ∧ Aside0 (w'.heap[gb192]? = some (.cells #[u193000] 29 (0, 0))) ∧ Aside0 (Below w.heap.size w w'))
 case atStart => exact ⟨(y189), (.slice Ao5 y189.length co5), H', ⟨Nat.le_refl _⟩, ⟨by (with_reducible repeat (first | apply Kd.R_alloc | apply Kd.R_drewN | apply Kd.R_drew)); exact HO191.out⟩, ⟨by refine bU ?_; exact BK192.out⟩, ⟨by repeat (first | (with_reducible first | exact HB.out | apply below_alloc | apply pw_below_drewN | apply below_drew1 | refine below_set ?_ GE192.out) | exact HB.out)⟩⟩
 case round =>
  clear H'
  try clear p2
  try clear c3
  try clear hcz6_0
  try clear hfz6_0
  obtain ⟨x193000_1, u193000, HA, HK1, HO_193000, BK192, HB⟩ := hrel
  cases gk with
  | zero => exact absurd HA.out (by simp [impl_makeOrder.l0])
  | succ k1 =>
   have H := HA.out
   clear HA
   simp only [impl_makeOrder.l0] at H
   replace H := Option.bind_eq_some_iff.mp H
   obtain ⟨t193, A80, H⟩ := H
   replace H : (if t193 < 0 then (some x193000_1) else (if 0 ≤ t193 then (if t193 < (l0.length : Int) then (if x193000_1.length < 8796093022208 then (impl_makeOrder.l0 k1 l0 (x193000_1 ++ [(rd_T63 l0 t193).f0])) else (none)) else (none)) else (none))) = some r := H
   have A8 := Aside0.mk A80
   clear A80
   by_cases c9 : t193 < 0
   ·rw [if_pos c9] at H
    have c9b0 : decide (t193 < 0) = true := decide_eq_true c9
    clear c9
    obtain rfl := Option.some.inj H
    obtain ⟨Ao10, co10, eo10⟩ := Kd.R_slice HO_193000.out
    subst eo10
    go_wp2_with (first | ((with_reducible refine gate_callee (f := 76) rfl ?_); refine goesL_ (some 8) rfl rfl Try.func76 (by kernel_rfl) rfl #[.slice A0 l0.length c0, .func (.func 78) #[] #[.pointer (some ⟨gb192, 0, none⟩)]] rfl aE ?_; (with_reducible refine (slices_IndexFunc_w78.calls k1 _ _ l0 gb192 Ao10 co10 x193000_1 t193 _ ?side1 ?side2 ?side3 ?side4 ?side5 A8.out).mono ?_); (case side1 => exact cU (Kd.C_below HR0.out HB.out)); (case side2 => exact HC0.out); (case side3 => exact cU (Kd.R_reads' HO_193000.out).2.2); (case side4 => exact (Kd.R_reads' HO_193000.out).2.1); (case side5 => refine bU ?_; exact BK192.out); rintro e w11 ⟨rfl, hb⟩; refine ⟨_, rfl, ?_⟩; replace HO_193000 := Aside0.mk (Kd.R_below (rU HO_193000.out) hb); replace BK192 := bB (bV BK192) hb; replace HB := bH (lV1 GE192) hb; (try clear hb); have hcz12_0 := cz BK192 0 (.slice Ao10 x193000_1.length co10); have hfz12_0 := fz BK192 0))
    go_ret
    exact ⟨_, eE, by (with_reducible repeat (first | apply Kd.R_alloc | apply Kd.R_drewN | apply Kd.R_drew)); exact HO_193000.out, lV1 GE192⟩
   ·rw [if_neg c9] at H
    have c9b0 : decide (t193 < 0) = false := decide_eq_false c9
    clear c9
    by_cases c13 : 0 ≤ t193
    ·rw [if_pos c13] at H
     have c13b0 : decide (0 ≤ t193) = true := decide_eq_true c13
     clear c13
     by_cases c14 : t193 < (l0.length : Int)
     ·rw [if_pos c14] at H
      have c14b0 : decide (t193 < (l0.length : Int)) = true := decide_eq_true c14
      clear c14
      by_cases c15 : x193000_1.length < 8796093022208
      ·rw [if_pos c15] at H
       have LMc15 := Aside0.mk c15
       clear c15
       obtain ⟨y195, hy195⟩ : ∃ y_ : List ByteArray, y_ = (x193000_1 ++ [(rd_T63 l0 t193).f0]) := ⟨_, rfl⟩
       replace H : (impl_makeOrder.l0 k1 l0 y195) = some r := by first | (rw [hy195]; with_reducible exact H) | (have H2_ := (Option.bind_some _ _).symm.trans H; rw [hy195]; with_reducible exact H2_) | (have H2_ := (Option.bind_some _ _).symm.trans H; with_reducible exact H2_) | with_reducible exact H | (rw [hy195]; exact H) | exact H
       have Ny195 := Aside0.mk hy195
       clear hy195
       have H' := Aside0.mk H
       clear H
       obtain ⟨Ao16, co16, eo16⟩ := Kd.R_slice HO_193000.out
       subst eo16
       try go_wp2_with (first | ((with_reducible refine gate_callee (f := 76) rfl ?_); refine goesL_ (some 8) rfl rfl Try.func76 (by kernel_rfl) rfl #[.slice A0 l0.length c0, .func (.func 78) #[] #[.pointer (some ⟨gb192, 0, none⟩)]] rfl aE ?_; (with_reducible refine (slices_IndexFunc_w78.calls k1 _ _ l0 gb192 Ao16 co16 x193000_1 t193 _ ?side1 ?side2 ?side3 ?side4 ?side5 A8.out).mono ?_); (case side1 => exact cU (Kd.C_below HR0.out HB.out)); (case side2 => exact HC0.out); (case side3 => exact cU (Kd.R_reads' HO_193000.out).2.2); (case side4 => exact (Kd.R_reads' HO_193000.out).2.1); (case side5 => refine bU ?_; exact BK192.out); rintro e w17 ⟨rfl, hb⟩; refine ⟨_, rfl, ?_⟩; replace HO_193000 := Aside0.mk (Kd.R_below (rU HO_193000.out) hb); replace BK192 := bB (bV BK192) hb; replace HB := bH (lV1 GE192) hb; (try clear hb)))
       replace HO_193000 := Aside0.mk (Kd.R_drew HO_193000.out)
       replace BK192 := Aside0.mk (blk_drew BK192.out)
       replace HB := Aside0.mk (below_drew1 HB.out)
       have p194 : 0 ≤ (t193 : Int) := of_decide_eq_true hE
       have q194 : t193 < (l0.length : Int) := of_decide_eq_true hE
       obtain ⟨ad194, A194_1, c194_1, A194_2, c194_2, e194, hx194_0, hx194_1, hx194_2, hl194_1, hi194_1, hl194_2, hi194_2⟩ := at_T63 HR0.out t193 p194 q194
       have hw194_2 := hx194_2
       have hw194_1 := hx194_1
       have hw194_0 := hx194_0
       cases e194
       replace hx194_0 := (HB.out.cell (World.block_lt_of_cell? w _ hx194_0)).trans hx194_0
       replace hx194_1 := (HB.out.cell (World.block_lt_of_cell? w _ hx194_1)).trans hx194_1
       replace hx194_2 := (HB.out.cell (World.block_lt_of_cell? w _ hx194_2)).trans hx194_2
       have HR194_1 := Aside0.mk hi194_1
       have HC194_1 := Aside0.mk hl194_1
       clear hi194_1 hl194_1
       have HR194_2 := Aside0.mk hi194_2
       have HC194_2 := Aside0.mk hl194_2
       clear hi194_2 hl194_2
       replace p194 := eq_true p194
       replace q194 := eq_true q194
       refine start_ (n := 9) (S := fun w' => w'.cell? ⟨gb192, 0, none⟩ = some (.slice Ao16 x193000_1.length co16) ∧ w'.cell? (ad194.add ((t193).toNat * 3)) = some (.string ((rd_T63 l0 t193).f0)) ∧ w'.cell? ⟨(ad194.add ((t193).toNat * 3)).block, (ad194.add ((t193).toNat * 3)).off + 1, none⟩ = some (.slice A194_1 ((rd_T63 l0 t193).f1).length c194_1) ∧ w'.cell? ⟨(ad194.add ((t193).toNat * 3)).block, (ad194.add ((t193).toNat * 3)).off + 2, none⟩ = some (.slice A194_2 ((rd_T63 l0 t193).f2).length c194_2)) (ds := [8]) #[false, false, false, false, false, false, false, false, false] (by kernel_rfl) rfl rfl ⟨cz BK192 0 _, ((HB.out.cell (World.block_lt_of_cell? w _ hw194_0)).trans hw194_0), ((HB.out.cell (World.block_lt_of_cell? w _ hw194_1)).trans hw194_1), ((HB.out.cell (World.block_lt_of_cell? w _ hw194_2)).trans hw194_2)⟩ (fun hHeld => ?_); refine with_tabW impl_makeOrder.tab5 impl_makeOrder.bits5 (fun HT_ HW_ => ?_)
       generalize w17.drew = w18 at HO_193000 BK192 HB HR194_1 HR194_2 hx194_0 hx194_1 hx194_2 hHeld ⊢
       refine pureA 1 13 (bz 9 2) rfl rfl (any_of HT_.out (by kernel_rfl)) ?_
       refine pureA 2 14 (bz 9 6) rfl rfl (any_of HT_.out (by kernel_rfl)) ?_
       refine pureA 3 15 (bz 9 14) rfl rfl (any_of HT_.out (by kernel_rfl)) ?_
       refine pureA 4 16 (bz 9 30) rfl rfl (any_of HT_.out (by kernel_rfl)) ?_
       refine takeA 0 12 (bz 9 31) rfl rfl (take_ofW HT_.out HW_.out (by kernel_rfl)) hHeld (by rintro w' ⟨s0, s1, s2, s3⟩; go_simp; with_reducible rfl) ?_
       refine takeA 5 17 (bz 9 63) rfl rfl (take_ofW HT_.out HW_.out (by kernel_rfl)) hHeld (by rintro w' ⟨s0, s1, s2, s3⟩; go_simp; with_reducible rfl) ?_
       refine one_ (i := 6) (N := some 18) (bz 9 127) rfl rfl (one_of HT_.out (by kernel_rfl)) (by decide) (fun K hK => ?_)
       refine value_ (w1 := ?_) (v := ?_) (by rfl) rfl ?_ ?_
       rotate_left 2
       ·go_simp
        constructor
        ·rfl
        ·rfl
       refine hK.out _ _ ⟨(blk_cell (blk_alloc BK192.out _) 0).trans rfl, (World.cell?_alloc_lt _ _ _ (World.block_lt_of_cell? _ _ (((HB.out.cell (World.block_lt_of_cell? w _ hw194_0)).trans hw194_0)))).trans (((HB.out.cell (World.block_lt_of_cell? w _ hw194_0)).trans hw194_0)), (World.cell?_alloc_lt _ _ _ (World.block_lt_of_cell? _ _ (((HB.out.cell (World.block_lt_of_cell? w _ hw194_1)).trans hw194_1)))).trans (((HB.out.cell (World.block_lt_of_cell? w _ hw194_1)).trans hw194_1)), (World.cell?_alloc_lt _ _ _ (World.block_lt_of_cell? _ _ (((HB.out.cell (World.block_lt_of_cell? w _ hw194_2)).trans hw194_2)))).trans (((HB.out.cell (World.block_lt_of_cell? w _ hw194_2)).trans hw194_2))⟩ (fun hHeld => ?_)
       clear hK K
       refine norm_ (a' := ?_) ?_ ?_
       rotate_left
       ·show Act.put _ (some 18) _ = _
        simp only [Act.put, List.setIfInBounds_toArray, List.set_cons_zero, List.set_cons_succ, i64_w, i32_w]
        rfl
       refine one_ (i := 7) (N := some 19) (bz 9 255) rfl rfl (one_of HT_.out (by kernel_rfl)) (by decide) (fun K hK => ?_)
       refine Kd.R_append_step Kd.string (w0 := w) w.heap.size (by rfl) (.tmp 12) (.tmp 18) 29 9 (.string ⟨#[]⟩) 16 rfl Try.underlying29 info9 rfl (by decide) (by omega) (.slice Ao16 x193000_1.length co16) x193000_1 ((rd_T63 l0 t193).f0) [.string ((rd_T63 l0 t193).f0)] (fun _ => True) (fun _ => False) rfl rfl ?aP (fun _ hk => hk.elim) ?aF ?aO ?aB ?aS ?aL ?_
       (case aP => exact rfl)
       (case aB => exact (lV1 GE192))
       (case aF => exact (fun _ _ => trivial))
       (case aO => exact (rU HO_193000.out))
       (case aS => exact (below_size (lV1 GE192)))
       (case aL => have := LMc15.out; omega)
       intro v196 w19 ho hb hg hat
       rw [← Ny195.out] at ho
       replace BK192 := Aside0.mk (blk_grown (g := gb192) (o := .cells #[.slice Ao16 x193000_1.length co16] 29 (0, 0)) (bV BK192) hg (Kd.R_ne HO_193000.out BK192.out (by decide)))
       replace HB := Aside0.mk hb
       have HO197 := Aside0.mk ho
       clear HO_193000
       clear ho hb hg hat
       obtain ⟨Ao20, co20, eo20⟩ := Kd.R_slice HO197.out
       (first | subst eo20 | (injection eo20 with f1_ f2_ f3_; have f4_ := f1_.symm; have f5_ := f3_.symm; clear f1_ f2_ f3_; subst f4_; subst f5_))
       refine hK.out _ _ ⟨cz BK192 0 _, ((HB.out.cell (World.block_lt_of_cell? w _ hw194_0)).trans hw194_0), ((HB.out.cell (World.block_lt_of_cell? w _ hw194_1)).trans hw194_1), ((HB.out.cell (World.block_lt_of_cell? w _ hw194_2)).trans hw194_2)⟩ (fun hHeld => ?_)
       clear hK K
       refine norm_ (a' := ?_) ?_ ?_
       rotate_left
       ·show Act.put _ (some 19) _ = _
        simp only [Act.put, List.setIfInBounds_toArray, List.set_cons_zero, List.set_cons_succ, i64_w, i32_w]
        rfl
       refine last_ (i := 8) (N := none) (bz 9 511) rfl rfl (one_of HT_.out (by kernel_rfl)) (by decide) (fun K hK => ?_)
       have hs21 : w19.cell? ⟨gb192, 0, none⟩ = some (.slice Ao16 x193000_1.length co16) := (blk_cell BK192.out 0).trans rfl
       have hfs21 := blk_frozen BK192.out 0
       refine skip_ (w1 := ?_) (by rfl) rfl ?_ ?_
       rotate_left
       ·go_simp
        rfl
       refine hK.out _ _ ?_
       clear hK K
       refine done_ (done_of HT_.out (by kernel_rfl)) ?_
       try go_wp2
       go_roundg k1
       case measure => have := HK1.out; omega
       case rel => exact ⟨(y195), (.slice Ao20 y195.length co20), H', ⟨by have := HK1.out; omega⟩, ⟨by (with_reducible repeat (first | apply Kd.R_alloc | apply Kd.R_drewN | apply Kd.R_drew)); exact Kd.R_mono (Kd.R_far (p := ⟨gb192, 0, none⟩) (Kd.R_types HO197.out BK192.out (by decide)) (fun _ hk => hk.2) (.slice Ao20 y195.length co20)) (fun _ hk => trivial)⟩, ⟨by refine bU ?_; refine blk_put (cs := #[.slice Ao16 x193000_1.length co16]) ?_ 0 _ rfl; refine bU ?_; exact BK192.out⟩, ⟨by repeat (first | (with_reducible first | exact HB.out | apply below_alloc | apply pw_below_drewN | apply below_drew1 | refine below_set ?_ GE192.out) | exact HB.out)⟩⟩
      ·rw [if_neg c15] at H
       exact absurd H (by simp)
     ·rw [if_neg c14] at H
      exact absurd H (by simp)
    ·rw [if_neg c13] at H
     exact absurd H (by simp)
def slices_IndexFunc_w37.l0 : Nat → List ByteArray → Int → Int → List (S63) → Option (Int)
 | 0, _, _, _, _ => none
 | k + 1, x0, x7, x8, x29000 => if x8 < x7 then (if 0 ≤ x8 then (if x8 < (x0.length : Int) then ((impl_GoodAssets_1.f k (rdOf ByteArray.empty x0 x8) x29000).bind fun t199 => (if t199 = true then (some x8) else (slices_IndexFunc_w37.l0 k x0 x7 (wrap64 (x8 + 1)) x29000))) else (none)) else (none)) else (some (-1))
def slices_IndexFunc_w37.f (k : Nat) (l0 : List ByteArray) (l1_0_0 : List (S63)) : Option (Int) := slices_IndexFunc_w37.l0 k l0 (l0.length : Int) 0 l1_0_0
theorem slices_IndexFunc_w37.mono_l : ∀ k, (∀ y0 y1 y2 y3, LeO (slices_IndexFunc_w37.l0 k y0 y1 y2 y3) (slices_IndexFunc_w37.l0 (k + 1) y0 y1 y2 y3))
 | 0 => fun _ _ _ _ r h => by simp [slices_IndexFunc_w37.l0] at h
 | k + 1 => by
  have ih0 := slices_IndexFunc_w37.mono_l k
  ·intro y0 y1 y2 y3
   unfold slices_IndexFunc_w37.l0
   repeat' first
   | (with_reducible exact ih0 _ _ _ _)
   | (with_reducible exact impl_GoodAssets_1.mono _ _ _)
   | (with_reducible exact LeO.refl _)
   | (with_reducible exact LeO.none _)
   | (with_reducible refine LeO.ite ?_ ?_)
   | (with_reducible refine LeO.bind ?_ (fun _ => ?_))
   | exact ih0 _ _ _ _
   | exact impl_GoodAssets_1.mono _ _ _
   | exact LeO.none _
   | refine LeO.ite ?_ ?_
   | refine LeO.bind ?_ (fun _ => ?_)
theorem slices_IndexFunc_w37.mono : ∀ a0 a1 k, LeO (slices_IndexFunc_w37.f k a0 a1) (slices_IndexFunc_w37.f (k + 1) a0 a1) := by
 intro a0 a1 k
 have ih0 := slices_IndexFunc_w37.mono_l k
 unfold slices_IndexFunc_w37.f
 repeat' first
   | (with_reducible exact ih0 _ _ _ _)
   | (with_reducible exact impl_GoodAssets_1.mono _ _ _)
   | (with_reducible exact LeO.refl _)
   | (with_reducible exact LeO.none _)
   | (with_reducible refine LeO.ite ?_ ?_)
   | (with_reducible refine LeO.bind ?_ (fun _ => ?_))
   | exact ih0 _ _ _ _
   | exact impl_GoodAssets_1.mono _ _ _
   | exact LeO.none _
   | refine LeO.ite ?_ ?_
   | refine LeO.bind ?_ (fun _ => ?_)
set_option maxHeartbeats 8000000 in
set_option maxRecDepth 100000 in
theorem slices_IndexFunc_w37.calls (k : Nat) (A0 : Option Addr) (c0 : Nat) (l0 : List ByteArray) (gb28 : Nat) (A1_0_0 : Option Addr) (c1_0_0 : Nat) (l1_0_0 : List (S63)) (r : Int) (w : World) (hr0 : Kd.C Kd.string w A0 l0.length l0) (hc0 : l0.length ≤ c0) (hr1_0_0 : Kd.C k63 w A1_0_0 l1_0_0.length l1_0_0) (hc1_0_0 : l1_0_0.length ≤ c1_0_0) (hk28 : w.heap[gb28]? = some (.cells #[.slice A1_0_0 l1_0_0.length c1_0_0] 25 (0, 0))) (h : slices_IndexFunc_w37.f k l0 l1_0_0 = some r) :
  Calls Try.prog 75 #[.slice A0 l0.length c0, .func (.func 37) #[] #[.pointer (some ⟨gb28, 0, none⟩)]] w fun e w' => e = .returned (.int .i64 r) ∧ Below w.heap.size w w' := by
 have HR0 := Aside0.mk hr0
 have HC0 := Aside0.mk hc0
 clear hr0 hc0
 have HR1_0_0 := Aside0.mk hr1_0_0
 have HC1_0_0 := Aside0.mk hc1_0_0
 clear hr1_0_0 hc1_0_0
 have BK28 := Aside0.mk hk28
 clear hk28
 have HB := Aside0.mk (Below.refl w.heap.size w)
 have H : (slices_IndexFunc_w37.l0 k l0 (l0.length : Int) 0 l1_0_0) = some r := h
 clear h
 have H' := Aside0.mk H
 clear H
 go_enter Try.func75, Try.ntmps75
 go_wp2
 go_loopg [8] k (fun kq v8 w' => ∃ (x8_1 : Int), v8 = .int .i64 x8_1 ∧ Aside0 (slices_IndexFunc_w37.l0 kq l0 (l0.length : Int) x8_1 l1_0_0 = some r) ∧ Aside0 (kq ≤ k) ∧ Aside0 (w'.heap[gb28]? = some (.cells #[(.slice A1_0_0 l1_0_0.length c1_0_0)] 25 (0, 0))) ∧ Aside0 (Below w.heap.size w w'))
 case atStart => exact ⟨(0), tE, H', ⟨Nat.le_refl _⟩, ⟨by refine bU ?_; exact BK28.out⟩, ⟨by repeat (first | (with_reducible first | exact HB.out | apply below_alloc | apply pw_below_drewN | apply below_drew1) | exact HB.out)⟩⟩
 case round =>
  clear H'
  try clear c1
  try clear p2
  obtain ⟨x8_1, rfl, HA, HK1, BK28, HB⟩ := hrel
  cases gk with
  | zero => exact absurd HA.out (by simp [slices_IndexFunc_w37.l0])
  | succ k1 =>
   have H := HA.out
   clear HA
   simp only [slices_IndexFunc_w37.l0] at H
   by_cases c3 : x8_1 < (l0.length : Int)
   ·rw [if_pos c3] at H
    have c3b0 : decide (x8_1 < (l0.length : Int)) = true := decide_eq_true c3
    clear c3
    by_cases c4 : 0 ≤ x8_1
    ·rw [if_pos c4] at H
     have c4b0 : decide (0 ≤ x8_1) = true := decide_eq_true c4
     clear c4
     by_cases c5 : x8_1 < (l0.length : Int)
     ·rw [if_pos c5] at H
      have c5b0 : decide (x8_1 < (l0.length : Int)) = true := decide_eq_true c5
      clear c5
      replace H := Option.bind_eq_some_iff.mp H
      obtain ⟨t199, A60, H⟩ := H
      replace H : (if t199 = true then (some x8_1) else (slices_IndexFunc_w37.l0 k1 l0 (l0.length : Int) (wrap64 (x8_1 + 1)) l1_0_0)) = some r := H
      have A6 := Aside0.mk A60
      clear A60
      by_cases c7 : t199 = true
      ·subst c7
       have H1 : (some x8_1) = some r := by rw [if_pos rfl] at H; exact H
       clear H
       have H := H1
       clear H1
       obtain rfl := Option.some.inj H
       have p198 : 0 ≤ (x8_1 : Int) := of_decide_eq_true hE
       have q198 : x8_1 < (l0.length : Int) := of_decide_eq_true hE
       obtain ⟨ad198, e198, hx198_0⟩ := Kd.at_string HR0.out x8_1 p198 q198
       cases e198
       replace hx198_0 := (HB.out.cell (World.block_lt_of_cell? w _ hx198_0)).trans hx198_0
       replace p198 := eq_true p198
       replace q198 := eq_true q198
       go_wp2_with (first | ((with_reducible refine gateD_ rfl ?_); refine goesC_ (some 16) rfl rfl Try.func37 (by kernel_rfl) rfl rfl rfl #[.string (rdOf ByteArray.empty l0 x8_1), .pointer (some ⟨gb28, 0, none⟩)] aE ?_; (with_reducible refine (impl_GoodAssets_1.calls k1 (rdOf ByteArray.empty l0 x8_1) gb28 A1_0_0 c1_0_0 l1_0_0 true _ ?side1 ?side2 ?side3 A6.out).mono ?_); (case side1 => exact cU (Kd.C_below HR1_0_0.out HB.out)); (case side2 => exact HC1_0_0.out); (case side3 => refine bU ?_; exact BK28.out); rintro e w8 ⟨rfl, hb⟩; refine ⟨_, rfl, ?_⟩; replace BK28 := bB (bV BK28) hb; replace HB := bH (lU) hb; (try clear hb)))
       go_ret
       exact ⟨eE, lU⟩
      ·replace c7 := Bool.eq_false_iff.mpr c7
       subst c7
       have H1 : (slices_IndexFunc_w37.l0 k1 l0 (l0.length : Int) (wrap64 (x8_1 + 1)) l1_0_0) = some r := by rw [if_neg (show ¬ (false = true) by decide)] at H; exact H
       clear H
       have H := H1
       clear H1
       have H' := Aside0.mk H
       clear H
       have p198 : 0 ≤ (x8_1 : Int) := of_decide_eq_true hE
       have q198 : x8_1 < (l0.length : Int) := of_decide_eq_true hE
       obtain ⟨ad198, e198, hx198_0⟩ := Kd.at_string HR0.out x8_1 p198 q198
       cases e198
       replace hx198_0 := (HB.out.cell (World.block_lt_of_cell? w _ hx198_0)).trans hx198_0
       replace p198 := eq_true p198
       replace q198 := eq_true q198
       go_wp2_with (first | ((with_reducible refine gateD_ rfl ?_); refine goesC_ (some 16) rfl rfl Try.func37 (by kernel_rfl) rfl rfl rfl #[.string (rdOf ByteArray.empty l0 x8_1), .pointer (some ⟨gb28, 0, none⟩)] aE ?_; (with_reducible refine (impl_GoodAssets_1.calls k1 (rdOf ByteArray.empty l0 x8_1) gb28 A1_0_0 c1_0_0 l1_0_0 false _ ?side1 ?side2 ?side3 A6.out).mono ?_); (case side1 => exact cU (Kd.C_below HR1_0_0.out HB.out)); (case side2 => exact HC1_0_0.out); (case side3 => refine bU ?_; exact BK28.out); rintro e w9 ⟨rfl, hb⟩; refine ⟨_, rfl, ?_⟩; replace BK28 := bB (bV BK28) hb; replace HB := bH (lU) hb; (try clear hb)))
       go_roundg k1
       case measure => have := HK1.out; omega
       case rel => exact ⟨(wrap64 (x8_1 + 1)), tE, H', ⟨by have := HK1.out; omega⟩, ⟨by refine bU ?_; exact BK28.out⟩, ⟨by repeat (first | (with_reducible first | exact HB.out | apply below_alloc | apply pw_below_drewN | apply below_drew1) | exact HB.out)⟩⟩
     ·rw [if_neg c5] at H
      exact absurd H (by simp)
    ·rw [if_neg c4] at H
     exact absurd H (by simp)
   ·rw [if_neg c3] at H
    have c3b0 : decide (x8_1 < (l0.length : Int)) = false := decide_eq_false c3
    clear c3
    obtain rfl := Option.some.inj H
    go_wp2
    go_ret
    exact ⟨eE, lU⟩
def slices_ContainsFunc_w37.f (k : Nat) (l0 : List ByteArray) (l1_0_0 : List (S63)) : Option (Bool) := (slices_IndexFunc_w37.f k l0 l1_0_0).bind fun t200 => (some (decide (t200 ≥ 0)))
theorem slices_ContainsFunc_w37.mono : ∀ a0 a1 k, LeO (slices_ContainsFunc_w37.f k a0 a1) (slices_ContainsFunc_w37.f (k + 1) a0 a1) := by
 intro a0 a1 k
 unfold slices_ContainsFunc_w37.f
 repeat' first
   | (with_reducible exact slices_IndexFunc_w37.mono _ _ _)
   | (with_reducible exact LeO.refl _)
   | (with_reducible exact LeO.none _)
   | (with_reducible refine LeO.ite ?_ ?_)
   | (with_reducible refine LeO.bind ?_ (fun _ => ?_))
   | exact slices_IndexFunc_w37.mono _ _ _
   | exact LeO.none _
   | refine LeO.ite ?_ ?_
   | refine LeO.bind ?_ (fun _ => ?_)
set_option maxHeartbeats 8000000 in
set_option maxRecDepth 100000 in
theorem slices_ContainsFunc_w37.calls (k : Nat) (A0 : Option Addr) (c0 : Nat) (l0 : List ByteArray) (gb28 : Nat) (A1_0_0 : Option Addr) (c1_0_0 : Nat) (l1_0_0 : List (S63)) (r : Bool) (w : World) (hr0 : Kd.C Kd.string w A0 l0.length l0) (hc0 : l0.length ≤ c0) (hr1_0_0 : Kd.C k63 w A1_0_0 l1_0_0.length l1_0_0) (hc1_0_0 : l1_0_0.length ≤ c1_0_0) (hk28 : w.heap[gb28]? = some (.cells #[.slice A1_0_0 l1_0_0.length c1_0_0] 25 (0, 0))) (h : slices_ContainsFunc_w37.f k l0 l1_0_0 = some r) :
  Calls Try.prog 36 #[.slice A0 l0.length c0, .func (.func 37) #[] #[.pointer (some ⟨gb28, 0, none⟩)]] w fun e w' => e = .returned (.bool r) ∧ Below w.heap.size w w' := by
 have HR0 := Aside0.mk hr0
 have HC0 := Aside0.mk hc0
 clear hr0 hc0
 have HR1_0_0 := Aside0.mk hr1_0_0
 have HC1_0_0 := Aside0.mk hc1_0_0
 clear hr1_0_0 hc1_0_0
 have BK28 := Aside0.mk hk28
 clear hk28
 have HB := Aside0.mk (Below.refl w.heap.size w)
 have H : ((slices_IndexFunc_w37.f k l0 l1_0_0).bind fun t200 => (some (decide (t200 ≥ 0)))) = some r := h
 clear h
 replace H := Option.bind_eq_some_iff.mp H
 obtain ⟨t200, A30, H⟩ := H
 replace H : (some (decide (t200 ≥ 0))) = some r := H
 have A3 := Aside0.mk A30
 clear A30
 obtain rfl := Option.some.inj H
 go_enter Try.func36, Try.ntmps36
 go_wp2_with (first | ((with_reducible refine gate_callee (f := 75) rfl ?_); refine goesL_ (some 7) rfl rfl Try.func75 (by kernel_rfl) rfl #[.slice A0 l0.length c0, .func (.func 37) #[] #[.pointer (some ⟨gb28, 0, none⟩)]] rfl aE ?_; (with_reducible refine (slices_IndexFunc_w37.calls k _ _ l0 gb28 A1_0_0 c1_0_0 l1_0_0 t200 _ ?side1 ?side2 ?side3 ?side4 ?side5 A3.out).mono ?_); (case side1 => repeat (first | exact HR0.out | (with_reducible refine Kd.C_alloc ?_ _) | (with_reducible refine Kd.C_drewN ?_ _) | (with_reducible refine Kd.C_drew ?_))); (case side2 => exact HC0.out); (case side3 => repeat (first | exact HR1_0_0.out | (with_reducible refine Kd.C_alloc ?_ _) | (with_reducible refine Kd.C_drewN ?_ _) | (with_reducible refine Kd.C_drew ?_))); (case side4 => exact HC1_0_0.out); (case side5 => refine bU ?_; exact BK28.out); rintro e w4 ⟨rfl, hb⟩; refine ⟨_, rfl, ?_⟩; replace BK28 := bB (bV BK28) hb; replace HB := bH (lU) hb; (try clear hb)))
 go_ret
 exact ⟨eE, lU⟩
end Go.Proofs.Ytifejplilaefiaa.PFnExactGoodAssets
namespace Go.Proofs.Ytifejplilaefiaa.PFnExactGoodAssets
open Go.RowKit Go.Proofs.YtifejplilaefiaaW.PrintWords Go.Proofs.YtifejplilaefiaaW.PrintLast Go.Proofs.YtifejplilaefiaaW.PrintMore
attribute [local go_sem] max2_int min2_int max_two min_two max_three min_three max_four min_four   -- for this text's walks alone
set_option linter.unusedVariables false
set_option linter.unusedSimpArgs false
mutual
def impl_GoodAssets.l0 : Nat → List (S63) → Int → Int → List (S63) → Option (Bool)
 | 0, _, _, _, _ => none
 | k + 1, x5, x6, x7, x202000 => if x7 < x6 then (if 0 ≤ x7 then (if x7 < (x5.length : Int) then ((impl_GoodName.f k ((rd_T63 x5 x7).f0)).bind fun t207 => (if t207 = true then (if x7 > 0 then (if 0 ≤ (wrap64 (x7 - 1)) then (if (wrap64 (x7 - 1)) < (x202000.length : Int) then (if ((Op.bytesLess (((rd_T63 x202000 (wrap64 (x7 - 1))).f0).toList) (((rd_T63 x5 x7).f0).toList)) = true) then ((impl_areNames.f k ((rd_T63 x5 x7).f1)).bind fun t209 => (if t209 = true then (if (((rd_T63 x5 x7).f1).length : Int) > 10 then (impl_GoodAssets.j1 k x5 x6 x7 true x202000 ((rd_T63 x5 x7).f0) ((rd_T63 x5 x7).f1) ((rd_T63 x5 x7).f2)) else (impl_GoodAssets.j1 k x5 x6 x7 (decide ((((rd_T63 x5 x7).f2).length : Int) > 400)) x202000 ((rd_T63 x5 x7).f0) ((rd_T63 x5 x7).f1) ((rd_T63 x5 x7).f2))) else (impl_GoodAssets.j1 k x5 x6 x7 true x202000 ((rd_T63 x5 x7).f0) ((rd_T63 x5 x7).f1) ((rd_T63 x5 x7).f2)))) else (impl_GoodAssets.j1 k x5 x6 x7 true x202000 ((rd_T63 x5 x7).f0) ((rd_T63 x5 x7).f1) ((rd_T63 x5 x7).f2))) else (none)) else (none)) else ((impl_areNames.f k ((rd_T63 x5 x7).f1)).bind fun t210 => (if t210 = true then (if (((rd_T63 x5 x7).f1).length : Int) > 10 then (impl_GoodAssets.j1 k x5 x6 x7 true x202000 ((rd_T63 x5 x7).f0) ((rd_T63 x5 x7).f1) ((rd_T63 x5 x7).f2)) else (impl_GoodAssets.j1 k x5 x6 x7 (decide ((((rd_T63 x5 x7).f2).length : Int) > 400)) x202000 ((rd_T63 x5 x7).f0) ((rd_T63 x5 x7).f1) ((rd_T63 x5 x7).f2))) else (impl_GoodAssets.j1 k x5 x6 x7 true x202000 ((rd_T63 x5 x7).f0) ((rd_T63 x5 x7).f1) ((rd_T63 x5 x7).f2))))) else (impl_GoodAssets.j1 k x5 x6 x7 true x202000 ((rd_T63 x5 x7).f0) ((rd_T63 x5 x7).f1) ((rd_T63 x5 x7).f2)))) else (none)) else (none)) else (if (x202000.length : Int) ≤ 30 then ((impl_makeOrder.f k x202000).bind fun t202 => (some ((t202.length : Int) == (x202000.length : Int)))) else (some false))
def impl_GoodAssets.j1 : Nat → List (S63) → Int → Int → Bool → List (S63) → ByteArray → List ByteArray → List Int → Option (Bool)
 | 0, _, _, _, _, _, _, _, _ => none
 | k + 1, x5, x6, x7, x48, x202000, x207000, x207001, x207002 => if x48 = true then (some false) else ((slices_ContainsFunc_w37.f k x207001 x202000).bind fun t211 => (if t211 = true then (some false) else (impl_GoodAssets.l0 k x5 x6 (wrap64 (x7 + 1)) x202000)))
end
def impl_GoodAssets.f (k : Nat) (l0 : List (S63)) : Option (Bool) := impl_GoodAssets.l0 k l0 (l0.length : Int) 0 l0
theorem impl_GoodAssets.mono_l : ∀ k, (∀ y0 y1 y2 y3, LeO (impl_GoodAssets.l0 k y0 y1 y2 y3) (impl_GoodAssets.l0 (k + 1) y0 y1 y2 y3)) ∧ (∀ y0 y1 y2 y3 y4 y5 y6 y7, LeO (impl_GoodAssets.j1 k y0 y1 y2 y3 y4 y5 y6 y7) (impl_GoodAssets.j1 (k + 1) y0 y1 y2 y3 y4 y5 y6 y7))
 | 0 => ⟨fun _ _ _ _ r h => by simp [impl_GoodAssets.l0] at h, fun _ _ _ _ _ _ _ _ r h => by simp [impl_GoodAssets.j1] at h⟩
 | k + 1 => by
  obtain ⟨ih0, ih1⟩ := impl_GoodAssets.mono_l k
  refine ⟨?_, ?_⟩
  ·intro y0 y1 y2 y3
   unfold impl_GoodAssets.l0
   repeat' first
   | (with_reducible exact ih0 _ _ _ _)
   | (with_reducible exact ih1 _ _ _ _ _ _ _ _)
   | (with_reducible exact impl_GoodName.mono _ _)
   | (with_reducible exact impl_areNames.mono _ _)
   | (with_reducible exact impl_makeOrder.mono _ _)
   | (with_reducible exact slices_ContainsFunc_w37.mono _ _ _)
   | (with_reducible exact LeO.refl _)
   | (with_reducible exact LeO.none _)
   | (with_reducible refine LeO.ite ?_ ?_)
   | (with_reducible refine LeO.bind ?_ (fun _ => ?_))
   | exact ih0 _ _ _ _
   | exact ih1 _ _ _ _ _ _ _ _
   | exact impl_GoodName.mono _ _
   | exact impl_areNames.mono _ _
   | exact impl_makeOrder.mono _ _
   | exact slices_ContainsFunc_w37.mono _ _ _
   | exact LeO.none _
   | refine LeO.ite ?_ ?_
   | refine LeO.bind ?_ (fun _ => ?_)
  ·intro y0 y1 y2 y3 y4 y5 y6 y7
   unfold impl_GoodAssets.j1
   repeat' first
   | (with_reducible exact ih0 _ _ _ _)
   | (with_reducible exact ih1 _ _ _ _ _ _ _ _)
   | (with_reducible exact impl_GoodName.mono _ _)
   | (with_reducible exact impl_areNames.mono _ _)
   | (with_reducible exact impl_makeOrder.mono _ _)
   | (with_reducible exact slices_ContainsFunc_w37.mono _ _ _)
   | (with_reducible exact LeO.refl _)
   | (with_reducible exact LeO.none _)
   | (with_reducible refine LeO.ite ?_ ?_)
   | (with_reducible refine LeO.bind ?_ (fun _ => ?_))
   | exact ih0 _ _ _ _
   | exact ih1 _ _ _ _ _ _ _ _
   | exact impl_GoodName.mono _ _
   | exact impl_areNames.mono _ _
   | exact impl_makeOrder.mono _ _
   | exact slices_ContainsFunc_w37.mono _ _ _
   | exact LeO.none _
   | refine LeO.ite ?_ ?_
   | refine LeO.bind ?_ (fun _ => ?_)
theorem impl_GoodAssets.mono : ∀ a0 k, LeO (impl_GoodAssets.f k a0) (impl_GoodAssets.f (k + 1) a0) := by
 intro a0 k
 obtain ⟨ih0, ih1⟩ := impl_GoodAssets.mono_l k
 unfold impl_GoodAssets.f
 repeat' first
   | (with_reducible exact ih0 _ _ _ _)
   | (with_reducible exact ih1 _ _ _ _ _ _ _ _)
   | (with_reducible exact impl_GoodName.mono _ _)
   | (with_reducible exact impl_areNames.mono _ _)
   | (with_reducible exact impl_makeOrder.mono _ _)
   | (with_reducible exact slices_ContainsFunc_w37.mono _ _ _)
   | (with_reducible exact LeO.refl _)
   | (with_reducible exact LeO.none _)
   | (with_reducible refine LeO.ite ?_ ?_)
   | (with_reducible refine LeO.bind ?_ (fun _ => ?_))
   | exact ih0 _ _ _ _
   | exact ih1 _ _ _ _ _ _ _ _
   | exact impl_GoodName.mono _ _
   | exact impl_areNames.mono _ _
   | exact impl_makeOrder.mono _ _
   | exact slices_ContainsFunc_w37.mono _ _ _
   | exact LeO.none _
   | refine LeO.ite ?_ ?_
   | refine LeO.bind ?_ (fun _ => ?_)
def impl_GoodAssets.T4 : Bool × List (List Nat × List Nat) := (true, [([], []), ([0], [0]), ([1], [1]), ([2], [2]), ([3, 2], [3]), ([4], [4]), ([5, 4], [4, 5]), ([6, 4, 4], [4, 6]), ([7], [7]), ([7], [7]), ([9, 7], [7, 9]), ([8, 10, 7], [7, 8, 10]), ([11, 7], [7, 11]), ([12, 7], [7, 12]), ([7], [7]), ([14, 7], [7, 14]), ([13, 15, 7], [7, 13, 15]), ([7, 16, 4], [4, 7, 16]), ([4, 17], [4, 17]), ([18, 7], [18]), ([19], [19]), ([20, 19], [19, 20]), ([21, 19, 19], [19, 21]), ([22, 19], [19, 22]), ([19, 23], [19, 23]), ([24, 22], [24]), ([25], [25]), ([26, 25], [25, 26]), ([27, 25], [25, 27]), ([28, 25], [25, 28]), ([25, 29], [25, 29]), ([30, 25], [30]), ([31], [31]), ([32, 31], [31, 32]), ([33, 31], [31, 33]), ([34, 31], [31, 34]), ([31, 35], [31, 35])])
def impl_GoodAssets.B4 : List Nat := [0, 1, 3, 7, 15, 31, 63, 127, 255, 255, 767, 2047, 4095, 8191, 255, 16639, 65535, 131071, 262143, 524287, 1048575, 2097151, 4194303, 8388607, 16777215, 33554431, 67108863, 134217727, 268435455, 536870911, 1073741823, 2147483647, 4294967295, 8589934591, 17179869183, 34359738367, 68719476735]
theorem impl_GoodAssets.tab4 : rtab .any (opsOf Try.f10 4) = impl_GoodAssets.T4 := by kernel_rfl
theorem impl_GoodAssets.bits4 : waitsOk impl_GoodAssets.T4.2 impl_GoodAssets.B4 = true := by kernel_rfl
def impl_GoodAssets.T9 : Bool × List (List Nat × List Nat) := (true, [([], []), ([0], [0]), ([1], [1]), ([2], [2]), ([3], [3]), ([4, 3, 3], [3, 4]), ([5, 3], [3, 5]), ([3], [3]), ([7, 3], [3, 7]), ([6, 8, 3], [3, 6, 8]), ([3, 9], [3, 9]), ([10, 5, 0, 1, 2, 3, 4, 5, 6, 7, 8, 9, 10], [10])])
def impl_GoodAssets.B9 : List Nat := [0, 1, 3, 7, 15, 31, 63, 15, 143, 511, 1023, 2047]
theorem impl_GoodAssets.tab9 : rtab .any (opsOf Try.f10 9) = impl_GoodAssets.T9 := by kernel_rfl
theorem impl_GoodAssets.bits9 : waitsOk impl_GoodAssets.T9.2 impl_GoodAssets.B9 = true := by kernel_rfl
set_option maxHeartbeats 8000000 in
set_option maxRecDepth 100000 in
theorem impl_GoodAssets.calls (k : Nat) (A0 : Option Addr) (c0 : Nat) (l0 : List (S63)) (r : Bool) (w : World) (hr0 : Kd.C k63 w A0 l0.length l0) (hc0 : l0.length ≤ c0) (h : impl_GoodAssets.f k l0 = some r) :
  Calls Try.prog 10 #[.slice A0 l0.length c0] w fun e w' => e = .returned (.bool r) ∧ Below w.heap.size w w' := by
 have hu25 := Try.underlying25
 have hu63 := Try.underlying63
 have HR0 := Aside0.mk hr0
 have HC0 := Aside0.mk hc0
 clear hr0 hc0
 have HB := Aside0.mk (Below.refl w.heap.size w)
 have H : (impl_GoodAssets.l0 k l0 (l0.length : Int) 0 l0) = some r := h
 clear h
 have H' := Aside0.mk H
 clear H
 go_enter Try.func10, Try.ntmps10
 go_wp2_with (first | ((with_reducible refine gate_dst (N := 1) rfl ?_); (try (refine gate_guard (by rfl) ?_; dsimp only)); refine box_event rfl (N := 1) rfl (cs := #[.slice A0 l0.length c0]) (t := 25) sE ?_; intro gb201 hg w2 hbox hb; have BK201 := Aside0.mk hbox; have GW201 := gS w hg (lU); have GE201 := gS w hg (lU); replace HB := bH (lU) hb; clear hb hbox hg; have hcz3_0 := cz BK201 0 (.slice A0 l0.length c0); have hfz3_0 := fz BK201 0))
 (try simp only [Act.put, List.setIfInBounds_toArray, List.set_cons_zero, List.set_cons_succ])
 go_loopg [7] k (fun kq v7 w' => ∃ (x7_1 : Int), v7 = .int .i64 x7_1 ∧ Aside0 (impl_GoodAssets.l0 kq l0 (l0.length : Int) x7_1 l0 = some r) ∧ Aside0 (kq ≤ k) ∧ Aside0 (w'.heap[gb201]? = some (.cells #[(.slice A0 l0.length c0)] 25 (0, 0))) ∧ Aside0 (Below w.heap.size w w'))
 case atStart => exact ⟨(0), tE, H', ⟨Nat.le_refl _⟩, ⟨by refine bU ?_; exact BK201.out⟩, ⟨by repeat (first | (with_reducible first | exact HB.out | apply below_alloc | apply pw_below_drewN | apply below_drew1 | refine below_set ?_ GE201.out) | exact HB.out)⟩⟩
 case round =>
  clear H'
  try clear c1
  try clear p2
  try clear hcz3_0
  try clear hfz3_0
  obtain ⟨x7_1, rfl, HA, HK1, BK201, HB⟩ := hrel
  cases gk with
  | zero => exact absurd HA.out (by simp [impl_GoodAssets.l0])
  | succ k1 =>
   have H := HA.out
   clear HA
   simp only [impl_GoodAssets.l0] at H
   by_cases c4 : x7_1 < (l0.length : Int)
   ·rw [if_pos c4] at H
    have c4b0 : decide (x7_1 < (l0.length : Int)) = true := decide_eq_true c4
    clear c4
    by_cases c5 : 0 ≤ x7_1
    ·rw [if_pos c5] at H
     have c5b0 : decide (0 ≤ x7_1) = true := decide_eq_true c5
     clear c5
     by_cases c6 : x7_1 < (l0.length : Int)
     ·rw [if_pos c6] at H
      have c6b0 : decide (x7_1 < (l0.length : Int)) = true := decide_eq_true c6
      clear c6
      have HC7 := Aside0.mk H
      clear H
      have p205 : 0 ≤ (x7_1 : Int) := of_decide_eq_true hE
      have q205 : x7_1 < (l0.length : Int) := of_decide_eq_true hE
      obtain ⟨ad205, A205_1, c205_1, A205_2, c205_2, e205, hx205_0, hx205_1, hx205_2, hl205_1, hi205_1, hl205_2, hi205_2⟩ := at_T63 HR0.out x7_1 p205 q205
      cases e205
      replace hx205_0 := (HB.out.cell (World.block_lt_of_cell? w _ hx205_0)).trans hx205_0
      replace hx205_1 := (HB.out.cell (World.block_lt_of_cell? w _ hx205_1)).trans hx205_1
      replace hx205_2 := (HB.out.cell (World.block_lt_of_cell? w _ hx205_2)).trans hx205_2
      have HR205_1 := Aside0.mk hi205_1
      have HC205_1 := Aside0.mk hl205_1
      clear hi205_1 hl205_1
      have HR205_2 := Aside0.mk hi205_2
      have HC205_2 := Aside0.mk hl205_2
      clear hi205_2 hl205_2
      replace p205 := eq_true p205
      replace q205 := eq_true q205
      go_upto_region 4 with (first | ((with_reducible refine gate_dst (N := 4) rfl ?_); (try (refine gate_guard (by rfl) ?_; dsimp only)); refine box_event rfl (N := 4) rfl (cs := #[.string (⟨#[]⟩ : ByteArray), .slice none 0 0, .slice none 0 0]) (t := 63) sE ?_; intro gb206 hg w8 hbox hb; have BK206 := Aside0.mk hbox; have GW206 := gS w hg (lV1 GE201); have GE206 := gS w hg (lV1 GE201); replace HB := bH (lV1 GE201) hb; have NB201_206 := nL hg (bV BK201); have NB206_201 := nG hg (bV BK201); replace BK201 := bB (bV BK201) hb; clear hb hbox hg; have hnb9 := NB206_201.out; have hnc9 := NB201_206.out; have hcz10_0 := cz BK206 0 (.string (⟨#[]⟩ : ByteArray)); have hcz10_1 := cz BK206 1 (.slice none 0 0); have hcz10_2 := cz BK206 2 (.slice none 0 0); have hfz10_0 := fz BK206 0; have hfz10_1 := fz BK206 1; have hfz10_2 := fz BK206 2) | ((with_reducible refine gate_store (t := 63) (p := 4) rfl ?_); refine store_event (t := 63) (p := 4) (v := ?vo_w11) (w1 := (((w8.setCell ⟨gb206, 0, none⟩ (.string ((rd_T63 l0 x7_1).f0))).setCell ⟨gb206, 1, none⟩ (.slice A205_1 ((rd_T63 l0 x7_1).f1).length c205_1)).setCell ⟨gb206, 2, none⟩ (.slice A205_2 ((rd_T63 l0 x7_1).f2).length c205_2))) ?hg ?ho ?hn ?hr ?_; (case ho => rfl); (case hg => rfl); (case hn => rfl); (case hr => first | (go_simp; done) | (go_simp; rfl) | (have hq0_ := (blk_cell BK206.out 0).trans (show _ = some _ from rfl); have hf0_ := blk_frozen BK206.out 0; have hq1_ := (blk_cell BK206.out 1).trans (show _ = some _ from rfl); have hf1_ := blk_frozen BK206.out 1; have hq2_ := (blk_cell BK206.out 2).trans (show _ = some _ from rfl); have hf2_ := blk_frozen BK206.out 2; first | (go_simp; done) | (go_simp; rfl))); intro w11 hw; replace BK201 : Aside0 (w11.heap[gb201]? = some (.cells #[.slice (some ad205) l0.length c0] 25 (0, 0))) := ⟨(by rw [hw]; exact (bG NB201_206 BK201))⟩; replace BK206 : Aside0 (w11.heap[gb206]? = some (.cells #[.string ((rd_T63 l0 x7_1).f0), .slice A205_1 ((rd_T63 l0 x7_1).f1).length c205_1, .slice A205_2 ((rd_T63 l0 x7_1).f2).length c205_2] 63 (0, 0))) := ⟨(by rw [hw]; exact (by refine bU ?_; refine blk_put (cs := #[.string ((rd_T63 l0 x7_1).f0), .slice A205_1 ((rd_T63 l0 x7_1).f1).length c205_1, .slice none 0 0]) ?_ 2 _ rfl; refine bU ?_; refine blk_put (cs := #[.string ((rd_T63 l0 x7_1).f0), .slice none 0 0, .slice none 0 0]) ?_ 1 _ rfl; refine bU ?_; refine blk_put (cs := #[.string (⟨#[]⟩ : ByteArray), .slice none 0 0, .slice none 0 0]) ?_ 0 _ rfl; refine bU ?_; exact BK206.out))⟩; replace HB : Aside0 (Below w.heap.size w w11) := ⟨(by rw [hw]; exact (lV2 GE201 GE206))⟩; clear hw))
      (try simp only [Act.put, List.setIfInBounds_toArray, List.set_cons_zero, List.set_cons_succ])
      go_cut [48] (fun v48 wc => ∃ (kq : Nat) (x48_6 : Bool), v48 = .bool x48_6 ∧ Aside0 (impl_GoodAssets.j1 kq l0 (l0.length : Int) x7_1 x48_6 l0 ((rd_T63 l0 x7_1).f0) ((rd_T63 l0 x7_1).f1) ((rd_T63 l0 x7_1).f2) = some r) ∧ Aside0 (kq ≤ k1) ∧ Aside0 (wc.heap[gb201]? = some (.cells #[(.slice (some ad205) l0.length c0)] 25 (0, 0))) ∧ Aside0 (wc.heap[gb206]? = some (.cells #[.string ((rd_T63 l0 x7_1).f0), (.slice A205_1 ((rd_T63 l0 x7_1).f1).length c205_1), (.slice A205_2 ((rd_T63 l0 x7_1).f2).length c205_2)] 63 (0, 0))) ∧ Aside0 (Below w.heap.size w wc))
      case first =>
       have H := HC7.out
       clear HC7
       replace H := Option.bind_eq_some_iff.mp H
       obtain ⟨t207, A120, H⟩ := H
       replace H : (if t207 = true then (if x7_1 > 0 then (if 0 ≤ (wrap64 (x7_1 - 1)) then (if (wrap64 (x7_1 - 1)) < (l0.length : Int) then (if ((Op.bytesLess (((rd_T63 l0 (wrap64 (x7_1 - 1))).f0).toList) (((rd_T63 l0 x7_1).f0).toList)) = true) then ((impl_areNames.f k1 ((rd_T63 l0 x7_1).f1)).bind fun t209 => (if t209 = true then (if (((rd_T63 l0 x7_1).f1).length : Int) > 10 then (impl_GoodAssets.j1 k1 l0 (l0.length : Int) x7_1 true l0 ((rd_T63 l0 x7_1).f0) ((rd_T63 l0 x7_1).f1) ((rd_T63 l0 x7_1).f2)) else (impl_GoodAssets.j1 k1 l0 (l0.length : Int) x7_1 (decide ((((rd_T63 l0 x7_1).f2).length : Int) > 400)) l0 ((rd_T63 l0 x7_1).f0) ((rd_T63 l0 x7_1).f1) ((rd_T63 l0 x7_1).f2))) else (impl_GoodAssets.j1 k1 l0 (l0.length : Int) x7_1 true l0 ((rd_T63 l0 x7_1).f0) ((rd_T63 l0 x7_1).f1) ((rd_T63 l0 x7_1).f2)))) else (impl_GoodAssets.j1 k1 l0 (l0.length : Int) x7_1 true l0 ((rd_T63 l0 x7_1).f0) ((rd_T63 l0 x7_1).f1) ((rd_T63 l0 x7_1).f2))) else (none)) else (none)) else ((impl_areNames.f k1 ((rd_T63 l0 x7_1).f1)).bind fun t210 => (if t210 = true then (if (((rd_T63 l0 x7_1).f1).length : Int) > 10 then (impl_GoodAssets.j1 k1 l0 (l0.length : Int) x7_1 true l0 ((rd_T63 l0 x7_1).f0) ((rd_T63 l0 x7_1).f1) ((rd_T63 l0 x7_1).f2)) else (impl_GoodAssets.j1 k1 l0 (l0.length : Int) x7_1 (decide ((((rd_T63 l0 x7_1).f2).length : Int) > 400)) l0 ((rd_T63 l0 x7_1).f0) ((rd_T63 l0 x7_1).f1) ((rd_T63 l0 x7_1).f2))) else (impl_GoodAssets.j1 k1 l0 (l0.length : Int) x7_1 true l0 ((rd_T63 l0 x7_1).f0) ((rd_T63 l0 x7_1).f1) ((rd_T63 l0 x7_1).f2))))) else (impl_GoodAssets.j1 k1 l0 (l0.length : Int) x7_1 true l0 ((rd_T63 l0 x7_1).f0) ((rd_T63 l0 x7_1).f1) ((rd_T63 l0 x7_1).f2))) = some r := H
       have A12 := Aside0.mk A120
       clear A120
       by_cases c13 : t207 = true
       ·subst c13
        have H1 : (if x7_1 > 0 then (if 0 ≤ (wrap64 (x7_1 - 1)) then (if (wrap64 (x7_1 - 1)) < (l0.length : Int) then (if ((Op.bytesLess (((rd_T63 l0 (wrap64 (x7_1 - 1))).f0).toList) (((rd_T63 l0 x7_1).f0).toList)) = true) then ((impl_areNames.f k1 ((rd_T63 l0 x7_1).f1)).bind fun t209 => (if t209 = true then (if (((rd_T63 l0 x7_1).f1).length : Int) > 10 then (impl_GoodAssets.j1 k1 l0 (l0.length : Int) x7_1 true l0 ((rd_T63 l0 x7_1).f0) ((rd_T63 l0 x7_1).f1) ((rd_T63 l0 x7_1).f2)) else (impl_GoodAssets.j1 k1 l0 (l0.length : Int) x7_1 (decide ((((rd_T63 l0 x7_1).f2).length : Int) > 400)) l0 ((rd_T63 l0 x7_1).f0) ((rd_T63 l0 x7_1).f1) ((rd_T63 l0 x7_1).f2))) else (impl_GoodAssets.j1 k1 l0 (l0.length : Int) x7_1 true l0 ((rd_T63 l0 x7_1).f0) ((rd_T63 l0 x7_1).f1) ((rd_T63 l0 x7_1).f2)))) else (impl_GoodAssets.j1 k1 l0 (l0.length : Int) x7_1 true l0 ((rd_T63 l0 x7_1).f0) ((rd_T63 l0 x7_1).f1) ((rd_T63 l0 x7_1).f2))) else (none)) else (none)) else ((impl_areNames.f k1 ((rd_T63 l0 x7_1).f1)).bind fun t210 => (if t210 = true then (if (((rd_T63 l0 x7_1).f1).length : Int) > 10 then (impl_GoodAssets.j1 k1 l0 (l0.length : Int) x7_1 true l0 ((rd_T63 l0 x7_1).f0) ((rd_T63 l0 x7_1).f1) ((rd_T63 l0 x7_1).f2)) else (impl_GoodAssets.j1 k1 l0 (l0.length : Int) x7_1 (decide ((((rd_T63 l0 x7_1).f2).length : Int) > 400)) l0 ((rd_T63 l0 x7_1).f0) ((rd_T63 l0 x7_1).f1) ((rd_T63 l0 x7_1).f2))) else (impl_GoodAssets.j1 k1 l0 (l0.length : Int) x7_1 true l0 ((rd_T63 l0 x7_1).f0) ((rd_T63 l0 x7_1).f1) ((rd_T63 l0 x7_1).f2))))) = some r := by rw [if_pos rfl] at H; exact H
        clear H
        have H := H1
        clear H1
        by_cases c14 : x7_1 > 0
        ·rw [if_pos c14] at H
         have c14b0 : decide (0 < x7_1) = true := decide_eq_true c14
         clear c14
         (first | rw [c14b0] | (simp only [i64_w, i32_w]; rw [c14b0]) | (rw [c14b2]; simp only [Bool.not_false, Bool.not_true]) | skip)
         obtain ⟨ji15, hji15⟩ : ∃ j_ : Int, (wrap64 (x7_1 - 1)) = j_ := ⟨_, rfl⟩
         replace H : (if 0 ≤ (ji15) then (if (ji15) < (l0.length : Int) then (if ((Op.bytesLess (((rd_T63 l0 (ji15)).f0).toList) (((rd_T63 l0 x7_1).f0).toList)) = true) then ((impl_areNames.f k1 ((rd_T63 l0 x7_1).f1)).bind fun t209 => (if t209 = true then (if (((rd_T63 l0 x7_1).f1).length : Int) > 10 then (impl_GoodAssets.j1 k1 l0 (l0.length : Int) x7_1 true l0 ((rd_T63 l0 x7_1).f0) ((rd_T63 l0 x7_1).f1) ((rd_T63 l0 x7_1).f2)) else (impl_GoodAssets.j1 k1 l0 (l0.length : Int) x7_1 (decide ((((rd_T63 l0 x7_1).f2).length : Int) > 400)) l0 ((rd_T63 l0 x7_1).f0) ((rd_T63 l0 x7_1).f1) ((rd_T63 l0 x7_1).f2))) else (impl_GoodAssets.j1 k1 l0 (l0.length : Int) x7_1 true l0 ((rd_T63 l0 x7_1).f0) ((rd_T63 l0 x7_1).f1) ((rd_T63 l0 x7_1).f2)))) else (impl_GoodAssets.j1 k1 l0 (l0.length : Int) x7_1 true l0 ((rd_T63 l0 x7_1).f0) ((rd_T63 l0 x7_1).f1) ((rd_T63 l0 x7_1).f2))) else (none)) else (none)) = some r := by first | (rw [hji15] at H; exact H) | (simp only [hji15] at H ⊢; exact H)
         (try rw [hji15] at A12)
         have hji15w : (IntKind.i64.wrap (x7_1 - 1)) = ji15 := (i64_w _).trans hji15
         by_cases c16 : 0 ≤ (ji15)
         ·rw [if_pos c16] at H
          have c16b0 : decide (0 ≤ (ji15)) = true := decide_eq_true c16
          clear c16
          by_cases c17 : (ji15) < (l0.length : Int)
          ·rw [if_pos c17] at H
           have c17b0 : decide ((ji15) < (l0.length : Int)) = true := decide_eq_true c17
           clear c17
           by_cases c18 : ((Op.bytesLess (((rd_T63 l0 (ji15)).f0).toList) (((rd_T63 l0 x7_1).f0).toList)) = true)
           ·rw [if_pos c18] at H
            have c18b0 : (Op.bytesLess (((rd_T63 l0 (ji15)).f0).toList) (((rd_T63 l0 x7_1).f0).toList)) = true := c18
            clear c18
            replace H := Option.bind_eq_some_iff.mp H
            obtain ⟨t209, A190, H⟩ := H
            replace H : (if t209 = true then (if (((rd_T63 l0 x7_1).f1).length : Int) > 10 then (impl_GoodAssets.j1 k1 l0 (l0.length : Int) x7_1 true l0 ((rd_T63 l0 x7_1).f0) ((rd_T63 l0 x7_1).f1) ((rd_T63 l0 x7_1).f2)) else (impl_GoodAssets.j1 k1 l0 (l0.length : Int) x7_1 (decide ((((rd_T63 l0 x7_1).f2).length : Int) > 400)) l0 ((rd_T63 l0 x7_1).f0) ((rd_T63 l0 x7_1).f1) ((rd_T63 l0 x7_1).f2))) else (impl_GoodAssets.j1 k1 l0 (l0.length : Int) x7_1 true l0 ((rd_T63 l0 x7_1).f0) ((rd_T63 l0 x7_1).f1) ((rd_T63 l0 x7_1).f2))) = some r := H
            have A19 := Aside0.mk A190
            clear A190
            by_cases c20 : t209 = true
            ·subst c20
             have H1 : (if (((rd_T63 l0 x7_1).f1).length : Int) > 10 then (impl_GoodAssets.j1 k1 l0 (l0.length : Int) x7_1 true l0 ((rd_T63 l0 x7_1).f0) ((rd_T63 l0 x7_1).f1) ((rd_T63 l0 x7_1).f2)) else (impl_GoodAssets.j1 k1 l0 (l0.length : Int) x7_1 (decide ((((rd_T63 l0 x7_1).f2).length : Int) > 400)) l0 ((rd_T63 l0 x7_1).f0) ((rd_T63 l0 x7_1).f1) ((rd_T63 l0 x7_1).f2))) = some r := by rw [if_pos rfl] at H; exact H
             clear H
             have H := H1
             clear H1
             by_cases c21 : (((rd_T63 l0 x7_1).f1).length : Int) > 10
             ·rw [if_pos c21] at H
              have c21b0 : decide (10 < (((rd_T63 l0 x7_1).f1).length : Int)) = true := decide_eq_true c21
              have c21b1 : decide (10 < ((rd_T63 l0 x7_1).f1).length) = true := decide_eq_true (by omega)
              clear c21
              have H' := Aside0.mk H
              clear H
              try go_wp2
              replace BK201 := Aside0.mk (blk_drew BK201.out)
              replace BK206 := Aside0.mk (blk_drew BK206.out)
              replace HB := Aside0.mk (below_drew1 HB.out)
              have p208 : 0 ≤ ((ji15) : Int) := of_decide_eq_true hE
              have q208 : (ji15) < (l0.length : Int) := of_decide_eq_true hE
              obtain ⟨ad208, A208_1, c208_1, A208_2, c208_2, e208, hx208_0, hx208_1, hx208_2, hl208_1, hi208_1, hl208_2, hi208_2⟩ := at_T63 HR0.out (ji15) p208 q208
              have hw208_2 := hx208_2
              have hw208_1 := hx208_1
              have hw208_0 := hx208_0
              obtain rfl : ad205 = ad208 := (by injection e208)
              replace hx208_0 := (HB.out.cell (World.block_lt_of_cell? w _ hx208_0)).trans hx208_0
              replace hx208_1 := (HB.out.cell (World.block_lt_of_cell? w _ hx208_1)).trans hx208_1
              replace hx208_2 := (HB.out.cell (World.block_lt_of_cell? w _ hx208_2)).trans hx208_2
              have HR208_1 := Aside0.mk hi208_1
              have HC208_1 := Aside0.mk hl208_1
              clear hi208_1 hl208_1
              have HR208_2 := Aside0.mk hi208_2
              have HC208_2 := Aside0.mk hl208_2
              clear hi208_2 hl208_2
              replace p208 := eq_true p208
              replace q208 := eq_true q208
              refine start_ (n := 37) (S := fun w' => w'.cell? ⟨gb206, 0, none⟩ = some (.string ((rd_T63 l0 x7_1).f0)) ∧ w'.cell? ⟨gb206, 1, none⟩ = some (.slice A205_1 ((rd_T63 l0 x7_1).f1).length c205_1) ∧ w'.cell? ⟨gb206, 2, none⟩ = some (.slice A205_2 ((rd_T63 l0 x7_1).f2).length c205_2) ∧ w'.cell? ⟨gb201, 0, none⟩ = some (.slice (some ad205) l0.length c0) ∧ w'.cell? (ad205.add (((ji15)).toNat * 3)) = some (.string ((rd_T63 l0 (ji15)).f0)) ∧ w'.cell? ⟨(ad205.add (((ji15)).toNat * 3)).block, (ad205.add (((ji15)).toNat * 3)).off + 1, none⟩ = some (.slice A208_1 ((rd_T63 l0 (ji15)).f1).length c208_1) ∧ w'.cell? ⟨(ad205.add (((ji15)).toNat * 3)).block, (ad205.add (((ji15)).toNat * 3)).off + 2, none⟩ = some (.slice A208_2 ((rd_T63 l0 (ji15)).f2).length c208_2)) (ds := []) #[false, false, false, false, false, false, false, false, false, false, false, false, false, false, false, false, false, false, false, false, false, false, false, false, false, false, false, false, false, false, false, false, false, false, false, false, false] (by kernel_rfl) rfl rfl ⟨cz BK206 0 _, cz BK206 1 _, cz BK206 2 _, cz BK201 0 _, ((HB.out.cell (World.block_lt_of_cell? w _ hw208_0)).trans hw208_0), ((HB.out.cell (World.block_lt_of_cell? w _ hw208_1)).trans hw208_1), ((HB.out.cell (World.block_lt_of_cell? w _ hw208_2)).trans hw208_2)⟩ (fun hHeld => ?_); refine with_tabW impl_GoodAssets.tab4 impl_GoodAssets.bits4 (fun HT_ HW_ => ?_)
              generalize w11.drew = w22 at BK201 BK206 HB HR208_1 HR208_2 hx208_0 hx208_1 hx208_2 hHeld ⊢
              refine pureA 0 12 (bz 37 1) rfl rfl (any_of HT_.out (by kernel_rfl)) ?_
              refine takeA 1 13 (bz 37 3) rfl rfl (take_ofW HT_.out HW_.out (by kernel_rfl)) hHeld (by rintro w' ⟨s0, s1, s2, s3, s4, s5, s6⟩; go_simp; with_reducible rfl) ?_
              refine one_ (i := 2) (N := some 14) (bz 37 7) rfl rfl (one_of HT_.out (by kernel_rfl)) (by decide) (fun K hK => ?_)
              refine goes_ Try.func34 (by kernel_rfl) rfl #[.string ((rd_T63 l0 x7_1).f0)] (by rfl) rfl rfl aE ?_
              with_reducible refine (impl_GoodName.calls k1 ((rd_T63 l0 x7_1).f0) true _ A12.out).mono ?_
              rintro e w' ⟨rfl, ⟨nd, rfl⟩⟩
              refine ⟨_, rfl, ?_⟩
              refine hK.out _ _ ⟨cz BK206 0 _, cz BK206 1 _, cz BK206 2 _, cz BK201 0 _, ((HB.out.cell (World.block_lt_of_cell? w _ hw208_0)).trans hw208_0), ((HB.out.cell (World.block_lt_of_cell? w _ hw208_1)).trans hw208_1), ((HB.out.cell (World.block_lt_of_cell? w _ hw208_2)).trans hw208_2)⟩ (fun hHeld => ?_)
              clear hK K
              refine norm_ (a' := ?_) ?_ ?_
              rotate_left
              ·show Act.put _ (some 14) _ = _
               simp only [Act.put, List.setIfInBounds_toArray, List.set_cons_zero, List.set_cons_succ, i64_w, i32_w]
               rfl
              refine pureA 3 15 (bz 37 15) rfl rfl (any_of HT_.out (by kernel_rfl)) ?_
              refine pureA 4 16 (bz 37 31) rfl rfl (any_of HT_.out (by kernel_rfl)) ?_
              refine pureA 5 17 (bz 37 63) rfl rfl (any_of HT_.out (by kernel_rfl)) ?_
              refine pureA 6 18 (bz 37 127) rfl rfl (any_of HT_.out (by kernel_rfl)) ?_
              refine pureA 7 19 (bz 37 255) rfl rfl (any_of HT_.out (by kernel_rfl)) ?_
              refine pureA 9 21 (bz 37 767) rfl rfl (any_of HT_.out (by kernel_rfl)) ?_
              refine pureA 10 22 (bz 37 1791) rfl rfl (any_of HT_.out (by kernel_rfl)) ?_
              refine pureA 14 26 (bz 37 18175) rfl rfl (any_of HT_.out (by kernel_rfl)) ?_
              refine takeA 8 20 (bz 37 18431) rfl rfl (take_ofW HT_.out HW_.out (by kernel_rfl)) hHeld (by rintro w' ⟨s0, s1, s2, s3, s4, s5, s6⟩; go_simp; with_reducible rfl) ?_
              refine pureA 11 23 (bz 37 20479) rfl rfl (any_of HT_.out (by kernel_rfl)) ?_
              refine pureA 12 24 (bz 37 24575) rfl rfl (any_of HT_.out (by kernel_rfl)) ?_
              refine takeA 13 25 (bz 37 32767) rfl rfl (take_ofW HT_.out HW_.out (by kernel_rfl)) hHeld (by rintro w' ⟨s0, s1, s2, s3, s4, s5, s6⟩; go_simp; with_reducible rfl) ?_
              refine takeA 15 27 (bz 37 65535) rfl rfl (take_ofW HT_.out HW_.out (by kernel_rfl)) hHeld (by rintro w' ⟨s0, s1, s2, s3, s4, s5, s6⟩; go_simp; with_reducible rfl) ?_
              refine pureA 16 28 (bz 37 131071) rfl rfl (any_of HT_.out (by kernel_rfl)) ?_
              refine pureA 17 29 (bz 37 262143) rfl rfl (any_of HT_.out (by kernel_rfl)) ?_
              refine pureA 18 30 (bz 37 524287) rfl rfl (any_of HT_.out (by kernel_rfl)) ?_
              refine pureA 19 31 (bz 37 1048575) rfl rfl (any_of HT_.out (by kernel_rfl)) ?_
              refine pureA 20 32 (bz 37 2097151) rfl rfl (any_of HT_.out (by kernel_rfl)) ?_
              refine takeA 21 33 (bz 37 4194303) rfl rfl (take_ofW HT_.out HW_.out (by kernel_rfl)) hHeld (by rintro w' ⟨s0, s1, s2, s3, s4, s5, s6⟩; go_simp; with_reducible rfl) ?_
              refine one_ (i := 22) (N := some 34) (bz 37 8388607) rfl rfl (one_of HT_.out (by kernel_rfl)) (by decide) (fun K hK => ?_)
              refine goes_ Try.func35 (by kernel_rfl) rfl #[.slice A205_1 ((rd_T63 l0 x7_1).f1).length c205_1] (by rfl) rfl rfl aE ?_
              with_reducible refine (impl_areNames.calls k1 _ _ ((rd_T63 l0 x7_1).f1) true _ ?side1 ?side2 A19.out).mono ?_
              (case side1 => exact cU (Kd.C_below HR205_1.out (lV2 GE201 GE206)))
              (case side2 => exact HC205_1.out)
              rintro e w' ⟨rfl, ⟨nd, rfl⟩⟩
              refine ⟨_, rfl, ?_⟩
              refine hK.out _ _ ⟨cz BK206 0 _, cz BK206 1 _, cz BK206 2 _, cz BK201 0 _, ((HB.out.cell (World.block_lt_of_cell? w _ hw208_0)).trans hw208_0), ((HB.out.cell (World.block_lt_of_cell? w _ hw208_1)).trans hw208_1), ((HB.out.cell (World.block_lt_of_cell? w _ hw208_2)).trans hw208_2)⟩ (fun hHeld => ?_)
              clear hK K
              refine norm_ (a' := ?_) ?_ ?_
              rotate_left
              ·show Act.put _ (some 34) _ = _
               simp only [Act.put, List.setIfInBounds_toArray, List.set_cons_zero, List.set_cons_succ, i64_w, i32_w]
               rfl
              refine pureA 23 35 (bz 37 16777215) rfl rfl (any_of HT_.out (by kernel_rfl)) ?_
              refine pureA 24 36 (bz 37 33554431) rfl rfl (any_of HT_.out (by kernel_rfl)) ?_
              refine pureA 25 37 (bz 37 67108863) rfl rfl (any_of HT_.out (by kernel_rfl)) ?_
              refine pureA 26 38 (bz 37 134217727) rfl rfl (any_of HT_.out (by kernel_rfl)) ?_
              refine takeA 27 39 (bz 37 268435455) rfl rfl (take_ofW HT_.out HW_.out (by kernel_rfl)) hHeld (by rintro w' ⟨s0, s1, s2, s3, s4, s5, s6⟩; go_simp; with_reducible rfl) ?_
              refine pureA 28 40 (bz 37 536870911) rfl rfl (any_of HT_.out (by kernel_rfl)) ?_
              refine pureA 29 41 (bz 37 1073741823) rfl rfl (any_of HT_.out (by kernel_rfl)) ?_
              refine pureA 30 42 (bz 37 2147483647) rfl rfl (any_of HT_.out (by kernel_rfl)) ?_
              refine pureA 31 43 (bz 37 4294967295) rfl rfl (any_of HT_.out (by kernel_rfl)) ?_
              refine pureU 32 44 (bz 37 8589934591) rfl rfl (any_of HT_.out (by kernel_rfl)) ?_
              refine pureU 33 45 (bz 37 17179869183) rfl rfl (any_of HT_.out (by kernel_rfl)) ?_
              refine pureU 34 46 (bz 37 34359738367) rfl rfl (any_of HT_.out (by kernel_rfl)) ?_
              refine pureU 35 47 (bz 37 68719476735) rfl rfl (any_of HT_.out (by kernel_rfl)) ?_
              refine pureA 36 48 (bz 37 137438953471) rfl rfl (any_of HT_.out (by kernel_rfl)) ?_
              refine done_ (done_of HT_.out (by kernel_rfl)) ?_
              try go_wp2
              go_meet
              case rel => exact ⟨_, (true), tE, H', ⟨by have := HK1.out; first | omega | exact Nat.le_refl _⟩, ⟨by refine bU ?_; exact BK201.out⟩, ⟨by refine bU ?_; exact BK206.out⟩, ⟨by repeat (first | (with_reducible first | exact HB.out | apply below_alloc | apply pw_below_drewN | apply below_drew1 | refine below_set ?_ GE201.out | refine below_set ?_ GE206.out) | exact HB.out)⟩⟩
             ·rw [if_neg c21] at H
              have c21b0 : decide (10 < (((rd_T63 l0 x7_1).f1).length : Int)) = false := decide_eq_false c21
              have c21b1 : decide (10 < ((rd_T63 l0 x7_1).f1).length) = false := decide_eq_false (by omega)
              clear c21
              have H' := Aside0.mk H
              clear H
              try go_wp2
              replace BK201 := Aside0.mk (blk_drew BK201.out)
              replace BK206 := Aside0.mk (blk_drew BK206.out)
              replace HB := Aside0.mk (below_drew1 HB.out)
              have p208 : 0 ≤ ((ji15) : Int) := of_decide_eq_true hE
              have q208 : (ji15) < (l0.length : Int) := of_decide_eq_true hE
              obtain ⟨ad208, A208_1, c208_1, A208_2, c208_2, e208, hx208_0, hx208_1, hx208_2, hl208_1, hi208_1, hl208_2, hi208_2⟩ := at_T63 HR0.out (ji15) p208 q208
              have hw208_2 := hx208_2
              have hw208_1 := hx208_1
              have hw208_0 := hx208_0
              obtain rfl : ad205 = ad208 := (by injection e208)
              replace hx208_0 := (HB.out.cell (World.block_lt_of_cell? w _ hx208_0)).trans hx208_0
              replace hx208_1 := (HB.out.cell (World.block_lt_of_cell? w _ hx208_1)).trans hx208_1
              replace hx208_2 := (HB.out.cell (World.block_lt_of_cell? w _ hx208_2)).trans hx208_2
              have HR208_1 := Aside0.mk hi208_1
              have HC208_1 := Aside0.mk hl208_1
              clear hi208_1 hl208_1
              have HR208_2 := Aside0.mk hi208_2
              have HC208_2 := Aside0.mk hl208_2
              clear hi208_2 hl208_2
              replace p208 := eq_true p208
              replace q208 := eq_true q208
              refine start_ (n := 37) (S := fun w' => w'.cell? ⟨gb206, 0, none⟩ = some (.string ((rd_T63 l0 x7_1).f0)) ∧ w'.cell? ⟨gb206, 1, none⟩ = some (.slice A205_1 ((rd_T63 l0 x7_1).f1).length c205_1) ∧ w'.cell? ⟨gb206, 2, none⟩ = some (.slice A205_2 ((rd_T63 l0 x7_1).f2).length c205_2) ∧ w'.cell? ⟨gb201, 0, none⟩ = some (.slice (some ad205) l0.length c0) ∧ w'.cell? (ad205.add (((ji15)).toNat * 3)) = some (.string ((rd_T63 l0 (ji15)).f0)) ∧ w'.cell? ⟨(ad205.add (((ji15)).toNat * 3)).block, (ad205.add (((ji15)).toNat * 3)).off + 1, none⟩ = some (.slice A208_1 ((rd_T63 l0 (ji15)).f1).length c208_1) ∧ w'.cell? ⟨(ad205.add (((ji15)).toNat * 3)).block, (ad205.add (((ji15)).toNat * 3)).off + 2, none⟩ = some (.slice A208_2 ((rd_T63 l0 (ji15)).f2).length c208_2)) (ds := []) #[false, false, false, false, false, false, false, false, false, false, false, false, false, false, false, false, false, false, false, false, false, false, false, false, false, false, false, false, false, false, false, false, false, false, false, false, false] (by kernel_rfl) rfl rfl ⟨cz BK206 0 _, cz BK206 1 _, cz BK206 2 _, cz BK201 0 _, ((HB.out.cell (World.block_lt_of_cell? w _ hw208_0)).trans hw208_0), ((HB.out.cell (World.block_lt_of_cell? w _ hw208_1)).trans hw208_1), ((HB.out.cell (World.block_lt_of_cell? w _ hw208_2)).trans hw208_2)⟩ (fun hHeld => ?_); refine with_tabW impl_GoodAssets.tab4 impl_GoodAssets.bits4 (fun HT_ HW_ => ?_)
              generalize w11.drew = w23 at BK201 BK206 HB HR208_1 HR208_2 hx208_0 hx208_1 hx208_2 hHeld ⊢
              refine pureA 0 12 (bz 37 1) rfl rfl (any_of HT_.out (by kernel_rfl)) ?_
              refine takeA 1 13 (bz 37 3) rfl rfl (take_ofW HT_.out HW_.out (by kernel_rfl)) hHeld (by rintro w' ⟨s0, s1, s2, s3, s4, s5, s6⟩; go_simp; with_reducible rfl) ?_
              refine one_ (i := 2) (N := some 14) (bz 37 7) rfl rfl (one_of HT_.out (by kernel_rfl)) (by decide) (fun K hK => ?_)
              refine goes_ Try.func34 (by kernel_rfl) rfl #[.string ((rd_T63 l0 x7_1).f0)] (by rfl) rfl rfl aE ?_
              with_reducible refine (impl_GoodName.calls k1 ((rd_T63 l0 x7_1).f0) true _ A12.out).mono ?_
              rintro e w' ⟨rfl, ⟨nd, rfl⟩⟩
              refine ⟨_, rfl, ?_⟩
              refine hK.out _ _ ⟨cz BK206 0 _, cz BK206 1 _, cz BK206 2 _, cz BK201 0 _, ((HB.out.cell (World.block_lt_of_cell? w _ hw208_0)).trans hw208_0), ((HB.out.cell (World.block_lt_of_cell? w _ hw208_1)).trans hw208_1), ((HB.out.cell (World.block_lt_of_cell? w _ hw208_2)).trans hw208_2)⟩ (fun hHeld => ?_)
              clear hK K
              refine norm_ (a' := ?_) ?_ ?_
              rotate_left
              ·show Act.put _ (some 14) _ = _
               simp only [Act.put, List.setIfInBounds_toArray, List.set_cons_zero, List.set_cons_succ, i64_w, i32_w]
               rfl
              refine pureA 3 15 (bz 37 15) rfl rfl (any_of HT_.out (by kernel_rfl)) ?_
              refine pureA 4 16 (bz 37 31) rfl rfl (any_of HT_.out (by kernel_rfl)) ?_
              refine pureA 5 17 (bz 37 63) rfl rfl (any_of HT_.out (by kernel_rfl)) ?_
              refine pureA 6 18 (bz 37 127) rfl rfl (any_of HT_.out (by kernel_rfl)) ?_
              refine pureA 7 19 (bz 37 255) rfl rfl (any_of HT_.out (by kernel_rfl)) ?_
              refine pureA 9 21 (bz 37 767) rfl rfl (any_of HT_.out (by kernel_rfl)) ?_
              refine pureA 10 22 (bz 37 1791) rfl rfl (any_of HT_.out (by kernel_rfl)) ?_
              refine pureA 14 26 (bz 37 18175) rfl rfl (any_of HT_.out (by kernel_rfl)) ?_
              refine takeA 8 20 (bz 37 18431) rfl rfl (take_ofW HT_.out HW_.out (by kernel_rfl)) hHeld (by rintro w' ⟨s0, s1, s2, s3, s4, s5, s6⟩; go_simp; with_reducible rfl) ?_
              refine pureA 11 23 (bz 37 20479) rfl rfl (any_of HT_.out (by kernel_rfl)) ?_
              refine pureA 12 24 (bz 37 24575) rfl rfl (any_of HT_.out (by kernel_rfl)) ?_
              refine takeA 13 25 (bz 37 32767) rfl rfl (take_ofW HT_.out HW_.out (by kernel_rfl)) hHeld (by rintro w' ⟨s0, s1, s2, s3, s4, s5, s6⟩; go_simp; with_reducible rfl) ?_
              refine takeA 15 27 (bz 37 65535) rfl rfl (take_ofW HT_.out HW_.out (by kernel_rfl)) hHeld (by rintro w' ⟨s0, s1, s2, s3, s4, s5, s6⟩; go_simp; with_reducible rfl) ?_
              refine pureA 16 28 (bz 37 131071) rfl rfl (any_of HT_.out (by kernel_rfl)) ?_
              refine pureA 17 29 (bz 37 262143) rfl rfl (any_of HT_.out (by kernel_rfl)) ?_
              refine pureA 18 30 (bz 37 524287) rfl rfl (any_of HT_.out (by kernel_rfl)) ?_
              refine pureA 19 31 (bz 37 1048575) rfl rfl (any_of HT_.out (by kernel_rfl)) ?_
              refine pureA 20 32 (bz 37 2097151) rfl rfl (any_of HT_.out (by kernel_rfl)) ?_
              refine takeA 21 33 (bz 37 4194303) rfl rfl (take_ofW HT_.out HW_.out (by kernel_rfl)) hHeld (by rintro w' ⟨s0, s1, s2, s3, s4, s5, s6⟩; go_simp; with_reducible rfl) ?_
              refine one_ (i := 22) (N := some 34) (bz 37 8388607) rfl rfl (one_of HT_.out (by kernel_rfl)) (by decide) (fun K hK => ?_)
              refine goes_ Try.func35 (by kernel_rfl) rfl #[.slice A205_1 ((rd_T63 l0 x7_1).f1).length c205_1] (by rfl) rfl rfl aE ?_
              with_reducible refine (impl_areNames.calls k1 _ _ ((rd_T63 l0 x7_1).f1) true _ ?side1 ?side2 A19.out).mono ?_
              (case side1 => exact cU (Kd.C_below HR205_1.out (lV2 GE201 GE206)))
              (case side2 => exact HC205_1.out)
              rintro e w' ⟨rfl, ⟨nd, rfl⟩⟩
              refine ⟨_, rfl, ?_⟩
              refine hK.out _ _ ⟨cz BK206 0 _, cz BK206 1 _, cz BK206 2 _, cz BK201 0 _, ((HB.out.cell (World.block_lt_of_cell? w _ hw208_0)).trans hw208_0), ((HB.out.cell (World.block_lt_of_cell? w _ hw208_1)).trans hw208_1), ((HB.out.cell (World.block_lt_of_cell? w _ hw208_2)).trans hw208_2)⟩ (fun hHeld => ?_)
              clear hK K
              refine norm_ (a' := ?_) ?_ ?_
              rotate_left
              ·show Act.put _ (some 34) _ = _
               simp only [Act.put, List.setIfInBounds_toArray, List.set_cons_zero, List.set_cons_succ, i64_w, i32_w]
               rfl
              refine pureA 23 35 (bz 37 16777215) rfl rfl (any_of HT_.out (by kernel_rfl)) ?_
              refine pureA 24 36 (bz 37 33554431) rfl rfl (any_of HT_.out (by kernel_rfl)) ?_
              refine pureA 25 37 (bz 37 67108863) rfl rfl (any_of HT_.out (by kernel_rfl)) ?_
              refine pureA 26 38 (bz 37 134217727) rfl rfl (any_of HT_.out (by kernel_rfl)) ?_
              refine takeA 27 39 (bz 37 268435455) rfl rfl (take_ofW HT_.out HW_.out (by kernel_rfl)) hHeld (by rintro w' ⟨s0, s1, s2, s3, s4, s5, s6⟩; go_simp; with_reducible rfl) ?_
              refine pureA 28 40 (bz 37 536870911) rfl rfl (any_of HT_.out (by kernel_rfl)) ?_
              refine pureA 29 41 (bz 37 1073741823) rfl rfl (any_of HT_.out (by kernel_rfl)) ?_
              refine pureA 30 42 (bz 37 2147483647) rfl rfl (any_of HT_.out (by kernel_rfl)) ?_
              refine pureA 31 43 (bz 37 4294967295) rfl rfl (any_of HT_.out (by kernel_rfl)) ?_
              refine pureA 32 44 (bz 37 8589934591) rfl rfl (any_of HT_.out (by kernel_rfl)) ?_
              refine takeA 33 45 (bz 37 17179869183) rfl rfl (take_ofW HT_.out HW_.out (by kernel_rfl)) hHeld (by rintro w' ⟨s0, s1, s2, s3, s4, s5, s6⟩; go_simp; with_reducible rfl) ?_
              refine pureA 34 46 (bz 37 34359738367) rfl rfl (any_of HT_.out (by kernel_rfl)) ?_
              refine pureA 35 47 (bz 37 68719476735) rfl rfl (any_of HT_.out (by kernel_rfl)) ?_
              refine pureA 36 48 (bz 37 137438953471) rfl rfl (any_of HT_.out (by kernel_rfl)) ?_
              refine done_ (done_of HT_.out (by kernel_rfl)) ?_
              try go_wp2
              go_meet
              case rel => exact ⟨_, (decide ((((rd_T63 l0 x7_1).f2).length : Int) > 400)), tE, H', ⟨by have := HK1.out; first | omega | exact Nat.le_refl _⟩, ⟨by refine bU ?_; exact BK201.out⟩, ⟨by refine bU ?_; exact BK206.out⟩, ⟨by repeat (first | (with_reducible first | exact HB.out | apply below_alloc | apply pw_below_drewN | apply below_drew1 | refine below_set ?_ GE201.out | refine below_set ?_ GE206.out) | exact HB.out)⟩⟩
            ·replace c20 := Bool.eq_false_iff.mpr c20
             subst c20
             have H1 : (impl_GoodAssets.j1 k1 l0 (l0.length : Int) x7_1 true l0 ((rd_T63 l0 x7_1).f0) ((rd_T63 l0 x7_1).f1) ((rd_T63 l0 x7_1).f2)) = some r := by rw [if_neg (show ¬ (false = true) by decide)] at H; exact H
             clear H
             have H := H1
             clear H1
             have H' := Aside0.mk H
             clear H
             try go_wp2
             replace BK201 := Aside0.mk (blk_drew BK201.out)
             replace BK206 := Aside0.mk (blk_drew BK206.out)
             replace HB := Aside0.mk (below_drew1 HB.out)
             have p208 : 0 ≤ ((ji15) : Int) := of_decide_eq_true hE
             have q208 : (ji15) < (l0.length : Int) := of_decide_eq_true hE
             obtain ⟨ad208, A208_1, c208_1, A208_2, c208_2, e208, hx208_0, hx208_1, hx208_2, hl208_1, hi208_1, hl208_2, hi208_2⟩ := at_T63 HR0.out (ji15) p208 q208
             have hw208_2 := hx208_2
             have hw208_1 := hx208_1
             have hw208_0 := hx208_0
             obtain rfl : ad205 = ad208 := (by injection e208)
             replace hx208_0 := (HB.out.cell (World.block_lt_of_cell? w _ hx208_0)).trans hx208_0
             replace hx208_1 := (HB.out.cell (World.block_lt_of_cell? w _ hx208_1)).trans hx208_1
             replace hx208_2 := (HB.out.cell (World.block_lt_of_cell? w _ hx208_2)).trans hx208_2
             have HR208_1 := Aside0.mk hi208_1
             have HC208_1 := Aside0.mk hl208_1
             clear hi208_1 hl208_1
             have HR208_2 := Aside0.mk hi208_2
             have HC208_2 := Aside0.mk hl208_2
             clear hi208_2 hl208_2
             replace p208 := eq_true p208
             replace q208 := eq_true q208
             refine start_ (n := 37) (S := fun w' => w'.cell? ⟨gb206, 0, none⟩ = some (.string ((rd_T63 l0 x7_1).f0)) ∧ w'.cell? ⟨gb206, 1, none⟩ = some (.slice A205_1 ((rd_T63 l0 x7_1).f1).length c205_1) ∧ w'.cell? ⟨gb206, 2, none⟩ = some (.slice A205_2 ((rd_T63 l0 x7_1).f2).length c205_2) ∧ w'.cell? ⟨gb201, 0, none⟩ = some (.slice (some ad205) l0.length c0) ∧ w'.cell? (ad205.add (((ji15)).toNat * 3)) = some (.string ((rd_T63 l0 (ji15)).f0)) ∧ w'.cell? ⟨(ad205.add (((ji15)).toNat * 3)).block, (ad205.add (((ji15)).toNat * 3)).off + 1, none⟩ = some (.slice A208_1 ((rd_T63 l0 (ji15)).f1).length c208_1) ∧ w'.cell? ⟨(ad205.add (((ji15)).toNat * 3)).block, (ad205.add (((ji15)).toNat * 3)).off + 2, none⟩ = some (.slice A208_2 ((rd_T63 l0 (ji15)).f2).length c208_2)) (ds := []) #[false, false, false, false, false, false, false, false, false, false, false, false, false, false, false, false, false, false, false, false, false, false, false, false, false, false, false, false, false, false, false, false, false, false, false, false, false] (by kernel_rfl) rfl rfl ⟨cz BK206 0 _, cz BK206 1 _, cz BK206 2 _, cz BK201 0 _, ((HB.out.cell (World.block_lt_of_cell? w _ hw208_0)).trans hw208_0), ((HB.out.cell (World.block_lt_of_cell? w _ hw208_1)).trans hw208_1), ((HB.out.cell (World.block_lt_of_cell? w _ hw208_2)).trans hw208_2)⟩ (fun hHeld => ?_); refine with_tabW impl_GoodAssets.tab4 impl_GoodAssets.bits4 (fun HT_ HW_ => ?_)
             generalize w11.drew = w24 at BK201 BK206 HB HR208_1 HR208_2 hx208_0 hx208_1 hx208_2 hHeld ⊢
             refine pureA 0 12 (bz 37 1) rfl rfl (any_of HT_.out (by kernel_rfl)) ?_
             refine takeA 1 13 (bz 37 3) rfl rfl (take_ofW HT_.out HW_.out (by kernel_rfl)) hHeld (by rintro w' ⟨s0, s1, s2, s3, s4, s5, s6⟩; go_simp; with_reducible rfl) ?_
             refine one_ (i := 2) (N := some 14) (bz 37 7) rfl rfl (one_of HT_.out (by kernel_rfl)) (by decide) (fun K hK => ?_)
             refine goes_ Try.func34 (by kernel_rfl) rfl #[.string ((rd_T63 l0 x7_1).f0)] (by rfl) rfl rfl aE ?_
             with_reducible refine (impl_GoodName.calls k1 ((rd_T63 l0 x7_1).f0) true _ A12.out).mono ?_
             rintro e w' ⟨rfl, ⟨nd, rfl⟩⟩
             refine ⟨_, rfl, ?_⟩
             refine hK.out _ _ ⟨cz BK206 0 _, cz BK206 1 _, cz BK206 2 _, cz BK201 0 _, ((HB.out.cell (World.block_lt_of_cell? w _ hw208_0)).trans hw208_0), ((HB.out.cell (World.block_lt_of_cell? w _ hw208_1)).trans hw208_1), ((HB.out.cell (World.block_lt_of_cell? w _ hw208_2)).trans hw208_2)⟩ (fun hHeld => ?_)
             clear hK K
             refine norm_ (a' := ?_) ?_ ?_
             rotate_left
             ·show Act.put _ (some 14) _ = _
              simp only [Act.put, List.setIfInBounds_toArray, List.set_cons_zero, List.set_cons_succ, i64_w, i32_w]
              rfl
             refine pureA 3 15 (bz 37 15) rfl rfl (any_of HT_.out (by kernel_rfl)) ?_
             refine pureA 4 16 (bz 37 31) rfl rfl (any_of HT_.out (by kernel_rfl)) ?_
             refine pureA 5 17 (bz 37 63) rfl rfl (any_of HT_.out (by kernel_rfl)) ?_
             refine pureA 6 18 (bz 37 127) rfl rfl (any_of HT_.out (by kernel_rfl)) ?_
             refine pureA 7 19 (bz 37 255) rfl rfl (any_of HT_.out (by kernel_rfl)) ?_
             refine pureA 9 21 (bz 37 767) rfl rfl (any_of HT_.out (by kernel_rfl)) ?_
             refine pureA 10 22 (bz 37 1791) rfl rfl (any_of HT_.out (by kernel_rfl)) ?_
             refine pureA 14 26 (bz 37 18175) rfl rfl (any_of HT_.out (by kernel_rfl)) ?_
             refine takeA 8 20 (bz 37 18431) rfl rfl (take_ofW HT_.out HW_.out (by kernel_rfl)) hHeld (by rintro w' ⟨s0, s1, s2, s3, s4, s5, s6⟩; go_simp; with_reducible rfl) ?_
             refine pureA 11 23 (bz 37 20479) rfl rfl (any_of HT_.out (by kernel_rfl)) ?_
             refine pureA 12 24 (bz 37 24575) rfl rfl (any_of HT_.out (by kernel_rfl)) ?_
             refine takeA 13 25 (bz 37 32767) rfl rfl (take_ofW HT_.out HW_.out (by kernel_rfl)) hHeld (by rintro w' ⟨s0, s1, s2, s3, s4, s5, s6⟩; go_simp; with_reducible rfl) ?_
             refine takeA 15 27 (bz 37 65535) rfl rfl (take_ofW HT_.out HW_.out (by kernel_rfl)) hHeld (by rintro w' ⟨s0, s1, s2, s3, s4, s5, s6⟩; go_simp; with_reducible rfl) ?_
             refine pureA 16 28 (bz 37 131071) rfl rfl (any_of HT_.out (by kernel_rfl)) ?_
             refine pureA 17 29 (bz 37 262143) rfl rfl (any_of HT_.out (by kernel_rfl)) ?_
             refine pureA 18 30 (bz 37 524287) rfl rfl (any_of HT_.out (by kernel_rfl)) ?_
             refine pureA 19 31 (bz 37 1048575) rfl rfl (any_of HT_.out (by kernel_rfl)) ?_
             refine pureA 20 32 (bz 37 2097151) rfl rfl (any_of HT_.out (by kernel_rfl)) ?_
             refine takeA 21 33 (bz 37 4194303) rfl rfl (take_ofW HT_.out HW_.out (by kernel_rfl)) hHeld (by rintro w' ⟨s0, s1, s2, s3, s4, s5, s6⟩; go_simp; with_reducible rfl) ?_
             refine one_ (i := 22) (N := some 34) (bz 37 8388607) rfl rfl (one_of HT_.out (by kernel_rfl)) (by decide) (fun K hK => ?_)
             refine goes_ Try.func35 (by kernel_rfl) rfl #[.slice A205_1 ((rd_T63 l0 x7_1).f1).length c205_1] (by rfl) rfl rfl aE ?_
             with_reducible refine (impl_areNames.calls k1 _ _ ((rd_T63 l0 x7_1).f1) false _ ?side1 ?side2 A19.out).mono ?_
             (case side1 => exact cU (Kd.C_below HR205_1.out (lV2 GE201 GE206)))
             (case side2 => exact HC205_1.out)
             rintro e w' ⟨rfl, ⟨nd, rfl⟩⟩
             refine ⟨_, rfl, ?_⟩
             refine hK.out _ _ ⟨cz BK206 0 _, cz BK206 1 _, cz BK206 2 _, cz BK201 0 _, ((HB.out.cell (World.block_lt_of_cell? w _ hw208_0)).trans hw208_0), ((HB.out.cell (World.block_lt_of_cell? w _ hw208_1)).trans hw208_1), ((HB.out.cell (World.block_lt_of_cell? w _ hw208_2)).trans hw208_2)⟩ (fun hHeld => ?_)
             clear hK K
             refine norm_ (a' := ?_) ?_ ?_
             rotate_left
             ·show Act.put _ (some 34) _ = _
              simp only [Act.put, List.setIfInBounds_toArray, List.set_cons_zero, List.set_cons_succ, i64_w, i32_w]
              rfl
             refine pureA 23 35 (bz 37 16777215) rfl rfl (any_of HT_.out (by kernel_rfl)) ?_
             refine pureA 24 36 (bz 37 33554431) rfl rfl (any_of HT_.out (by kernel_rfl)) ?_
             refine pureA 25 37 (bz 37 67108863) rfl rfl (any_of HT_.out (by kernel_rfl)) ?_
             refine pureU 26 38 (bz 37 134217727) rfl rfl (any_of HT_.out (by kernel_rfl)) ?_
             refine pureU 27 39 (bz 37 268435455) rfl rfl (any_of HT_.out (by kernel_rfl)) ?_
             refine pureU 28 40 (bz 37 536870911) rfl rfl (any_of HT_.out (by kernel_rfl)) ?_
             refine pureU 29 41 (bz 37 1073741823) rfl rfl (any_of HT_.out (by kernel_rfl)) ?_
             refine pureA 30 42 (bz 37 2147483647) rfl rfl (any_of HT_.out (by kernel_rfl)) ?_
             refine pureA 31 43 (bz 37 4294967295) rfl rfl (any_of HT_.out (by kernel_rfl)) ?_
             refine pureU 32 44 (bz 37 8589934591) rfl rfl (any_of HT_.out (by kernel_rfl)) ?_
             refine pureU 33 45 (bz 37 17179869183) rfl rfl (any_of HT_.out (by kernel_rfl)) ?_
             refine pureU 34 46 (bz 37 34359738367) rfl rfl (any_of HT_.out (by kernel_rfl)) ?_
             refine pureU 35 47 (bz 37 68719476735) rfl rfl (any_of HT_.out (by kernel_rfl)) ?_
             refine pureA 36 48 (bz 37 137438953471) rfl rfl (any_of HT_.out (by kernel_rfl)) ?_
             refine done_ (done_of HT_.out (by kernel_rfl)) ?_
             try go_wp2
             go_meet
             case rel => exact ⟨_, (true), tE, H', ⟨by have := HK1.out; first | omega | exact Nat.le_refl _⟩, ⟨by refine bU ?_; exact BK201.out⟩, ⟨by refine bU ?_; exact BK206.out⟩, ⟨by repeat (first | (with_reducible first | exact HB.out | apply below_alloc | apply pw_below_drewN | apply below_drew1 | refine below_set ?_ GE201.out | refine below_set ?_ GE206.out) | exact HB.out)⟩⟩
           ·rw [if_neg c18] at H
            have c18b0 : (Op.bytesLess (((rd_T63 l0 (ji15)).f0).toList) (((rd_T63 l0 x7_1).f0).toList)) = false := by simpa using c18
            clear c18
            have H' := Aside0.mk H
            clear H
            try go_wp2
            replace BK201 := Aside0.mk (blk_drew BK201.out)
            replace BK206 := Aside0.mk (blk_drew BK206.out)
            replace HB := Aside0.mk (below_drew1 HB.out)
            have p208 : 0 ≤ ((ji15) : Int) := of_decide_eq_true hE
            have q208 : (ji15) < (l0.length : Int) := of_decide_eq_true hE
            obtain ⟨ad208, A208_1, c208_1, A208_2, c208_2, e208, hx208_0, hx208_1, hx208_2, hl208_1, hi208_1, hl208_2, hi208_2⟩ := at_T63 HR0.out (ji15) p208 q208
            have hw208_2 := hx208_2
            have hw208_1 := hx208_1
            have hw208_0 := hx208_0
            obtain rfl : ad205 = ad208 := (by injection e208)
            replace hx208_0 := (HB.out.cell (World.block_lt_of_cell? w _ hx208_0)).trans hx208_0
            replace hx208_1 := (HB.out.cell (World.block_lt_of_cell? w _ hx208_1)).trans hx208_1
            replace hx208_2 := (HB.out.cell (World.block_lt_of_cell? w _ hx208_2)).trans hx208_2
            have HR208_1 := Aside0.mk hi208_1
            have HC208_1 := Aside0.mk hl208_1
            clear hi208_1 hl208_1
            have HR208_2 := Aside0.mk hi208_2
            have HC208_2 := Aside0.mk hl208_2
            clear hi208_2 hl208_2
            replace p208 := eq_true p208
            replace q208 := eq_true q208
            refine start_ (n := 37) (S := fun w' => w'.cell? ⟨gb206, 0, none⟩ = some (.string ((rd_T63 l0 x7_1).f0)) ∧ w'.cell? ⟨gb206, 1, none⟩ = some (.slice A205_1 ((rd_T63 l0 x7_1).f1).length c205_1) ∧ w'.cell? ⟨gb206, 2, none⟩ = some (.slice A205_2 ((rd_T63 l0 x7_1).f2).length c205_2) ∧ w'.cell? ⟨gb201, 0, none⟩ = some (.slice (some ad205) l0.length c0) ∧ w'.cell? (ad205.add (((ji15)).toNat * 3)) = some (.string ((rd_T63 l0 (ji15)).f0)) ∧ w'.cell? ⟨(ad205.add (((ji15)).toNat * 3)).block, (ad205.add (((ji15)).toNat * 3)).off + 1, none⟩ = some (.slice A208_1 ((rd_T63 l0 (ji15)).f1).length c208_1) ∧ w'.cell? ⟨(ad205.add (((ji15)).toNat * 3)).block, (ad205.add (((ji15)).toNat * 3)).off + 2, none⟩ = some (.slice A208_2 ((rd_T63 l0 (ji15)).f2).length c208_2)) (ds := []) #[false, false, false, false, false, false, false, false, false, false, false, false, false, false, false, false, false, false, false, false, false, false, false, false, false, false, false, false, false, false, false, false, false, false, false, false, false] (by kernel_rfl) rfl rfl ⟨cz BK206 0 _, cz BK206 1 _, cz BK206 2 _, cz BK201 0 _, ((HB.out.cell (World.block_lt_of_cell? w _ hw208_0)).trans hw208_0), ((HB.out.cell (World.block_lt_of_cell? w _ hw208_1)).trans hw208_1), ((HB.out.cell (World.block_lt_of_cell? w _ hw208_2)).trans hw208_2)⟩ (fun hHeld => ?_); refine with_tabW impl_GoodAssets.tab4 impl_GoodAssets.bits4 (fun HT_ HW_ => ?_)
            generalize w11.drew = w25 at BK201 BK206 HB HR208_1 HR208_2 hx208_0 hx208_1 hx208_2 hHeld ⊢
            refine pureA 0 12 (bz 37 1) rfl rfl (any_of HT_.out (by kernel_rfl)) ?_
            refine takeA 1 13 (bz 37 3) rfl rfl (take_ofW HT_.out HW_.out (by kernel_rfl)) hHeld (by rintro w' ⟨s0, s1, s2, s3, s4, s5, s6⟩; go_simp; with_reducible rfl) ?_
            refine one_ (i := 2) (N := some 14) (bz 37 7) rfl rfl (one_of HT_.out (by kernel_rfl)) (by decide) (fun K hK => ?_)
            refine goes_ Try.func34 (by kernel_rfl) rfl #[.string ((rd_T63 l0 x7_1).f0)] (by rfl) rfl rfl aE ?_
            with_reducible refine (impl_GoodName.calls k1 ((rd_T63 l0 x7_1).f0) true _ A12.out).mono ?_
            rintro e w' ⟨rfl, ⟨nd, rfl⟩⟩
            refine ⟨_, rfl, ?_⟩
            refine hK.out _ _ ⟨cz BK206 0 _, cz BK206 1 _, cz BK206 2 _, cz BK201 0 _, ((HB.out.cell (World.block_lt_of_cell? w _ hw208_0)).trans hw208_0), ((HB.out.cell (World.block_lt_of_cell? w _ hw208_1)).trans hw208_1), ((HB.out.cell (World.block_lt_of_cell? w _ hw208_2)).trans hw208_2)⟩ (fun hHeld => ?_)
            clear hK K
            refine norm_ (a' := ?_) ?_ ?_
            rotate_left
            ·show Act.put _ (some 14) _ = _
             simp only [Act.put, List.setIfInBounds_toArray, List.set_cons_zero, List.set_cons_succ, i64_w, i32_w]
             rfl
            refine pureA 3 15 (bz 37 15) rfl rfl (any_of HT_.out (by kernel_rfl)) ?_
            refine pureA 4 16 (bz 37 31) rfl rfl (any_of HT_.out (by kernel_rfl)) ?_
            refine pureA 5 17 (bz 37 63) rfl rfl (any_of HT_.out (by kernel_rfl)) ?_
            refine pureA 6 18 (bz 37 127) rfl rfl (any_of HT_.out (by kernel_rfl)) ?_
            refine pureA 7 19 (bz 37 255) rfl rfl (any_of HT_.out (by kernel_rfl)) ?_
            refine pureA 9 21 (bz 37 767) rfl rfl (any_of HT_.out (by kernel_rfl)) ?_
            refine pureA 10 22 (bz 37 1791) rfl rfl (any_of HT_.out (by kernel_rfl)) ?_
            refine pureA 14 26 (bz 37 18175) rfl rfl (any_of HT_.out (by kernel_rfl)) ?_
            refine takeA 8 20 (bz 37 18431) rfl rfl (take_ofW HT_.out HW_.out (by kernel_rfl)) hHeld (by rintro w' ⟨s0, s1, s2, s3, s4, s5, s6⟩; go_simp; with_reducible rfl) ?_
            refine pureA 11 23 (bz 37 20479) rfl rfl (any_of HT_.out (by kernel_rfl)) ?_
            refine pureA 12 24 (bz 37 24575) rfl rfl (any_of HT_.out (by kernel_rfl)) ?_
            refine takeA 13 25 (bz 37 32767) rfl rfl (take_ofW HT_.out HW_.out (by kernel_rfl)) hHeld (by rintro w' ⟨s0, s1, s2, s3, s4, s5, s6⟩; go_simp; with_reducible rfl) ?_
            refine takeA 15 27 (bz 37 65535) rfl rfl (take_ofW HT_.out HW_.out (by kernel_rfl)) hHeld (by rintro w' ⟨s0, s1, s2, s3, s4, s5, s6⟩; go_simp; with_reducible rfl) ?_
            refine pureA 16 28 (bz 37 131071) rfl rfl (any_of HT_.out (by kernel_rfl)) ?_
            refine pureA 17 29 (bz 37 262143) rfl rfl (any_of HT_.out (by kernel_rfl)) ?_
            refine pureA 18 30 (bz 37 524287) rfl rfl (any_of HT_.out (by kernel_rfl)) ?_
            refine pureA 19 31 (bz 37 1048575) rfl rfl (any_of HT_.out (by kernel_rfl)) ?_
            refine pureU 20 32 (bz 37 2097151) rfl rfl (any_of HT_.out (by kernel_rfl)) ?_
            refine pureU 21 33 (bz 37 4194303) rfl rfl (any_of HT_.out (by kernel_rfl)) ?_
            refine pureU 22 34 (bz 37 8388607) rfl rfl (any_of HT_.out (by kernel_rfl)) ?_
            refine pureU 23 35 (bz 37 16777215) rfl rfl (any_of HT_.out (by kernel_rfl)) ?_
            refine pureA 24 36 (bz 37 33554431) rfl rfl (any_of HT_.out (by kernel_rfl)) ?_
            refine pureA 25 37 (bz 37 67108863) rfl rfl (any_of HT_.out (by kernel_rfl)) ?_
            refine pureU 26 38 (bz 37 134217727) rfl rfl (any_of HT_.out (by kernel_rfl)) ?_
            refine pureU 27 39 (bz 37 268435455) rfl rfl (any_of HT_.out (by kernel_rfl)) ?_
            refine pureU 28 40 (bz 37 536870911) rfl rfl (any_of HT_.out (by kernel_rfl)) ?_
            refine pureU 29 41 (bz 37 1073741823) rfl rfl (any_of HT_.out (by kernel_rfl)) ?_
            refine pureA 30 42 (bz 37 2147483647) rfl rfl (any_of HT_.out (by kernel_rfl)) ?_
            refine pureA 31 43 (bz 37 4294967295) rfl rfl (any_of HT_.out (by kernel_rfl)) ?_
            refine pureU 32 44 (bz 37 8589934591) rfl rfl (any_of HT_.out (by kernel_rfl)) ?_
            refine pureU 33 45 (bz 37 17179869183) rfl rfl (any_of HT_.out (by kernel_rfl)) ?_
            refine pureU 34 46 (bz 37 34359738367) rfl rfl (any_of HT_.out (by kernel_rfl)) ?_
            refine pureU 35 47 (bz 37 68719476735) rfl rfl (any_of HT_.out (by kernel_rfl)) ?_
            refine pureA 36 48 (bz 37 137438953471) rfl rfl (any_of HT_.out (by kernel_rfl)) ?_
            refine done_ (done_of HT_.out (by kernel_rfl)) ?_
            try go_wp2
            go_meet
            case rel => exact ⟨_, (true), tE, H', ⟨by have := HK1.out; first | omega | exact Nat.le_refl _⟩, ⟨by refine bU ?_; exact BK201.out⟩, ⟨by refine bU ?_; exact BK206.out⟩, ⟨by repeat (first | (with_reducible first | exact HB.out | apply below_alloc | apply pw_below_drewN | apply below_drew1 | refine below_set ?_ GE201.out | refine below_set ?_ GE206.out) | exact HB.out)⟩⟩
          ·rw [if_neg c17] at H
           exact absurd H (by simp)
         ·rw [if_neg c16] at H
          exact absurd H (by simp)
        ·rw [if_neg c14] at H
         have c14b0 : decide (0 < x7_1) = false := decide_eq_false c14
         clear c14
         (first | rw [c14b0] | (simp only [i64_w, i32_w]; rw [c14b0]) | (rw [c14b2]; simp only [Bool.not_false, Bool.not_true]) | skip)
         replace H := Option.bind_eq_some_iff.mp H
         obtain ⟨t210, A260, H⟩ := H
         replace H : (if t210 = true then (if (((rd_T63 l0 x7_1).f1).length : Int) > 10 then (impl_GoodAssets.j1 k1 l0 (l0.length : Int) x7_1 true l0 ((rd_T63 l0 x7_1).f0) ((rd_T63 l0 x7_1).f1) ((rd_T63 l0 x7_1).f2)) else (impl_GoodAssets.j1 k1 l0 (l0.length : Int) x7_1 (decide ((((rd_T63 l0 x7_1).f2).length : Int) > 400)) l0 ((rd_T63 l0 x7_1).f0) ((rd_T63 l0 x7_1).f1) ((rd_T63 l0 x7_1).f2))) else (impl_GoodAssets.j1 k1 l0 (l0.length : Int) x7_1 true l0 ((rd_T63 l0 x7_1).f0) ((rd_T63 l0 x7_1).f1) ((rd_T63 l0 x7_1).f2))) = some r := H
         have A26 := Aside0.mk A260
         clear A260
         by_cases c27 : t210 = true
         ·subst c27
          have H1 : (if (((rd_T63 l0 x7_1).f1).length : Int) > 10 then (impl_GoodAssets.j1 k1 l0 (l0.length : Int) x7_1 true l0 ((rd_T63 l0 x7_1).f0) ((rd_T63 l0 x7_1).f1) ((rd_T63 l0 x7_1).f2)) else (impl_GoodAssets.j1 k1 l0 (l0.length : Int) x7_1 (decide ((((rd_T63 l0 x7_1).f2).length : Int) > 400)) l0 ((rd_T63 l0 x7_1).f0) ((rd_T63 l0 x7_1).f1) ((rd_T63 l0 x7_1).f2))) = some r := by rw [if_pos rfl] at H; exact H
          clear H
          have H := H1
          clear H1
          by_cases c28 : (((rd_T63 l0 x7_1).f1).length : Int) > 10
          ·rw [if_pos c28] at H
           have c28b0 : decide (10 < (((rd_T63 l0 x7_1).f1).length : Int)) = true := decide_eq_true c28
           have c28b1 : decide (10 < ((rd_T63 l0 x7_1).f1).length) = true := decide_eq_true (by omega)
           clear c28
           have H' := Aside0.mk H
           clear H
           try go_wp2
           replace BK201 := Aside0.mk (blk_drew BK201.out)
           replace BK206 := Aside0.mk (blk_drew BK206.out)
           replace HB := Aside0.mk (below_drew1 HB.out)
           refine start_ (n := 37) (S := fun w' => w'.cell? ⟨gb206, 0, none⟩ = some (.string ((rd_T63 l0 x7_1).f0)) ∧ w'.cell? ⟨gb206, 1, none⟩ = some (.slice A205_1 ((rd_T63 l0 x7_1).f1).length c205_1) ∧ w'.cell? ⟨gb206, 2, none⟩ = some (.slice A205_2 ((rd_T63 l0 x7_1).f2).length c205_2)) (ds := []) #[false, false, false, false, false, false, false, false, false, false, false, false, false, false, false, false, false, false, false, false, false, false, false, false, false, false, false, false, false, false, false, false, false, false, false, false, false] (by kernel_rfl) rfl rfl ⟨cz BK206 0 _, cz BK206 1 _, cz BK206 2 _⟩ (fun hHeld => ?_); refine with_tabW impl_GoodAssets.tab4 impl_GoodAssets.bits4 (fun HT_ HW_ => ?_)
           generalize w11.drew = w29 at BK201 BK206 HB hHeld ⊢
           refine pureA 0 12 (bz 37 1) rfl rfl (any_of HT_.out (by kernel_rfl)) ?_
           refine takeA 1 13 (bz 37 3) rfl rfl (take_ofW HT_.out HW_.out (by kernel_rfl)) hHeld (by rintro w' ⟨s0, s1, s2⟩; go_simp; with_reducible rfl) ?_
           refine one_ (i := 2) (N := some 14) (bz 37 7) rfl rfl (one_of HT_.out (by kernel_rfl)) (by decide) (fun K hK => ?_)
           refine goes_ Try.func34 (by kernel_rfl) rfl #[.string ((rd_T63 l0 x7_1).f0)] (by rfl) rfl rfl aE ?_
           with_reducible refine (impl_GoodName.calls k1 ((rd_T63 l0 x7_1).f0) true _ A12.out).mono ?_
           rintro e w' ⟨rfl, ⟨nd, rfl⟩⟩
           refine ⟨_, rfl, ?_⟩
           refine hK.out _ _ ⟨cz BK206 0 _, cz BK206 1 _, cz BK206 2 _⟩ (fun hHeld => ?_)
           clear hK K
           refine norm_ (a' := ?_) ?_ ?_
           rotate_left
           ·show Act.put _ (some 14) _ = _
            simp only [Act.put, List.setIfInBounds_toArray, List.set_cons_zero, List.set_cons_succ, i64_w, i32_w]
            rfl
           refine pureA 3 15 (bz 37 15) rfl rfl (any_of HT_.out (by kernel_rfl)) ?_
           refine pureA 4 16 (bz 37 31) rfl rfl (any_of HT_.out (by kernel_rfl)) ?_
           refine pureA 5 17 (bz 37 63) rfl rfl (any_of HT_.out (by kernel_rfl)) ?_
           refine pureA 6 18 (bz 37 127) rfl rfl (any_of HT_.out (by kernel_rfl)) ?_
           refine pureA 7 19 (bz 37 255) rfl rfl (any_of HT_.out (by kernel_rfl)) ?_
           refine pureU 8 20 (bz 37 511) rfl rfl (any_of HT_.out (by kernel_rfl)) ?_
           refine pureU 9 21 (bz 37 1023) rfl rfl (any_of HT_.out (by kernel_rfl)) ?_
           refine pureU 10 22 (bz 37 2047) rfl rfl (any_of HT_.out (by kernel_rfl)) ?_
           refine pureU 11 23 (bz 37 4095) rfl rfl (any_of HT_.out (by kernel_rfl)) ?_
           refine pureU 12 24 (bz 37 8191) rfl rfl (any_of HT_.out (by kernel_rfl)) ?_
           refine pureU 13 25 (bz 37 16383) rfl rfl (any_of HT_.out (by kernel_rfl)) ?_
           refine pureU 14 26 (bz 37 32767) rfl rfl (any_of HT_.out (by kernel_rfl)) ?_
           refine pureU 15 27 (bz 37 65535) rfl rfl (any_of HT_.out (by kernel_rfl)) ?_
           refine pureU 16 28 (bz 37 131071) rfl rfl (any_of HT_.out (by kernel_rfl)) ?_
           refine pureA 17 29 (bz 37 262143) rfl rfl (any_of HT_.out (by kernel_rfl)) ?_
           refine pureA 18 30 (bz 37 524287) rfl rfl (any_of HT_.out (by kernel_rfl)) ?_
           refine pureA 19 31 (bz 37 1048575) rfl rfl (any_of HT_.out (by kernel_rfl)) ?_
           refine pureA 20 32 (bz 37 2097151) rfl rfl (any_of HT_.out (by kernel_rfl)) ?_
           refine takeA 21 33 (bz 37 4194303) rfl rfl (take_ofW HT_.out HW_.out (by kernel_rfl)) hHeld (by rintro w' ⟨s0, s1, s2⟩; go_simp; with_reducible rfl) ?_
           refine one_ (i := 22) (N := some 34) (bz 37 8388607) rfl rfl (one_of HT_.out (by kernel_rfl)) (by decide) (fun K hK => ?_)
           refine goes_ Try.func35 (by kernel_rfl) rfl #[.slice A205_1 ((rd_T63 l0 x7_1).f1).length c205_1] (by rfl) rfl rfl aE ?_
           with_reducible refine (impl_areNames.calls k1 _ _ ((rd_T63 l0 x7_1).f1) true _ ?side1 ?side2 A26.out).mono ?_
           (case side1 => exact cU (Kd.C_below HR205_1.out (lV2 GE201 GE206)))
           (case side2 => exact HC205_1.out)
           rintro e w' ⟨rfl, ⟨nd, rfl⟩⟩
           refine ⟨_, rfl, ?_⟩
           refine hK.out _ _ ⟨cz BK206 0 _, cz BK206 1 _, cz BK206 2 _⟩ (fun hHeld => ?_)
           clear hK K
           refine norm_ (a' := ?_) ?_ ?_
           rotate_left
           ·show Act.put _ (some 34) _ = _
            simp only [Act.put, List.setIfInBounds_toArray, List.set_cons_zero, List.set_cons_succ, i64_w, i32_w]
            rfl
           refine pureA 23 35 (bz 37 16777215) rfl rfl (any_of HT_.out (by kernel_rfl)) ?_
           refine pureA 24 36 (bz 37 33554431) rfl rfl (any_of HT_.out (by kernel_rfl)) ?_
           refine pureA 25 37 (bz 37 67108863) rfl rfl (any_of HT_.out (by kernel_rfl)) ?_
           refine pureA 26 38 (bz 37 134217727) rfl rfl (any_of HT_.out (by kernel_rfl)) ?_
           refine takeA 27 39 (bz 37 268435455) rfl rfl (take_ofW HT_.out HW_.out (by kernel_rfl)) hHeld (by rintro w' ⟨s0, s1, s2⟩; go_simp; with_reducible rfl) ?_
           refine pureA 28 40 (bz 37 536870911) rfl rfl (any_of HT_.out (by kernel_rfl)) ?_
           refine pureA 29 41 (bz 37 1073741823) rfl rfl (any_of HT_.out (by kernel_rfl)) ?_
           refine pureA 30 42 (bz 37 2147483647) rfl rfl (any_of HT_.out (by kernel_rfl)) ?_
           refine pureA 31 43 (bz 37 4294967295) rfl rfl (any_of HT_.out (by kernel_rfl)) ?_
           refine pureU 32 44 (bz 37 8589934591) rfl rfl (any_of HT_.out (by kernel_rfl)) ?_
           refine pureU 33 45 (bz 37 17179869183) rfl rfl (any_of HT_.out (by kernel_rfl)) ?_
           refine pureU 34 46 (bz 37 34359738367) rfl rfl (any_of HT_.out (by kernel_rfl)) ?_
           refine pureU 35 47 (bz 37 68719476735) rfl rfl (any_of HT_.out (by kernel_rfl)) ?_
           refine pureA 36 48 (bz 37 137438953471) rfl rfl (any_of HT_.out (by kernel_rfl)) ?_
           refine done_ (done_of HT_.out (by kernel_rfl)) ?_
           try go_wp2
           go_meet
           case rel => exact ⟨_, (true), tE, H', ⟨by have := HK1.out; first | omega | exact Nat.le_refl _⟩, ⟨by refine bU ?_; exact BK201.out⟩, ⟨by refine bU ?_; exact BK206.out⟩, ⟨by repeat (first | (with_reducible first | exact HB.out | apply below_alloc | apply pw_below_drewN | apply below_drew1 | refine below_set ?_ GE201.out | refine below_set ?_ GE206.out) | exact HB.out)⟩⟩
          ·rw [if_neg c28] at H
           have c28b0 : decide (10 < (((rd_T63 l0 x7_1).f1).length : Int)) = false := decide_eq_false c28
           have c28b1 : decide (10 < ((rd_T63 l0 x7_1).f1).length) = false := decide_eq_false (by omega)
           clear c28
           have H' := Aside0.mk H
           clear H
           try go_wp2
           replace BK201 := Aside0.mk (blk_drew BK201.out)
           replace BK206 := Aside0.mk (blk_drew BK206.out)
           replace HB := Aside0.mk (below_drew1 HB.out)
           refine start_ (n := 37) (S := fun w' => w'.cell? ⟨gb206, 0, none⟩ = some (.string ((rd_T63 l0 x7_1).f0)) ∧ w'.cell? ⟨gb206, 1, none⟩ = some (.slice A205_1 ((rd_T63 l0 x7_1).f1).length c205_1) ∧ w'.cell? ⟨gb206, 2, none⟩ = some (.slice A205_2 ((rd_T63 l0 x7_1).f2).length c205_2)) (ds := []) #[false, false, false, false, false, false, false, false, false, false, false, false, false, false, false, false, false, false, false, false, false, false, false, false, false, false, false, false, false, false, false, false, false, false, false, false, false] (by kernel_rfl) rfl rfl ⟨cz BK206 0 _, cz BK206 1 _, cz BK206 2 _⟩ (fun hHeld => ?_); refine with_tabW impl_GoodAssets.tab4 impl_GoodAssets.bits4 (fun HT_ HW_ => ?_)
           generalize w11.drew = w30 at BK201 BK206 HB hHeld ⊢
           refine pureA 0 12 (bz 37 1) rfl rfl (any_of HT_.out (by kernel_rfl)) ?_
           refine takeA 1 13 (bz 37 3) rfl rfl (take_ofW HT_.out HW_.out (by kernel_rfl)) hHeld (by rintro w' ⟨s0, s1, s2⟩; go_simp; with_reducible rfl) ?_
           refine one_ (i := 2) (N := some 14) (bz 37 7) rfl rfl (one_of HT_.out (by kernel_rfl)) (by decide) (fun K hK => ?_)
           refine goes_ Try.func34 (by kernel_rfl) rfl #[.string ((rd_T63 l0 x7_1).f0)] (by rfl) rfl rfl aE ?_
           with_reducible refine (impl_GoodName.calls k1 ((rd_T63 l0 x7_1).f0) true _ A12.out).mono ?_
           rintro e w' ⟨rfl, ⟨nd, rfl⟩⟩
           refine ⟨_, rfl, ?_⟩
           refine hK.out _ _ ⟨cz BK206 0 _, cz BK206 1 _, cz BK206 2 _⟩ (fun hHeld => ?_)
           clear hK K
           refine norm_ (a' := ?_) ?_ ?_
           rotate_left
           ·show Act.put _ (some 14) _ = _
            simp only [Act.put, List.setIfInBounds_toArray, List.set_cons_zero, List.set_cons_succ, i64_w, i32_w]
            rfl
           refine pureA 3 15 (bz 37 15) rfl rfl (any_of HT_.out (by kernel_rfl)) ?_
           refine pureA 4 16 (bz 37 31) rfl rfl (any_of HT_.out (by kernel_rfl)) ?_
           refine pureA 5 17 (bz 37 63) rfl rfl (any_of HT_.out (by kernel_rfl)) ?_
           refine pureA 6 18 (bz 37 127) rfl rfl (any_of HT_.out (by kernel_rfl)) ?_
           refine pureA 7 19 (bz 37 255) rfl rfl (any_of HT_.out (by kernel_rfl)) ?_
           refine pureU 8 20 (bz 37 511) rfl rfl (any_of HT_.out (by kernel_rfl)) ?_
           refine pureU 9 21 (bz 37 1023) rfl rfl (any_of HT_.out (by kernel_rfl)) ?_
           refine pureU 10 22 (bz 37 2047) rfl rfl (any_of HT_.out (by kernel_rfl)) ?_
           refine pureU 11 23 (bz 37 4095) rfl rfl (any_of HT_.out (by kernel_rfl)) ?_
           refine pureU 12 24 (bz 37 8191) rfl rfl (any_of HT_.out (by kernel_rfl)) ?_
           refine pureU 13 25 (bz 37 16383) rfl rfl (any_of HT_.out (by kernel_rfl)) ?_
           refine pureU 14 26 (bz 37 32767) rfl rfl (any_of HT_.out (by kernel_rfl)) ?_
           refine pureU 15 27 (bz 37 65535) rfl rfl (any_of HT_.out (by kernel_rfl)) ?_
           refine pureU 16 28 (bz 37 131071) rfl rfl (any_of HT_.out (by kernel_rfl)) ?_
           refine pureA 17 29 (bz 37 262143) rfl rfl (any_of HT_.out (by kernel_rfl)) ?_
           refine pureA 18 30 (bz 37 524287) rfl rfl (any_of HT_.out (by kernel_rfl)) ?_
           refine pureA 19 31 (bz 37 1048575) rfl rfl (any_of HT_.out (by kernel_rfl)) ?_
           refine pureA 20 32 (bz 37 2097151) rfl rfl (any_of HT_.out (by kernel_rfl)) ?_
           refine takeA 21 33 (bz 37 4194303) rfl rfl (take_ofW HT_.out HW_.out (by kernel_rfl)) hHeld (by rintro w' ⟨s0, s1, s2⟩; go_simp; with_reducible rfl) ?_
           refine one_ (i := 22) (N := some 34) (bz 37 8388607) rfl rfl (one_of HT_.out (by kernel_rfl)) (by decide) (fun K hK => ?_)
           refine goes_ Try.func35 (by kernel_rfl) rfl #[.slice A205_1 ((rd_T63 l0 x7_1).f1).length c205_1] (by rfl) rfl rfl aE ?_
           with_reducible refine (impl_areNames.calls k1 _ _ ((rd_T63 l0 x7_1).f1) true _ ?side1 ?side2 A26.out).mono ?_
           (case side1 => exact cU (Kd.C_below HR205_1.out (lV2 GE201 GE206)))
           (case side2 => exact HC205_1.out)
           rintro e w' ⟨rfl, ⟨nd, rfl⟩⟩
           refine ⟨_, rfl, ?_⟩
           refine hK.out _ _ ⟨cz BK206 0 _, cz BK206 1 _, cz BK206 2 _⟩ (fun hHeld => ?_)
           clear hK K
           refine norm_ (a' := ?_) ?_ ?_
           rotate_left
           ·show Act.put _ (some 34) _ = _
            simp only [Act.put, List.setIfInBounds_toArray, List.set_cons_zero, List.set_cons_succ, i64_w, i32_w]
            rfl
           refine pureA 23 35 (bz 37 16777215) rfl rfl (any_of HT_.out (by kernel_rfl)) ?_
           refine pureA 24 36 (bz 37 33554431) rfl rfl (any_of HT_.out (by kernel_rfl)) ?_
           refine pureA 25 37 (bz 37 67108863) rfl rfl (any_of HT_.out (by kernel_rfl)) ?_
           refine pureA 26 38 (bz 37 134217727) rfl rfl (any_of HT_.out (by kernel_rfl)) ?_
           refine takeA 27 39 (bz 37 268435455) rfl rfl (take_ofW HT_.out HW_.out (by kernel_rfl)) hHeld (by rintro w' ⟨s0, s1, s2⟩; go_simp; with_reducible rfl) ?_
           refine pureA 28 40 (bz 37 536870911) rfl rfl (any_of HT_.out (by kernel_rfl)) ?_
           refine pureA 29 41 (bz 37 1073741823) rfl rfl (any_of HT_.out (by kernel_rfl)) ?_
           refine pureA 30 42 (bz 37 2147483647) rfl rfl (any_of HT_.out (by kernel_rfl)) ?_
           refine pureA 31 43 (bz 37 4294967295) rfl rfl (any_of HT_.out (by kernel_rfl)) ?_
           refine pureA 32 44 (bz 37 8589934591) rfl rfl (any_of HT_.out (by kernel_rfl)) ?_
           refine takeA 33 45 (bz 37 17179869183) rfl rfl (take_ofW HT_.out HW_.out (by kernel_rfl)) hHeld (by rintro w' ⟨s0, s1, s2⟩; go_simp; with_reducible rfl) ?_
           refine pureA 34 46 (bz 37 34359738367) rfl rfl (any_of HT_.out (by kernel_rfl)) ?_
           refine pureA 35 47 (bz 37 68719476735) rfl rfl (any_of HT_.out (by kernel_rfl)) ?_
           refine pureA 36 48 (bz 37 137438953471) rfl rfl (any_of HT_.out (by kernel_rfl)) ?_
           refine done_ (done_of HT_.out (by kernel_rfl)) ?_
           try go_wp2
           go_meet
           case rel => exact ⟨_, (decide ((((rd_T63 l0 x7_1).f2).length : Int) > 400)), tE, H', ⟨by have := HK1.out; first | omega | exact Nat.le_refl _⟩, ⟨by refine bU ?_; exact BK201.out⟩, ⟨by refine bU ?_; exact BK206.out⟩, ⟨by repeat (first | (with_reducible first | exact HB.out | apply below_alloc | apply pw_below_drewN | apply below_drew1 | refine below_set ?_ GE201.out | refine below_set ?_ GE206.out) | exact HB.out)⟩⟩
         ·replace c27 := Bool.eq_false_iff.mpr c27
          subst c27
          have H1 : (impl_GoodAssets.j1 k1 l0 (l0.length : Int) x7_1 true l0 ((rd_T63 l0 x7_1).f0) ((rd_T63 l0 x7_1).f1) ((rd_T63 l0 x7_1).f2)) = some r := by rw [if_neg (show ¬ (false = true) by decide)] at H; exact H
          clear H
          have H := H1
          clear H1
          have H' := Aside0.mk H
          clear H
          try go_wp2
          replace BK201 := Aside0.mk (blk_drew BK201.out)
          replace BK206 := Aside0.mk (blk_drew BK206.out)
          replace HB := Aside0.mk (below_drew1 HB.out)
          refine start_ (n := 37) (S := fun w' => w'.cell? ⟨gb206, 0, none⟩ = some (.string ((rd_T63 l0 x7_1).f0)) ∧ w'.cell? ⟨gb206, 1, none⟩ = some (.slice A205_1 ((rd_T63 l0 x7_1).f1).length c205_1) ∧ w'.cell? ⟨gb206, 2, none⟩ = some (.slice A205_2 ((rd_T63 l0 x7_1).f2).length c205_2)) (ds := []) #[false, false, false, false, false, false, false, false, false, false, false, false, false, false, false, false, false, false, false, false, false, false, false, false, false, false, false, false, false, false, false, false, false, false, false, false, false] (by kernel_rfl) rfl rfl ⟨cz BK206 0 _, cz BK206 1 _, cz BK206 2 _⟩ (fun hHeld => ?_); refine with_tabW impl_GoodAssets.tab4 impl_GoodAssets.bits4 (fun HT_ HW_ => ?_)
          generalize w11.drew = w31 at BK201 BK206 HB hHeld ⊢
          refine pureA 0 12 (bz 37 1) rfl rfl (any_of HT_.out (by kernel_rfl)) ?_
          refine takeA 1 13 (bz 37 3) rfl rfl (take_ofW HT_.out HW_.out (by kernel_rfl)) hHeld (by rintro w' ⟨s0, s1, s2⟩; go_simp; with_reducible rfl) ?_
          refine one_ (i := 2) (N := some 14) (bz 37 7) rfl rfl (one_of HT_.out (by kernel_rfl)) (by decide) (fun K hK => ?_)
          refine goes_ Try.func34 (by kernel_rfl) rfl #[.string ((rd_T63 l0 x7_1).f0)] (by rfl) rfl rfl aE ?_
          with_reducible refine (impl_GoodName.calls k1 ((rd_T63 l0 x7_1).f0) true _ A12.out).mono ?_
          rintro e w' ⟨rfl, ⟨nd, rfl⟩⟩
          refine ⟨_, rfl, ?_⟩
          refine hK.out _ _ ⟨cz BK206 0 _, cz BK206 1 _, cz BK206 2 _⟩ (fun hHeld => ?_)
          clear hK K
          refine norm_ (a' := ?_) ?_ ?_
          rotate_left
          ·show Act.put _ (some 14) _ = _
           simp only [Act.put, List.setIfInBounds_toArray, List.set_cons_zero, List.set_cons_succ, i64_w, i32_w]
           rfl
          refine pureA 3 15 (bz 37 15) rfl rfl (any_of HT_.out (by kernel_rfl)) ?_
          refine pureA 4 16 (bz 37 31) rfl rfl (any_of HT_.out (by kernel_rfl)) ?_
          refine pureA 5 17 (bz 37 63) rfl rfl (any_of HT_.out (by kernel_rfl)) ?_
          refine pureA 6 18 (bz 37 127) rfl rfl (any_of HT_.out (by kernel_rfl)) ?_
          refine pureA 7 19 (bz 37 255) rfl rfl (any_of HT_.out (by kernel_rfl)) ?_
          refine pureU 8 20 (bz 37 511) rfl rfl (any_of HT_.out (by kernel_rfl)) ?_
          refine pureU 9 21 (bz 37 1023) rfl rfl (any_of HT_.out (by kernel_rfl)) ?_
          refine pureU 10 22 (bz 37 2047) rfl rfl (any_of HT_.out (by kernel_rfl)) ?_
          refine pureU 11 23 (bz 37 4095) rfl rfl (any_of HT_.out (by kernel_rfl)) ?_
          refine pureU 12 24 (bz 37 8191) rfl rfl (any_of HT_.out (by kernel_rfl)) ?_
          refine pureU 13 25 (bz 37 16383) rfl rfl (any_of HT_.out (by kernel_rfl)) ?_
          refine pureU 14 26 (bz 37 32767) rfl rfl (any_of HT_.out (by kernel_rfl)) ?_
          refine pureU 15 27 (bz 37 65535) rfl rfl (any_of HT_.out (by kernel_rfl)) ?_
          refine pureU 16 28 (bz 37 131071) rfl rfl (any_of HT_.out (by kernel_rfl)) ?_
          refine pureA 17 29 (bz 37 262143) rfl rfl (any_of HT_.out (by kernel_rfl)) ?_
          refine pureA 18 30 (bz 37 524287) rfl rfl (any_of HT_.out (by kernel_rfl)) ?_
          refine pureA 19 31 (bz 37 1048575) rfl rfl (any_of HT_.out (by kernel_rfl)) ?_
          refine pureA 20 32 (bz 37 2097151) rfl rfl (any_of HT_.out (by kernel_rfl)) ?_
          refine takeA 21 33 (bz 37 4194303) rfl rfl (take_ofW HT_.out HW_.out (by kernel_rfl)) hHeld (by rintro w' ⟨s0, s1, s2⟩; go_simp; with_reducible rfl) ?_
          refine one_ (i := 22) (N := some 34) (bz 37 8388607) rfl rfl (one_of HT_.out (by kernel_rfl)) (by decide) (fun K hK => ?_)
          refine goes_ Try.func35 (by kernel_rfl) rfl #[.slice A205_1 ((rd_T63 l0 x7_1).f1).length c205_1] (by rfl) rfl rfl aE ?_
          with_reducible refine (impl_areNames.calls k1 _ _ ((rd_T63 l0 x7_1).f1) false _ ?side1 ?side2 A26.out).mono ?_
          (case side1 => exact cU (Kd.C_below HR205_1.out (lV2 GE201 GE206)))
          (case side2 => exact HC205_1.out)
          rintro e w' ⟨rfl, ⟨nd, rfl⟩⟩
          refine ⟨_, rfl, ?_⟩
          refine hK.out _ _ ⟨cz BK206 0 _, cz BK206 1 _, cz BK206 2 _⟩ (fun hHeld => ?_)
          clear hK K
          refine norm_ (a' := ?_) ?_ ?_
          rotate_left
          ·show Act.put _ (some 34) _ = _
           simp only [Act.put, List.setIfInBounds_toArray, List.set_cons_zero, List.set_cons_succ, i64_w, i32_w]
           rfl
          refine pureA 23 35 (bz 37 16777215) rfl rfl (any_of HT_.out (by kernel_rfl)) ?_
          refine pureA 24 36 (bz 37 33554431) rfl rfl (any_of HT_.out (by kernel_rfl)) ?_
          refine pureA 25 37 (bz 37 67108863) rfl rfl (any_of HT_.out (by kernel_rfl)) ?_
          refine pureU 26 38 (bz 37 134217727) rfl rfl (any_of HT_.out (by kernel_rfl)) ?_
          refine pureU 27 39 (bz 37 268435455) rfl rfl (any_of HT_.out (by kernel_rfl)) ?_
          refine pureU 28 40 (bz 37 536870911) rfl rfl (any_of HT_.out (by kernel_rfl)) ?_
          refine pureU 29 41 (bz 37 1073741823) rfl rfl (any_of HT_.out (by kernel_rfl)) ?_
          refine pureA 30 42 (bz 37 2147483647) rfl rfl (any_of HT_.out (by kernel_rfl)) ?_
          refine pureA 31 43 (bz 37 4294967295) rfl rfl (any_of HT_.out (by kernel_rfl)) ?_
          refine pureU 32 44 (bz 37 8589934591) rfl rfl (any_of HT_.out (by kernel_rfl)) ?_
          refine pureU 33 45 (bz 37 17179869183) rfl rfl (any_of HT_.out (by kernel_rfl)) ?_
          refine pureU 34 46 (bz 37 34359738367) rfl rfl (any_of HT_.out (by kernel_rfl)) ?_
          refine pureU 35 47 (bz 37 68719476735) rfl rfl (any_of HT_.out (by kernel_rfl)) ?_
          refine pureA 36 48 (bz 37 137438953471) rfl rfl (any_of HT_.out (by kernel_rfl)) ?_
          refine done_ (done_of HT_.out (by kernel_rfl)) ?_
          try go_wp2
          go_meet
          case rel => exact ⟨_, (true), tE, H', ⟨by have := HK1.out; first | omega | exact Nat.le_refl _⟩, ⟨by refine bU ?_; exact BK201.out⟩, ⟨by refine bU ?_; exact BK206.out⟩, ⟨by repeat (first | (with_reducible first | exact HB.out | apply below_alloc | apply pw_below_drewN | apply below_drew1 | refine below_set ?_ GE201.out | refine below_set ?_ GE206.out) | exact HB.out)⟩⟩
       ·replace c13 := Bool.eq_false_iff.mpr c13
        subst c13
        have H1 : (impl_GoodAssets.j1 k1 l0 (l0.length : Int) x7_1 true l0 ((rd_T63 l0 x7_1).f0) ((rd_T63 l0 x7_1).f1) ((rd_T63 l0 x7_1).f2)) = some r := by rw [if_neg (show ¬ (false = true) by decide)] at H; exact H
        clear H
        have H := H1
        clear H1
        have H' := Aside0.mk H
        clear H
        try go_wp2
        replace BK201 := Aside0.mk (blk_drew BK201.out)
        replace BK206 := Aside0.mk (blk_drew BK206.out)
        replace HB := Aside0.mk (below_drew1 HB.out)
        refine start_ (n := 37) (S := fun w' => w'.cell? ⟨gb206, 0, none⟩ = some (.string ((rd_T63 l0 x7_1).f0)) ∧ w'.cell? ⟨gb206, 1, none⟩ = some (.slice A205_1 ((rd_T63 l0 x7_1).f1).length c205_1) ∧ w'.cell? ⟨gb206, 2, none⟩ = some (.slice A205_2 ((rd_T63 l0 x7_1).f2).length c205_2)) (ds := []) #[false, false, false, false, false, false, false, false, false, false, false, false, false, false, false, false, false, false, false, false, false, false, false, false, false, false, false, false, false, false, false, false, false, false, false, false, false] (by kernel_rfl) rfl rfl ⟨cz BK206 0 _, cz BK206 1 _, cz BK206 2 _⟩ (fun hHeld => ?_); refine with_tabW impl_GoodAssets.tab4 impl_GoodAssets.bits4 (fun HT_ HW_ => ?_)
        generalize w11.drew = w32 at BK201 BK206 HB hHeld ⊢
        refine pureA 0 12 (bz 37 1) rfl rfl (any_of HT_.out (by kernel_rfl)) ?_
        refine takeA 1 13 (bz 37 3) rfl rfl (take_ofW HT_.out HW_.out (by kernel_rfl)) hHeld (by rintro w' ⟨s0, s1, s2⟩; go_simp; with_reducible rfl) ?_
        refine one_ (i := 2) (N := some 14) (bz 37 7) rfl rfl (one_of HT_.out (by kernel_rfl)) (by decide) (fun K hK => ?_)
        refine goes_ Try.func34 (by kernel_rfl) rfl #[.string ((rd_T63 l0 x7_1).f0)] (by rfl) rfl rfl aE ?_
        with_reducible refine (impl_GoodName.calls k1 ((rd_T63 l0 x7_1).f0) false _ A12.out).mono ?_
        rintro e w' ⟨rfl, ⟨nd, rfl⟩⟩
        refine ⟨_, rfl, ?_⟩
        refine hK.out _ _ ⟨cz BK206 0 _, cz BK206 1 _, cz BK206 2 _⟩ (fun hHeld => ?_)
        clear hK K
        refine norm_ (a' := ?_) ?_ ?_
        rotate_left
        ·show Act.put _ (some 14) _ = _
         simp only [Act.put, List.setIfInBounds_toArray, List.set_cons_zero, List.set_cons_succ, i64_w, i32_w]
         rfl
        refine pureA 3 15 (bz 37 15) rfl rfl (any_of HT_.out (by kernel_rfl)) ?_
        refine pureA 4 16 (bz 37 31) rfl rfl (any_of HT_.out (by kernel_rfl)) ?_
        refine pureU 5 17 (bz 37 63) rfl rfl (any_of HT_.out (by kernel_rfl)) ?_
        refine pureU 6 18 (bz 37 127) rfl rfl (any_of HT_.out (by kernel_rfl)) ?_
        refine pureU 7 19 (bz 37 255) rfl rfl (any_of HT_.out (by kernel_rfl)) ?_
        refine pureU 8 20 (bz 37 511) rfl rfl (any_of HT_.out (by kernel_rfl)) ?_
        refine pureU 9 21 (bz 37 1023) rfl rfl (any_of HT_.out (by kernel_rfl)) ?_
        refine pureU 10 22 (bz 37 2047) rfl rfl (any_of HT_.out (by kernel_rfl)) ?_
        refine pureU 11 23 (bz 37 4095) rfl rfl (any_of HT_.out (by kernel_rfl)) ?_
        refine pureU 12 24 (bz 37 8191) rfl rfl (any_of HT_.out (by kernel_rfl)) ?_
        refine pureU 13 25 (bz 37 16383) rfl rfl (any_of HT_.out (by kernel_rfl)) ?_
        refine pureU 14 26 (bz 37 32767) rfl rfl (any_of HT_.out (by kernel_rfl)) ?_
        refine pureU 15 27 (bz 37 65535) rfl rfl (any_of HT_.out (by kernel_rfl)) ?_
        refine pureU 16 28 (bz 37 131071) rfl rfl (any_of HT_.out (by kernel_rfl)) ?_
        refine pureU 17 29 (bz 37 262143) rfl rfl (any_of HT_.out (by kernel_rfl)) ?_
        refine pureA 18 30 (bz 37 524287) rfl rfl (any_of HT_.out (by kernel_rfl)) ?_
        refine pureA 19 31 (bz 37 1048575) rfl rfl (any_of HT_.out (by kernel_rfl)) ?_
        refine pureU 20 32 (bz 37 2097151) rfl rfl (any_of HT_.out (by kernel_rfl)) ?_
        refine pureU 21 33 (bz 37 4194303) rfl rfl (any_of HT_.out (by kernel_rfl)) ?_
        refine pureU 22 34 (bz 37 8388607) rfl rfl (any_of HT_.out (by kernel_rfl)) ?_
        refine pureU 23 35 (bz 37 16777215) rfl rfl (any_of HT_.out (by kernel_rfl)) ?_
        refine pureA 24 36 (bz 37 33554431) rfl rfl (any_of HT_.out (by kernel_rfl)) ?_
        refine pureA 25 37 (bz 37 67108863) rfl rfl (any_of HT_.out (by kernel_rfl)) ?_
        refine pureU 26 38 (bz 37 134217727) rfl rfl (any_of HT_.out (by kernel_rfl)) ?_
        refine pureU 27 39 (bz 37 268435455) rfl rfl (any_of HT_.out (by kernel_rfl)) ?_
        refine pureU 28 40 (bz 37 536870911) rfl rfl (any_of HT_.out (by kernel_rfl)) ?_
        refine pureU 29 41 (bz 37 1073741823) rfl rfl (any_of HT_.out (by kernel_rfl)) ?_
        refine pureA 30 42 (bz 37 2147483647) rfl rfl (any_of HT_.out (by kernel_rfl)) ?_
        refine pureA 31 43 (bz 37 4294967295) rfl rfl (any_of HT_.out (by kernel_rfl)) ?_
        refine pureU 32 44 (bz 37 8589934591) rfl rfl (any_of HT_.out (by kernel_rfl)) ?_
        refine pureU 33 45 (bz 37 17179869183) rfl rfl (any_of HT_.out (by kernel_rfl)) ?_
        refine pureU 34 46 (bz 37 34359738367) rfl rfl (any_of HT_.out (by kernel_rfl)) ?_
        refine pureU 35 47 (bz 37 68719476735) rfl rfl (any_of HT_.out (by kernel_rfl)) ?_
        refine pureA 36 48 (bz 37 137438953471) rfl rfl (any_of HT_.out (by kernel_rfl)) ?_
        refine done_ (done_of HT_.out (by kernel_rfl)) ?_
        try go_wp2
        go_meet
        case rel => exact ⟨_, (true), tE, H', ⟨by have := HK1.out; first | omega | exact Nat.le_refl _⟩, ⟨by refine bU ?_; exact BK201.out⟩, ⟨by refine bU ?_; exact BK206.out⟩, ⟨by repeat (first | (with_reducible first | exact HB.out | apply below_alloc | apply pw_below_drewN | apply below_drew1 | refine below_set ?_ GE201.out | refine below_set ?_ GE206.out) | exact HB.out)⟩⟩
      case rest =>
       clear HC7
       try clear c1
       try clear c2
       try clear p2
       try clear c3
       try clear c13
       try clear c20
       try clear c27
       obtain ⟨kq, x48_6, rfl, HA, HJ6, BK201, BK206, HB⟩ := hcut
       cases kq with
       | zero => exact absurd HA.out (by simp [impl_GoodAssets.j1])
       | succ kj6 =>
        have H := HA.out
        clear HA
        simp only [impl_GoodAssets.j1] at H
        by_cases c33 : x48_6 = true
        ·subst c33
         have H1 : (some false) = some r := by rw [if_pos rfl] at H; exact H
         clear H
         have H := H1
         clear H1
         obtain rfl := Option.some.inj H
         go_wp2
         go_ret
         exact ⟨eE, lV2 GE201 GE206⟩
        ·replace c33 := Bool.eq_false_iff.mpr c33
         subst c33
         have H1 : ((slices_ContainsFunc_w37.f kj6 ((rd_T63 l0 x7_1).f1) l0).bind fun t211 => (if t211 = true then (some false) else (impl_GoodAssets.l0 kj6 l0 (l0.length : Int) (wrap64 (x7_1 + 1)) l0))) = some r := by rw [if_neg (show ¬ (false = true) by decide)] at H; exact H
         clear H
         have H := H1
         clear H1
         replace H := Option.bind_eq_some_iff.mp H
         obtain ⟨t211, A340, H⟩ := H
         replace H : (if t211 = true then (some false) else (impl_GoodAssets.l0 kj6 l0 (l0.length : Int) (wrap64 (x7_1 + 1)) l0)) = some r := H
         have A34 := Aside0.mk A340
         clear A340
         by_cases c35 : t211 = true
         ·subst c35
          have H1 : (some false) = some r := by rw [if_pos rfl] at H; exact H
          clear H
          have H := H1
          clear H1
          obtain rfl := Option.some.inj H
          have hnb36 := NB206_201.out
          have hnc36 := NB201_206.out
          have hcz37_0 := cz BK206 0 (.string ((rd_T63 l0 x7_1).f0))
          have hcz37_1 := cz BK206 1 (.slice A205_1 ((rd_T63 l0 x7_1).f1).length c205_1)
          have hcz37_2 := cz BK206 2 (.slice A205_2 ((rd_T63 l0 x7_1).f2).length c205_2)
          have hfz37_0 := fz BK206 0
          have hfz37_1 := fz BK206 1
          have hfz37_2 := fz BK206 2
          go_wp2_with (first | ((with_reducible refine gate_callee (f := 36) rfl ?_); refine goesL_ (some 52) rfl rfl Try.func36 (by kernel_rfl) rfl #[.slice A205_1 ((rd_T63 l0 x7_1).f1).length c205_1, .func (.func 37) #[] #[.pointer (some ⟨gb201, 0, none⟩)]] rfl aE ?_; (with_reducible refine (slices_ContainsFunc_w37.calls kj6 _ _ ((rd_T63 l0 x7_1).f1) gb201 (some ad205) c0 l0 true _ ?side1 ?side2 ?side3 ?side4 ?side5 A34.out).mono ?_); (case side1 => exact cU (Kd.C_below HR205_1.out HB.out)); (case side2 => exact HC205_1.out); (case side3 => exact cU (Kd.C_below HR0.out HB.out)); (case side4 => exact HC0.out); (case side5 => refine bU ?_; exact BK201.out); rintro e w38 ⟨rfl, hb⟩; refine ⟨_, rfl, ?_⟩; replace BK201 := bB (bV BK201) hb; replace BK206 := bB (bV BK206) hb; replace HB := bH (lV2 GE201 GE206) hb; (try clear hb)))
          go_ret
          exact ⟨eE, lV2 GE201 GE206⟩
         ·replace c35 := Bool.eq_false_iff.mpr c35
          subst c35
          have H1 : (impl_GoodAssets.l0 kj6 l0 (l0.length : Int) (wrap64 (x7_1 + 1)) l0) = some r := by rw [if_neg (show ¬ (false = true) by decide)] at H; exact H
          clear H
          have H := H1
          clear H1
          have H' := Aside0.mk H
          clear H
          have hnb39 := NB206_201.out
          have hnc39 := NB201_206.out
          have hcz40_0 := cz BK206 0 (.string ((rd_T63 l0 x7_1).f0))
          have hcz40_1 := cz BK206 1 (.slice A205_1 ((rd_T63 l0 x7_1).f1).length c205_1)
          have hcz40_2 := cz BK206 2 (.slice A205_2 ((rd_T63 l0 x7_1).f2).length c205_2)
          have hfz40_0 := fz BK206 0
          have hfz40_1 := fz BK206 1
          have hfz40_2 := fz BK206 2
          go_wp2_with (first | ((with_reducible refine gate_callee (f := 36) rfl ?_); refine goesL_ (some 52) rfl rfl Try.func36 (by kernel_rfl) rfl #[.slice A205_1 ((rd_T63 l0 x7_1).f1).length c205_1, .func (.func 37) #[] #[.pointer (some ⟨gb201, 0, none⟩)]] rfl aE ?_; (with_reducible refine (slices_ContainsFunc_w37.calls kj6 _ _ ((rd_T63 l0 x7_1).f1) gb201 (some ad205) c0 l0 false _ ?side1 ?side2 ?side3 ?side4 ?side5 A34.out).mono ?_); (case side1 => exact cU (Kd.C_below HR205_1.out HB.out)); (case side2 => exact HC205_1.out); (case side3 => exact cU (Kd.C_below HR0.out HB.out)); (case side4 => exact HC0.out); (case side5 => refine bU ?_; exact BK201.out); rintro e w41 ⟨rfl, hb⟩; refine ⟨_, rfl, ?_⟩; replace BK201 := bB (bV BK201) hb; replace BK206 := bB (bV BK206) hb; replace HB := bH (lV2 GE201 GE206) hb; (try clear hb)))
          go_roundg kj6
          case measure => have := HK1.out; have := HJ6.out; omega
          case rel => exact ⟨(wrap64 (x7_1 + 1)), tE, H', ⟨by have := HK1.out; have := HJ6.out; omega⟩, ⟨by refine bU ?_; exact BK201.out⟩, ⟨by repeat (first | (with_reducible first | exact HB.out | apply below_alloc | apply pw_below_drewN | apply below_drew1 | refine below_set ?_ GE201.out | refine below_set ?_ GE206.out) | exact HB.out)⟩⟩
     ·rw [if_neg c6] at H
      exact absurd H (by simp)
    ·rw [if_neg c5] at H
     exact absurd H (by simp)
   ·rw [if_neg c4] at H
    have c4b0 : decide (x7_1 < (l0.length : Int)) = false := decide_eq_false c4
    clear c4
    by_cases c42 : (l0.length : Int) ≤ 30
    ·rw [if_pos c42] at H
     have c42b0 : decide ((l0.length : Int) ≤ 30) = true := decide_eq_true c42
     have c42b1 : decide (l0.length ≤ 30) = true := decide_eq_true (by omega)
     clear c42
     replace H := Option.bind_eq_some_iff.mp H
     obtain ⟨t202, A430, H⟩ := H
     replace H : (some ((t202.length : Int) == (l0.length : Int))) = some r := H
     have A43 := Aside0.mk A430
     clear A430
     obtain rfl := Option.some.inj H
     try go_wp2
     replace BK201 := Aside0.mk (blk_drew BK201.out)
     replace HB := Aside0.mk (below_drew1 HB.out)
     refine start_ (n := 12) (S := fun w' => w'.cell? ⟨gb201, 0, none⟩ = some (.slice A0 l0.length c0)) (ds := []) #[false, false, false, false, false, false, false, false, false, false, false, false] (by kernel_rfl) rfl rfl (cz BK201 0 _) (fun hHeld => ?_); refine with_tabW impl_GoodAssets.tab9 impl_GoodAssets.bits9 (fun HT_ HW_ => ?_)
     generalize wr.drew = w44 at BK201 HB hHeld ⊢
     refine take_ (i := 0) (N := some 54) (v := ?_) (a' := ?_) (bz 12 1) rfl rfl (take_ofW HT_.out HW_.out (by kernel_rfl)) (fun _ _ _ h => h) (Or.inl ⟨by rfl, ?_⟩) hHeld ?_ ?_
     rotate_left
     ·intro w' s0
      go_simp
      with_reducible rfl
     rotate_left
     ·simp only [Act.put, List.setIfInBounds_toArray, List.set_cons_zero, List.set_cons_succ, i64_w, i32_w]
      rfl
     refine pureA 1 55 (bz 12 3) rfl rfl (any_of HT_.out (by kernel_rfl)) ?_
     refine pureA 2 56 (bz 12 7) rfl rfl (any_of HT_.out (by kernel_rfl)) ?_
     refine pureA 3 57 (bz 12 15) rfl rfl (any_of HT_.out (by kernel_rfl)) ?_
     refine take_ (i := 4) (N := some 58) (v := ?_) (a' := ?_) (bz 12 31) rfl rfl (take_ofW HT_.out HW_.out (by kernel_rfl)) (fun _ _ _ h => h) (Or.inl ⟨by rfl, ?_⟩) hHeld ?_ ?_
     rotate_left
     ·intro w' s0
      go_simp
      with_reducible rfl
     rotate_left
     ·simp only [Act.put, List.setIfInBounds_toArray, List.set_cons_zero, List.set_cons_succ, i64_w, i32_w]
      rfl
     refine take_ (i := 7) (N := some 61) (v := ?_) (a' := ?_) (bz 12 159) rfl rfl (take_ofW HT_.out HW_.out (by kernel_rfl)) (fun _ _ _ h => h) (Or.inl ⟨by rfl, ?_⟩) hHeld ?_ ?_
     rotate_left
     ·intro w' s0
      go_simp
      with_reducible rfl
     rotate_left
     ·simp only [Act.put, List.setIfInBounds_toArray, List.set_cons_zero, List.set_cons_succ, i64_w, i32_w]
      rfl
     refine pureA 8 62 (bz 12 415) rfl rfl (any_of HT_.out (by kernel_rfl)) ?_
     refine one_ (i := 5) (N := some 59) (bz 12 447) rfl rfl (one_of HT_.out (by kernel_rfl)) (by decide) (fun K hK => ?_)
     refine goes_ Try.func39 (by kernel_rfl) rfl #[.slice A0 l0.length c0] (by rfl) rfl rfl aE ?_
     with_reducible refine (impl_makeOrder.calls k1 _ _ l0 t202 _ ?side1 ?side2 A43.out).mono ?_
     (case side1 => exact cU (Kd.C_below HR0.out HB.out))
     (case side2 => exact HC0.out)
     rintro e w45 ⟨v203, rfl, ho0, hb⟩
     refine ⟨_, rfl, ?_⟩
     have HO204 := Aside0.mk (Kd.R_lower ho0 (below_size (lV1 GE201)))
     replace BK201 := bB (bV BK201) hb
     replace HB := bH (lV1 GE201) hb
     (try clear hb)
     (try clear hb2)
     (try clear hk)
     (try clear hi)
     (try clear ho0)
     obtain ⟨Ao46, co46, eo46⟩ := Kd.R_slice HO204.out
     (first | subst eo46 | (injection eo46 with f1_ f2_ f3_; have f4_ := f1_.symm; have f5_ := f3_.symm; clear f1_ f2_ f3_; subst f4_; subst f5_))
     refine hK.out _ _ (cz BK201 0 _) (fun hHeld => ?_)
     clear hK K
     refine norm_ (a' := ?_) ?_ ?_
     rotate_left
     ·show Act.put _ (some 59) _ = _
      simp only [Act.put, List.setIfInBounds_toArray, List.set_cons_zero, List.set_cons_succ, i64_w, i32_w]
      rfl
     refine pureA 6 60 (bz 12 511) rfl rfl (any_of HT_.out (by kernel_rfl)) ?_
     refine pureA 9 63 (bz 12 1023) rfl rfl (any_of HT_.out (by kernel_rfl)) ?_
     refine pureA 10 64 (bz 12 2047) rfl rfl (any_of HT_.out (by kernel_rfl)) ?_
     refine pureA 11 2 (bz 12 4095) rfl rfl (any_of HT_.out (by kernel_rfl)) ?_
     refine done_ (done_of HT_.out (by kernel_rfl)) ?_
     try go_wp2
     go_ret
     exact ⟨eE, lV1 GE201⟩
    ·rw [if_neg c42] at H
     have c42b0 : decide ((l0.length : Int) ≤ 30) = false := decide_eq_false c42
     have c42b1 : decide (l0.length ≤ 30) = false := decide_eq_false (by omega)
     clear c42
     obtain rfl := Option.some.inj H
     try go_wp2
     replace BK201 := Aside0.mk (blk_drew BK201.out)
     replace HB := Aside0.mk (below_drew1 HB.out)
     refine start_ (n := 12) (S := fun w' => w'.cell? ⟨gb201, 0, none⟩ = some (.slice A0 l0.length c0)) (ds := []) #[false, false, false, false, false, false, false, false, false, false, false, false] (by kernel_rfl) rfl rfl (cz BK201 0 _) (fun hHeld => ?_); refine with_tabW impl_GoodAssets.tab9 impl_GoodAssets.bits9 (fun HT_ HW_ => ?_)
     generalize wr.drew = w47 at BK201 HB hHeld ⊢
     refine take_ (i := 0) (N := some 54) (v := ?_) (a' := ?_) (bz 12 1) rfl rfl (take_ofW HT_.out HW_.out (by kernel_rfl)) (fun _ _ _ h => h) (Or.inl ⟨by rfl, ?_⟩) hHeld ?_ ?_
     rotate_left
     ·intro w' s0
      go_simp
      with_reducible rfl
     rotate_left
     ·simp only [Act.put, List.setIfInBounds_toArray, List.set_cons_zero, List.set_cons_succ, i64_w, i32_w]
      rfl
     refine pureA 1 55 (bz 12 3) rfl rfl (any_of HT_.out (by kernel_rfl)) ?_
     refine pureA 2 56 (bz 12 7) rfl rfl (any_of HT_.out (by kernel_rfl)) ?_
     refine pureA 3 57 (bz 12 15) rfl rfl (any_of HT_.out (by kernel_rfl)) ?_
     refine pureU 4 58 (bz 12 31) rfl rfl (any_of HT_.out (by kernel_rfl)) ?_
     refine pureU 5 59 (bz 12 63) rfl rfl (any_of HT_.out (by kernel_rfl)) ?_
     refine pureU 6 60 (bz 12 127) rfl rfl (any_of HT_.out (by kernel_rfl)) ?_
     refine pureU 7 61 (bz 12 255) rfl rfl (any_of HT_.out (by kernel_rfl)) ?_
     refine pureU 8 62 (bz 12 511) rfl rfl (any_of HT_.out (by kernel_rfl)) ?_
     refine pureU 9 63 (bz 12 1023) rfl rfl (any_of HT_.out (by kernel_rfl)) ?_
     refine pureA 10 64 (bz 12 2047) rfl rfl (any_of HT_.out (by kernel_rfl)) ?_
     refine pureA 11 2 (bz 12 4095) rfl rfl (any_of HT_.out (by kernel_rfl)) ?_
     refine done_ (done_of HT_.out (by kernel_rfl)) ?_
     try go_wp2
     go_ret
     exact ⟨eE, lV1 GE201⟩
end Go.Proofs.Ytifejplilaefiaa.PFnExactGoodAssets
namespace Go.Proofs.Ytifejplilaefiaa.PFnExactGoodAssets
open Go.RowKit Go.Proofs.YtifejplilaefiaaW.PrintWords Go.Proofs.YtifejplilaefiaaW.PrintLast Go.Proofs.YtifejplilaefiaaW.PrintMore
attribute [local go_sem] max2_int min2_int max_two min_two max_three min_three max_four min_four   -- for this text's walks alone
set_option linter.unusedVariables false
set_option linter.unusedSimpArgs false
def laws_eqStringS.l0 : Nat → List ByteArray → List ByteArray → Int → Option (Bool)
 | 0, _, _, _ => none
 | k + 1, x0, x1, x5 => if x5 < (x0.length : Int) then (if 0 ≤ x5 then (if x5 < (x1.length : Int) then (if (rdOf ByteArray.empty x0 x5).toList = (rdOf ByteArray.empty x1 x5).toList then (laws_eqStringS.l0 k x0 x1 (wrap64 (x5 + 1))) else (some false)) else (none)) else (none)) else (some true)
def laws_eqStringS.f (k : Nat) (l0 : List ByteArray) (l1 : List ByteArray) : Option (Bool) := if (l0.length : Int) = (l1.length : Int) then (laws_eqStringS.l0 k l0 l1 0) else (some false)
theorem laws_eqStringS.mono_l : ∀ k, (∀ y0 y1 y2, LeO (laws_eqStringS.l0 k y0 y1 y2) (laws_eqStringS.l0 (k + 1) y0 y1 y2))
 | 0 => fun _ _ _ r h => by simp [laws_eqStringS.l0] at h
 | k + 1 => by
  have ih0 := laws_eqStringS.mono_l k
  ·intro y0 y1 y2
   unfold laws_eqStringS.l0
   repeat' first
   | (with_reducible exact ih0 _ _ _)
   | (with_reducible exact LeO.refl _)
   | (with_reducible exact LeO.none _)
   | (with_reducible refine LeO.ite ?_ ?_)
   | (with_reducible refine LeO.bind ?_ (fun _ => ?_))
   | exact ih0 _ _ _
   | exact LeO.none _
   | refine LeO.ite ?_ ?_
   | refine LeO.bind ?_ (fun _ => ?_)
theorem laws_eqStringS.mono : ∀ a0 a1 k, LeO (laws_eqStringS.f k a0 a1) (laws_eqStringS.f (k + 1) a0 a1) := by
 intro a0 a1 k
 have ih0 := laws_eqStringS.mono_l k
 unfold laws_eqStringS.f
 repeat' first
   | (with_reducible exact ih0 _ _ _)
   | (with_reducible exact LeO.refl _)
   | (with_reducible exact LeO.none _)
   | (with_reducible refine LeO.ite ?_ ?_)
   | (with_reducible refine LeO.bind ?_ (fun _ => ?_))
   | exact ih0 _ _ _
   | exact LeO.none _
   | refine LeO.ite ?_ ?_
   | refine LeO.bind ?_ (fun _ => ?_)
set_option maxHeartbeats 8000000 in
set_option maxRecDepth 100000 in
theorem laws_eqStringS.calls (k : Nat) (A0 : Option Addr) (c0 : Nat) (l0 : List ByteArray) (A1 : Option Addr) (c1 : Nat) (l1 : List ByteArray) (r : Bool) (w : World) (hr0 : Kd.C Kd.string w A0 l0.length l0) (hc0 : l0.length ≤ c0) (hr1 : Kd.C Kd.string w A1 l1.length l1) (hc1 : l1.length ≤ c1) (h : laws_eqStringS.f k l0 l1 = some r) :
  Calls Try.prog 14 #[.slice A0 l0.length c0, .slice A1 l1.length c1] w fun e w' => e = .returned (.bool r) ∧ Drawn0 w w' := by
 have HR0 := Aside0.mk hr0
 have HC0 := Aside0.mk hc0
 clear hr0 hc0
 have HR1 := Aside0.mk hr1
 have HC1 := Aside0.mk hc1
 clear hr1 hc1
 have H : (if (l0.length : Int) = (l1.length : Int) then (laws_eqStringS.l0 k l0 l1 0) else (some false)) = some r := h
 clear h
 by_cases c3 : (l0.length : Int) = (l1.length : Int)
 ·rw [if_pos c3] at H
  have c3b0 : ((l0.length : Int) == (l1.length : Int)) = true := beq_iff_eq.mpr c3
  have c3b1 : ((l0.length : Int) != (l1.length : Int)) = false := bne_eq_false_iff_eq.mpr c3
  have c3b2 : (l0.length == l1.length) = true := by first | simpa using c3 | (simp at c3 ⊢; omega)
  clear c3
  have H' := Aside0.mk H
  clear H
  go_enter Try.func14, Try.ntmps14
  go_wp2
  repeat (go_quiet (fail); try go_wp2)
  go_loopg [5] k (fun kq v5 w' => ∃ (x5_1 : Int), v5 = .int .i64 x5_1 ∧ Aside0 (laws_eqStringS.l0 kq l0 l1 x5_1 = some r) ∧ Aside0 (kq ≤ k) ∧ Drawn0 w w')
  case atStart => exact ⟨(0), tE, H', ⟨Nat.le_refl _⟩, by repeat (first | exact Drawn0.refl _ | apply Drawn0.step)⟩
  case round =>
   clear H'
   try clear c1
   try clear p2
   try clear c3
   try clear c3b0
   try clear c3b1
   try clear c3b2
   obtain ⟨x5_1, rfl, HA, HK1, ⟨m1, rfl⟩⟩ := hrel
   cases gk with
   | zero => exact absurd HA.out (by simp [laws_eqStringS.l0])
   | succ k1 =>
    have H := HA.out
    clear HA
    simp only [laws_eqStringS.l0] at H
    by_cases c4 : x5_1 < (l0.length : Int)
    ·rw [if_pos c4] at H
     have c4b0 : decide (x5_1 < (l0.length : Int)) = true := decide_eq_true c4
     clear c4
     by_cases c5 : 0 ≤ x5_1
     ·rw [if_pos c5] at H
      have c5b0 : decide (0 ≤ x5_1) = true := decide_eq_true c5
      clear c5
      by_cases c6 : x5_1 < (l1.length : Int)
      ·rw [if_pos c6] at H
       have c6b0 : decide (x5_1 < (l1.length : Int)) = true := decide_eq_true c6
       clear c6
       by_cases c7 : (rdOf ByteArray.empty l0 x5_1).toList = (rdOf ByteArray.empty l1 x5_1).toList
       ·rw [if_pos c7] at H
        have c7b0 : ((rdOf ByteArray.empty l0 x5_1).toList == (rdOf ByteArray.empty l1 x5_1).toList) = true := beq_iff_eq.mpr c7
        have c7b1 : ((rdOf ByteArray.empty l0 x5_1).toList != (rdOf ByteArray.empty l1 x5_1).toList) = false := bne_eq_false_iff_eq.mpr c7
        clear c7
        have H' := Aside0.mk H
        clear H
        have p212 : 0 ≤ (x5_1 : Int) := of_decide_eq_true hE
        have q212 : x5_1 < (l0.length : Int) := of_decide_eq_true hE
        obtain ⟨ad212, e212, hx212_0⟩ := Kd.at_string HR0.out x5_1 p212 q212
        cases e212
        replace p212 := eq_true p212
        replace q212 := eq_true q212
        have p213 : 0 ≤ (x5_1 : Int) := of_decide_eq_true hE
        have q213 : x5_1 < (l1.length : Int) := of_decide_eq_true hE
        obtain ⟨ad213, e213, hx213_0⟩ := Kd.at_string HR1.out x5_1 p213 q213
        cases e213
        replace p213 := eq_true p213
        replace q213 := eq_true q213
        go_wp2
        repeat (go_quiet (fail); try go_wp2)
        go_roundg k1
        case measure => have := HK1.out; omega
        case rel => exact ⟨(wrap64 (x5_1 + 1)), tE, H', ⟨by have := HK1.out; omega⟩, by repeat (first | exact Drawn0.refl _ | apply Drawn0.step)⟩
       ·rw [if_neg c7] at H
        have c7b0 : ((rdOf ByteArray.empty l0 x5_1).toList == (rdOf ByteArray.empty l1 x5_1).toList) = false := beq_eq_false_iff_ne.mpr c7
        have c7b1 : ((rdOf ByteArray.empty l0 x5_1).toList != (rdOf ByteArray.empty l1 x5_1).toList) = true := bne_iff_ne.mpr c7
        obtain rfl := Option.some.inj H
        have p212 : 0 ≤ (x5_1 : Int) := of_decide_eq_true hE
        have q212 : x5_1 < (l0.length : Int) := of_decide_eq_true hE
        obtain ⟨ad212, e212, hx212_0⟩ := Kd.at_string HR0.out x5_1 p212 q212
        cases e212
        replace p212 := eq_true p212
        replace q212 := eq_true q212
        have p213 : 0 ≤ (x5_1 : Int) := of_decide_eq_true hE
        have q213 : x5_1 < (l1.length : Int) := of_decide_eq_true hE
        obtain ⟨ad213, e213, hx213_0⟩ := Kd.at_string HR1.out x5_1 p213 q213
        cases e213
        replace p213 := eq_true p213
        replace q213 := eq_true q213
        go_wp2
        repeat (go_quiet (fail); try go_wp2)
        go_ret
        exact ⟨by first | rfl | (simp; done) | (simp [*]; done) | exact not_isEmpty _ | exact (not_isEmpty _).symm | exact is_empty _ | exact (is_empty _).symm, by repeat (first | exact Drawn0.refl _ | apply Drawn0.step)⟩
      ·rw [if_neg c6] at H
       exact absurd H (by simp)
     ·rw [if_neg c5] at H
      exact absurd H (by simp)
    ·rw [if_neg c4] at H
     have c4b0 : decide (x5_1 < (l0.length : Int)) = false := decide_eq_false c4
     clear c4
     obtain rfl := Option.some.inj H
     go_wp2
     repeat (go_quiet (fail); try go_wp2)
     go_ret
     exact ⟨by first | rfl | (simp; done) | (simp [*]; done) | exact not_isEmpty _ | exact (not_isEmpty _).symm | exact is_empty _ | exact (is_empty _).symm, by repeat (first | exact Drawn0.refl _ | apply Drawn0.step)⟩
 ·rw [if_neg c3] at H
  have c3b0 : ((l0.length : Int) == (l1.length : Int)) = false := beq_eq_false_iff_ne.mpr c3
  have c3b1 : ((l0.length : Int) != (l1.length : Int)) = true := bne_iff_ne.mpr c3
  have c3b2 : (l0.length == l1.length) = false := by first | simpa using c3 | (simp at c3 ⊢; omega)
  obtain rfl := Option.some.inj H
  go_enter Try.func14, Try.ntmps14
  go_wp2
  repeat (go_quiet (fail); try go_wp2)
  go_ret
  exact ⟨by first | rfl | (simp; done) | (simp [*]; done) | exact not_isEmpty _ | exact (not_isEmpty _).symm | exact is_empty _ | exact (is_empty _).symm, by repeat (first | exact Drawn0.refl _ | apply Drawn0.step)⟩
def laws_eqByteS.l0 : Nat → List Int → List Int → Int → Option (Bool)
 | 0, _, _, _ => none
 | k + 1, x0, x1, x5 => if x5 < (x0.length : Int) then (if 0 ≤ x5 then (if x5 < (x1.length : Int) then (if (rd x0 x5) = (rd x1 x5) then (laws_eqByteS.l0 k x0 x1 (wrap64 (x5 + 1))) else (some false)) else (none)) else (none)) else (some true)
def laws_eqByteS.f (k : Nat) (l0 : List Int) (l1 : List Int) : Option (Bool) := if (l0.length : Int) = (l1.length : Int) then (laws_eqByteS.l0 k l0 l1 0) else (some false)
theorem laws_eqByteS.mono_l : ∀ k, (∀ y0 y1 y2, LeO (laws_eqByteS.l0 k y0 y1 y2) (laws_eqByteS.l0 (k + 1) y0 y1 y2))
 | 0 => fun _ _ _ r h => by simp [laws_eqByteS.l0] at h
 | k + 1 => by
  have ih0 := laws_eqByteS.mono_l k
  ·intro y0 y1 y2
   unfold laws_eqByteS.l0
   repeat' first
   | (with_reducible exact ih0 _ _ _)
   | (with_reducible exact LeO.refl _)
   | (with_reducible exact LeO.none _)
   | (with_reducible refine LeO.ite ?_ ?_)
   | (with_reducible refine LeO.bind ?_ (fun _ => ?_))
   | exact ih0 _ _ _
   | exact LeO.none _
   | refine LeO.ite ?_ ?_
   | refine LeO.bind ?_ (fun _ => ?_)
theorem laws_eqByteS.mono : ∀ a0 a1 k, LeO (laws_eqByteS.f k a0 a1) (laws_eqByteS.f (k + 1) a0 a1) := by
 intro a0 a1 k
 have ih0 := laws_eqByteS.mono_l k
 unfold laws_eqByteS.f
 repeat' first
   | (with_reducible exact ih0 _ _ _)
   | (with_reducible exact LeO.refl _)
   | (with_reducible exact LeO.none _)
   | (with_reducible refine LeO.ite ?_ ?_)
   | (with_reducible refine LeO.bind ?_ (fun _ => ?_))
   | exact ih0 _ _ _
   | exact LeO.none _
   | refine LeO.ite ?_ ?_
   | refine LeO.bind ?_ (fun _ => ?_)
set_option maxHeartbeats 8000000 in
set_option maxRecDepth 100000 in
theorem laws_eqByteS.calls (k : Nat) (A0 : Option Addr) (c0 : Nat) (l0 : List Int) (A1 : Option Addr) (c1 : Nat) (l1 : List Int) (r : Bool) (w : World) (hr0 : Kd.C (Kd.int .u8) w A0 l0.length l0) (hc0 : l0.length ≤ c0) (hr1 : Kd.C (Kd.int .u8) w A1 l1.length l1) (hc1 : l1.length ≤ c1) (h : laws_eqByteS.f k l0 l1 = some r) :
  Calls Try.prog 81 #[.slice A0 l0.length c0, .slice A1 l1.length c1] w fun e w' => e = .returned (.bool r) ∧ Drawn0 w w' := by
 have HR0 := Aside0.mk hr0
 have HC0 := Aside0.mk hc0
 clear hr0 hc0
 have HR1 := Aside0.mk hr1
 have HC1 := Aside0.mk hc1
 clear hr1 hc1
 have H : (if (l0.length : Int) = (l1.length : Int) then (laws_eqByteS.l0 k l0 l1 0) else (some false)) = some r := h
 clear h
 by_cases c3 : (l0.length : Int) = (l1.length : Int)
 ·rw [if_pos c3] at H
  have c3b0 : ((l0.length : Int) == (l1.length : Int)) = true := beq_iff_eq.mpr c3
  have c3b1 : ((l0.length : Int) != (l1.length : Int)) = false := bne_eq_false_iff_eq.mpr c3
  have c3b2 : (l0.length == l1.length) = true := by first | simpa using c3 | (simp at c3 ⊢; omega)
  clear c3
  have H' := Aside0.mk H
  clear H
  go_enter Try.func81, Try.ntmps81
  go_wp2
  repeat (go_quiet (fail); try go_wp2)
  go_loopg [5] k (fun kq v5 w' => ∃ (x5_1 : Int), v5 = .int .i64 x5_1 ∧ Aside0 (laws_eqByteS.l0 kq l0 l1 x5_1 = some r) ∧ Aside0 (kq ≤ k) ∧ Drawn0 w w')
  case atStart => exact ⟨(0), tE, H', ⟨Nat.le_refl _⟩, by repeat (first | exact Drawn0.refl _ | apply Drawn0.step)⟩
  case round =>
   clear H'
   try clear c1
   try clear p2
   try clear c3
   try clear c3b0
   try clear c3b1
   try clear c3b2
   obtain ⟨x5_1, rfl, HA, HK1, ⟨m1, rfl⟩⟩ := hrel
   cases gk with
   | zero => exact absurd HA.out (by simp [laws_eqByteS.l0])
   | succ k1 =>
    have H := HA.out
    clear HA
    simp only [laws_eqByteS.l0] at H
    by_cases c4 : x5_1 < (l0.length : Int)
    ·rw [if_pos c4] at H
     have c4b0 : decide (x5_1 < (l0.length : Int)) = true := decide_eq_true c4
     clear c4
     by_cases c5 : 0 ≤ x5_1
     ·rw [if_pos c5] at H
      have c5b0 : decide (0 ≤ x5_1) = true := decide_eq_true c5
      clear c5
      by_cases c6 : x5_1 < (l1.length : Int)
      ·rw [if_pos c6] at H
       have c6b0 : decide (x5_1 < (l1.length : Int)) = true := decide_eq_true c6
       clear c6
       by_cases c7 : (rd l0 x5_1) = (rd l1 x5_1)
       ·rw [if_pos c7] at H
        have c7b0 : ((rd l0 x5_1) == (rd l1 x5_1)) = true := beq_iff_eq.mpr c7
        have c7b1 : ((rd l0 x5_1) != (rd l1 x5_1)) = false := bne_eq_false_iff_eq.mpr c7
        clear c7
        have H' := Aside0.mk H
        clear H
        have p214 : 0 ≤ (x5_1 : Int) := of_decide_eq_true hE
        have q214 : x5_1 < (l0.length : Int) := of_decide_eq_true hE
        obtain ⟨ad214, e214, hx214_0⟩ := Kd.at_int HR0.out x5_1 p214 q214
        cases e214
        replace p214 := eq_true p214
        replace q214 := eq_true q214
        have p215 : 0 ≤ (x5_1 : Int) := of_decide_eq_true hE
        have q215 : x5_1 < (l1.length : Int) := of_decide_eq_true hE
        obtain ⟨ad215, e215, hx215_0⟩ := Kd.at_int HR1.out x5_1 p215 q215
        cases e215
        replace p215 := eq_true p215
        replace q215 := eq_true q215
        go_wp2
        repeat (go_quiet (fail); try go_wp2)
        go_roundg k1
        case measure => have := HK1.out; omega
        case rel => exact ⟨(wrap64 (x5_1 + 1)), tE, H', ⟨by have := HK1.out; omega⟩, by repeat (first | exact Drawn0.refl _ | apply Drawn0.step)⟩
       ·rw [if_neg c7] at H
        have c7b0 : ((rd l0 x5_1) == (rd l1 x5_1)) = false := beq_eq_false_iff_ne.mpr c7
        have c7b1 : ((rd l0 x5_1) != (rd l1 x5_1)) = true := bne_iff_ne.mpr c7
        obtain rfl := Option.some.inj H
        have p214 : 0 ≤ (x5_1 : Int) := of_decide_eq_true hE
        have q214 : x5_1 < (l0.length : Int) := of_decide_eq_true hE
        obtain ⟨ad214, e214, hx214_0⟩ := Kd.at_int HR0.out x5_1 p214 q214
        cases e214
        replace p214 := eq_true p214
        replace q214 := eq_true q214
        have p215 : 0 ≤ (x5_1 : Int) := of_decide_eq_true hE
        have q215 : x5_1 < (l1.length : Int) := of_decide_eq_true hE
        obtain ⟨ad215, e215, hx215_0⟩ := Kd.at_int HR1.out x5_1 p215 q215
        cases e215
        replace p215 := eq_true p215
        replace q215 := eq_true q215
        go_wp2
        repeat (go_quiet (fail); try go_wp2)
        go_ret
        exact ⟨by first | rfl | (simp; done) | (simp [*]; done) | exact not_isEmpty _ | exact (not_isEmpty _).symm | exact is_empty _ | exact (is_empty _).symm, by repeat (first | exact Drawn0.refl _ | apply Drawn0.step)⟩
      ·rw [if_neg c6] at H
       exact absurd H (by simp)
     ·rw [if_neg c5] at H
      exact absurd H (by simp)
    ·rw [if_neg c4] at H
     have c4b0 : decide (x5_1 < (l0.length : Int)) = false := decide_eq_false c4
     clear c4
     obtain rfl := Option.some.inj H
     go_wp2
     repeat (go_quiet (fail); try go_wp2)
     go_ret
     exact ⟨by first | rfl | (simp; done) | (simp [*]; done) | exact not_isEmpty _ | exact (not_isEmpty _).symm | exact is_empty _ | exact (is_empty _).symm, by repeat (first | exact Drawn0.refl _ | apply Drawn0.step)⟩
 ·rw [if_neg c3] at H
  have c3b0 : ((l0.length : Int) == (l1.length : Int)) = false := beq_eq_false_iff_ne.mpr c3
  have c3b1 : ((l0.length : Int) != (l1.length : Int)) = true := bne_iff_ne.mpr c3
  have c3b2 : (l0.length == l1.length) = false := by first | simpa using c3 | (simp at c3 ⊢; omega)
  obtain rfl := Option.some.inj H
  go_enter Try.func81, Try.ntmps81
  go_wp2
  repeat (go_quiet (fail); try go_wp2)
  go_ret
  exact ⟨by first | rfl | (simp; done) | (simp [*]; done) | exact not_isEmpty _ | exact (not_isEmpty _).symm | exact is_empty _ | exact (is_empty _).symm, by repeat (first | exact Drawn0.refl _ | apply Drawn0.step)⟩
def laws_eqAsset.f (k : Nat) (a0_0 : ByteArray) (l0_1 : List ByteArray) (l0_2 : List Int) (a1_0 : ByteArray) (l1_1 : List ByteArray) (l1_2 : List Int) : Option (Bool) := if a0_0.toList = a1_0.toList then ((laws_eqStringS.f k l0_1 l1_1).bind fun t218 => (if t218 = true then ((laws_eqByteS.f k l0_2 l1_2).bind fun t219 => (if t219 = true then (some true) else (some false))) else (some false))) else (some false)
theorem laws_eqAsset.mono : ∀ a0 a1 a2 a3 a4 a5 k, LeO (laws_eqAsset.f k a0 a1 a2 a3 a4 a5) (laws_eqAsset.f (k + 1) a0 a1 a2 a3 a4 a5) := by
 intro a0 a1 a2 a3 a4 a5 k
 unfold laws_eqAsset.f
 repeat' first
   | (with_reducible exact laws_eqByteS.mono _ _ _)
   | (with_reducible exact laws_eqStringS.mono _ _ _)
   | (with_reducible exact LeO.refl _)
   | (with_reducible exact LeO.none _)
   | (with_reducible refine LeO.ite ?_ ?_)
   | (with_reducible refine LeO.bind ?_ (fun _ => ?_))
   | exact laws_eqByteS.mono _ _ _
   | exact laws_eqStringS.mono _ _ _
   | exact LeO.none _
   | refine LeO.ite ?_ ?_
   | refine LeO.bind ?_ (fun _ => ?_)
set_option maxHeartbeats 8000000 in
set_option maxRecDepth 100000 in
theorem laws_eqAsset.calls (k : Nat) (a0_0 : ByteArray) (A0_1 : Option Addr) (c0_1 : Nat) (l0_1 : List ByteArray) (A0_2 : Option Addr) (c0_2 : Nat) (l0_2 : List Int) (a1_0 : ByteArray) (A1_1 : Option Addr) (c1_1 : Nat) (l1_1 : List ByteArray) (A1_2 : Option Addr) (c1_2 : Nat) (l1_2 : List Int) (r : Bool) (w : World) (hr0_1 : Kd.C Kd.string w A0_1 l0_1.length l0_1) (hc0_1 : l0_1.length ≤ c0_1) (hr0_2 : Kd.C (Kd.int .u8) w A0_2 l0_2.length l0_2) (hc0_2 : l0_2.length ≤ c0_2) (hr1_1 : Kd.C Kd.string w A1_1 l1_1.length l1_1) (hc1_1 : l1_1.length ≤ c1_1) (hr1_2 : Kd.C (Kd.int .u8) w A1_2 l1_2.length l1_2) (hc1_2 : l1_2.length ≤ c1_2) (h : laws_eqAsset.f k a0_0 l0_1 l0_2 a1_0 l1_1 l1_2 = some r) :
  Calls Try.prog 40 #[.agg #[.string a0_0, .slice A0_1 l0_1.length c0_1, .slice A0_2 l0_2.length c0_2], .agg #[.string a1_0, .slice A1_1 l1_1.length c1_1, .slice A1_2 l1_2.length c1_2]] w fun e w' => e = .returned (.bool r) ∧ Below w.heap.size w w' := by
 have hu63 := Try.underlying63
 have HR0_1 := Aside0.mk hr0_1
 have HC0_1 := Aside0.mk hc0_1
 clear hr0_1 hc0_1
 have HR0_2 := Aside0.mk hr0_2
 have HC0_2 := Aside0.mk hc0_2
 clear hr0_2 hc0_2
 have HR1_1 := Aside0.mk hr1_1
 have HC1_1 := Aside0.mk hc1_1
 clear hr1_1 hc1_1
 have HR1_2 := Aside0.mk hr1_2
 have HC1_2 := Aside0.mk hc1_2
 clear hr1_2 hc1_2
 have HB := Aside0.mk (Below.refl w.heap.size w)
 have H : (if a0_0.toList = a1_0.toList then ((laws_eqStringS.f k l0_1 l1_1).bind fun t218 => (if t218 = true then ((laws_eqByteS.f k l0_2 l1_2).bind fun t219 => (if t219 = true then (some true) else (some false))) else (some false))) else (some false)) = some r := h
 clear h
 by_cases c3 : a0_0.toList = a1_0.toList
 ·rw [if_pos c3] at H
  have c3b0 : (a0_0.toList == a1_0.toList) = true := beq_iff_eq.mpr c3
  have c3b1 : (a0_0.toList != a1_0.toList) = false := bne_eq_false_iff_eq.mpr c3
  clear c3
  replace H := Option.bind_eq_some_iff.mp H
  obtain ⟨t218, A40, H⟩ := H
  replace H : (if t218 = true then ((laws_eqByteS.f k l0_2 l1_2).bind fun t219 => (if t219 = true then (some true) else (some false))) else (some false)) = some r := H
  have A4 := Aside0.mk A40
  clear A40
  by_cases c5 : t218 = true
  ·subst c5
   have H1 : ((laws_eqByteS.f k l0_2 l1_2).bind fun t219 => (if t219 = true then (some true) else (some false))) = some r := by rw [if_pos rfl] at H; exact H
   clear H
   have H := H1
   clear H1
   replace H := Option.bind_eq_some_iff.mp H
   obtain ⟨t219, A60, H⟩ := H
   replace H : (if t219 = true then (some true) else (some false)) = some r := H
   have A6 := Aside0.mk A60
   clear A60
   by_cases c7 : t219 = true
   ·subst c7
    have H1 : (some true) = some r := by rw [if_pos rfl] at H; exact H
    clear H
    have H := H1
    clear H1
    obtain rfl := Option.some.inj H
    go_enter Try.func40, Try.ntmps40
    go_wp2_with (first | ((with_reducible refine gate_dst (N := 2) rfl ?_); refine box_event rfl (N := 2) rfl (cs := #[.string a0_0, .slice A0_1 l0_1.length c0_1, .slice A0_2 l0_2.length c0_2]) (t := 63) sE ?_; intro gb216 hg w8 hbox hb; have BK216 := Aside0.mk hbox; have GW216 := gS w hg (lU); have GE216 := gS w hg (lU); replace HB := bH (lU) hb; clear hb hbox hg) | ((with_reducible refine gate_dst (N := 3) rfl ?_); refine box_event rfl (N := 3) rfl (cs := #[.string a1_0, .slice A1_1 l1_1.length c1_1, .slice A1_2 l1_2.length c1_2]) (t := 63) sE ?_; intro gb217 hg w9 hbox hb; have BK217 := Aside0.mk hbox; have GW217 := gS w hg (lV1 GE216); have GE217 := gS w hg (lV1 GE216); replace HB := bH (lV1 GE216) hb; have NB216_217 := nL hg (bV BK216); have NB217_216 := nG hg (bV BK216); replace BK216 := bB (bV BK216) hb; clear hb hbox hg; have hnb10 := NB216_217.out; have hnc10 := NB217_216.out; have hcz11_0 := cz BK216 0 (.string a0_0); have hcz11_1 := cz BK216 1 (.slice A0_1 l0_1.length c0_1); have hcz11_2 := cz BK216 2 (.slice A0_2 l0_2.length c0_2); have hfz11_0 := fz BK216 0; have hfz11_1 := fz BK216 1; have hfz11_2 := fz BK216 2; have hcz12_0 := cz BK217 0 (.string a1_0); have hcz12_1 := cz BK217 1 (.slice A1_1 l1_1.length c1_1); have hcz12_2 := cz BK217 2 (.slice A1_2 l1_2.length c1_2); have hfz12_0 := fz BK217 0; have hfz12_1 := fz BK217 1; have hfz12_2 := fz BK217 2) | ((with_reducible refine gate_callee (f := 14) rfl ?_); refine goesL_ (some 14) rfl rfl Try.func14 (by kernel_rfl) rfl #[.slice A0_1 l0_1.length c0_1, .slice A1_1 l1_1.length c1_1] rfl aE ?_; (with_reducible refine (laws_eqStringS.calls k _ _ l0_1 _ _ l1_1 true _ ?side1 ?side2 ?side3 ?side4 A4.out).mono ?_); (case side1 => exact cU (Kd.C_below HR0_1.out HB.out)); (case side2 => exact HC0_1.out); (case side3 => exact cU (Kd.C_below HR1_1.out HB.out)); (case side4 => exact HC1_1.out); rintro e w' ⟨rfl, ⟨nd, rfl⟩⟩; refine ⟨_, rfl, ?_⟩) | ((with_reducible refine gate_callee (f := 81) rfl ?_); refine goesL_ (some 20) rfl rfl Try.func81 (by kernel_rfl) rfl #[.slice A0_2 l0_2.length c0_2, .slice A1_2 l1_2.length c1_2] rfl aE ?_; (with_reducible refine (laws_eqByteS.calls k _ _ l0_2 _ _ l1_2 true _ ?side1 ?side2 ?side3 ?side4 A6.out).mono ?_); (case side1 => exact cU (Kd.C_below HR0_2.out (lV2 GE216 GE217))); (case side2 => exact HC0_2.out); (case side3 => exact cU (Kd.C_below HR1_2.out (lV2 GE216 GE217))); (case side4 => exact HC1_2.out); rintro e w' ⟨rfl, ⟨nd, rfl⟩⟩; refine ⟨_, rfl, ?_⟩))
    go_ret
    exact ⟨eE, lV2 GE216 GE217⟩
   ·replace c7 := Bool.eq_false_iff.mpr c7
    subst c7
    have H1 : (some false) = some r := by rw [if_neg (show ¬ (false = true) by decide)] at H; exact H
    clear H
    have H := H1
    clear H1
    obtain rfl := Option.some.inj H
    go_enter Try.func40, Try.ntmps40
    go_wp2_with (first | ((with_reducible refine gate_dst (N := 2) rfl ?_); refine box_event rfl (N := 2) rfl (cs := #[.string a0_0, .slice A0_1 l0_1.length c0_1, .slice A0_2 l0_2.length c0_2]) (t := 63) sE ?_; intro gb216 hg w13 hbox hb; have BK216 := Aside0.mk hbox; have GW216 := gS w hg (lU); have GE216 := gS w hg (lU); replace HB := bH (lU) hb; clear hb hbox hg) | ((with_reducible refine gate_dst (N := 3) rfl ?_); refine box_event rfl (N := 3) rfl (cs := #[.string a1_0, .slice A1_1 l1_1.length c1_1, .slice A1_2 l1_2.length c1_2]) (t := 63) sE ?_; intro gb217 hg w14 hbox hb; have BK217 := Aside0.mk hbox; have GW217 := gS w hg (lV1 GE216); have GE217 := gS w hg (lV1 GE216); replace HB := bH (lV1 GE216) hb; have NB216_217 := nL hg (bV BK216); have NB217_216 := nG hg (bV BK216); replace BK216 := bB (bV BK216) hb; clear hb hbox hg; have hnb15 := NB216_217.out; have hnc15 := NB217_216.out; have hcz16_0 := cz BK216 0 (.string a0_0); have hcz16_1 := cz BK216 1 (.slice A0_1 l0_1.length c0_1); have hcz16_2 := cz BK216 2 (.slice A0_2 l0_2.length c0_2); have hfz16_0 := fz BK216 0; have hfz16_1 := fz BK216 1; have hfz16_2 := fz BK216 2; have hcz17_0 := cz BK217 0 (.string a1_0); have hcz17_1 := cz BK217 1 (.slice A1_1 l1_1.length c1_1); have hcz17_2 := cz BK217 2 (.slice A1_2 l1_2.length c1_2); have hfz17_0 := fz BK217 0; have hfz17_1 := fz BK217 1; have hfz17_2 := fz BK217 2) | ((with_reducible refine gate_callee (f := 14) rfl ?_); refine goesL_ (some 14) rfl rfl Try.func14 (by kernel_rfl) rfl #[.slice A0_1 l0_1.length c0_1, .slice A1_1 l1_1.length c1_1] rfl aE ?_; (with_reducible refine (laws_eqStringS.calls k _ _ l0_1 _ _ l1_1 true _ ?side1 ?side2 ?side3 ?side4 A4.out).mono ?_); (case side1 => exact cU (Kd.C_below HR0_1.out HB.out)); (case side2 => exact HC0_1.out); (case side3 => exact cU (Kd.C_below HR1_1.out HB.out)); (case side4 => exact HC1_1.out); rintro e w' ⟨rfl, ⟨nd, rfl⟩⟩; refine ⟨_, rfl, ?_⟩) | ((with_reducible refine gate_callee (f := 81) rfl ?_); refine goesL_ (some 20) rfl rfl Try.func81 (by kernel_rfl) rfl #[.slice A0_2 l0_2.length c0_2, .slice A1_2 l1_2.length c1_2] rfl aE ?_; (with_reducible refine (laws_eqByteS.calls k _ _ l0_2 _ _ l1_2 false _ ?side1 ?side2 ?side3 ?side4 A6.out).mono ?_); (case side1 => exact cU (Kd.C_below HR0_2.out (lV2 GE216 GE217))); (case side2 => exact HC0_2.out); (case side3 => exact cU (Kd.C_below HR1_2.out (lV2 GE216 GE217))); (case side4 => exact HC1_2.out); rintro e w' ⟨rfl, ⟨nd, rfl⟩⟩; refine ⟨_, rfl, ?_⟩))
    go_ret
    exact ⟨eE, lV2 GE216 GE217⟩
  ·replace c5 := Bool.eq_false_iff.mpr c5
   subst c5
   have H1 : (some false) = some r := by rw [if_neg (show ¬ (false = true) by decide)] at H; exact H
   clear H
   have H := H1
   clear H1
   obtain rfl := Option.some.inj H
   go_enter Try.func40, Try.ntmps40
   go_wp2_with (first | ((with_reducible refine gate_dst (N := 2) rfl ?_); refine box_event rfl (N := 2) rfl (cs := #[.string a0_0, .slice A0_1 l0_1.length c0_1, .slice A0_2 l0_2.length c0_2]) (t := 63) sE ?_; intro gb216 hg w18 hbox hb; have BK216 := Aside0.mk hbox; have GW216 := gS w hg (lU); have GE216 := gS w hg (lU); replace HB := bH (lU) hb; clear hb hbox hg) | ((with_reducible refine gate_dst (N := 3) rfl ?_); refine box_event rfl (N := 3) rfl (cs := #[.string a1_0, .slice A1_1 l1_1.length c1_1, .slice A1_2 l1_2.length c1_2]) (t := 63) sE ?_; intro gb217 hg w19 hbox hb; have BK217 := Aside0.mk hbox; have GW217 := gS w hg (lV1 GE216); have GE217 := gS w hg (lV1 GE216); replace HB := bH (lV1 GE216) hb; have NB216_217 := nL hg (bV BK216); have NB217_216 := nG hg (bV BK216); replace BK216 := bB (bV BK216) hb; clear hb hbox hg; have hnb20 := NB216_217.out; have hnc20 := NB217_216.out; have hcz21_0 := cz BK216 0 (.string a0_0); have hcz21_1 := cz BK216 1 (.slice A0_1 l0_1.length c0_1); have hcz21_2 := cz BK216 2 (.slice A0_2 l0_2.length c0_2); have hfz21_0 := fz BK216 0; have hfz21_1 := fz BK216 1; have hfz21_2 := fz BK216 2; have hcz22_0 := cz BK217 0 (.string a1_0); have hcz22_1 := cz BK217 1 (.slice A1_1 l1_1.length c1_1); have hcz22_2 := cz BK217 2 (.slice A1_2 l1_2.length c1_2); have hfz22_0 := fz BK217 0; have hfz22_1 := fz BK217 1; have hfz22_2 := fz BK217 2) | ((with_reducible refine gate_callee (f := 14) rfl ?_); refine goesL_ (some 14) rfl rfl Try.func14 (by kernel_rfl) rfl #[.slice A0_1 l0_1.length c0_1, .slice A1_1 l1_1.length c1_1] rfl aE ?_; (with_reducible refine (laws_eqStringS.calls k _ _ l0_1 _ _ l1_1 false _ ?side1 ?side2 ?side3 ?side4 A4.out).mono ?_); (case side1 => exact cU (Kd.C_below HR0_1.out HB.out)); (case side2 => exact HC0_1.out); (case side3 => exact cU (Kd.C_below HR1_1.out HB.out)); (case side4 => exact HC1_1.out); rintro e w' ⟨rfl, ⟨nd, rfl⟩⟩; refine ⟨_, rfl, ?_⟩))
   go_ret
   exact ⟨eE, lV2 GE216 GE217⟩
 ·rw [if_neg c3] at H
  have c3b0 : (a0_0.toList == a1_0.toList) = false := beq_eq_false_iff_ne.mpr c3
  have c3b1 : (a0_0.toList != a1_0.toList) = true := bne_iff_ne.mpr c3
  obtain rfl := Option.some.inj H
  go_enter Try.func40, Try.ntmps40
  go_wp2_with (first | ((with_reducible refine gate_dst (N := 2) rfl ?_); refine box_event rfl (N := 2) rfl (cs := #[.string a0_0, .slice A0_1 l0_1.length c0_1, .slice A0_2 l0_2.length c0_2]) (t := 63) sE ?_; intro gb216 hg w23 hbox hb; have BK216 := Aside0.mk hbox; have GW216 := gS w hg (lU); have GE216 := gS w hg (lU); replace HB := bH (lU) hb; clear hb hbox hg) | ((with_reducible refine gate_dst (N := 3) rfl ?_); refine box_event rfl (N := 3) rfl (cs := #[.string a1_0, .slice A1_1 l1_1.length c1_1, .slice A1_2 l1_2.length c1_2]) (t := 63) sE ?_; intro gb217 hg w24 hbox hb; have BK217 := Aside0.mk hbox; have GW217 := gS w hg (lV1 GE216); have GE217 := gS w hg (lV1 GE216); replace HB := bH (lV1 GE216) hb; have NB216_217 := nL hg (bV BK216); have NB217_216 := nG hg (bV BK216); replace BK216 := bB (bV BK216) hb; clear hb hbox hg; have hnb25 := NB216_217.out; have hnc25 := NB217_216.out; have hcz26_0 := cz BK216 0 (.string a0_0); have hcz26_1 := cz BK216 1 (.slice A0_1 l0_1.length c0_1); have hcz26_2 := cz BK216 2 (.slice A0_2 l0_2.length c0_2); have hfz26_0 := fz BK216 0; have hfz26_1 := fz BK216 1; have hfz26_2 := fz BK216 2; have hcz27_0 := cz BK217 0 (.string a1_0); have hcz27_1 := cz BK217 1 (.slice A1_1 l1_1.length c1_1); have hcz27_2 := cz BK217 2 (.slice A1_2 l1_2.length c1_2); have hfz27_0 := fz BK217 0; have hfz27_1 := fz BK217 1; have hfz27_2 := fz BK217 2))
  go_ret
  exact ⟨eE, lV2 GE216 GE217⟩
def laws_eqAssetS.l0 : Nat → List (S63) → List (S63) → Int → Option (Bool)
 | 0, _, _, _ => none
 | k + 1, x0, x1, x5 => if x5 < (x0.length : Int) then (if 0 ≤ x5 then (if x5 < (x1.length : Int) then ((laws_eqAsset.f k ((rd_T63 x0 x5).f0) ((rd_T63 x0 x5).f1) ((rd_T63 x0 x5).f2) ((rd_T63 x1 x5).f0) ((rd_T63 x1 x5).f1) ((rd_T63 x1 x5).f2)).bind fun t222 => (if t222 = true then (laws_eqAssetS.l0 k x0 x1 (wrap64 (x5 + 1))) else (some false))) else (none)) else (none)) else (some true)
def laws_eqAssetS.f (k : Nat) (l0 : List (S63)) (l1 : List (S63)) : Option (Bool) := if (l0.length : Int) = (l1.length : Int) then (laws_eqAssetS.l0 k l0 l1 0) else (some false)
theorem laws_eqAssetS.mono_l : ∀ k, (∀ y0 y1 y2, LeO (laws_eqAssetS.l0 k y0 y1 y2) (laws_eqAssetS.l0 (k + 1) y0 y1 y2))
 | 0 => fun _ _ _ r h => by simp [laws_eqAssetS.l0] at h
 | k + 1 => by
  have ih0 := laws_eqAssetS.mono_l k
  ·intro y0 y1 y2
   unfold laws_eqAssetS.l0
   repeat' first
   | (with_reducible exact ih0 _ _ _)
   | (with_reducible exact laws_eqAsset.mono _ _ _ _ _ _ _)
   | (with_reducible exact LeO.refl _)
   | (with_reducible exact LeO.none _)
   | (with_reducible refine LeO.ite ?_ ?_)
   | (with_reducible refine LeO.bind ?_ (fun _ => ?_))
   | exact ih0 _ _ _
   | exact laws_eqAsset.mono _ _ _ _ _ _ _
   | exact LeO.none _
   | refine LeO.ite ?_ ?_
   | refine LeO.bind ?_ (fun _ => ?_)
theorem laws_eqAssetS.mono : ∀ a0 a1 k, LeO (laws_eqAssetS.f k a0 a1) (laws_eqAssetS.f (k + 1) a0 a1) := by
 intro a0 a1 k
 have ih0 := laws_eqAssetS.mono_l k
 unfold laws_eqAssetS.f
 repeat' first
   | (with_reducible exact ih0 _ _ _)
   | (with_reducible exact laws_eqAsset.mono _ _ _ _ _ _ _)
   | (with_reducible exact LeO.refl _)
   | (with_reducible exact LeO.none _)
   | (with_reducible refine LeO.ite ?_ ?_)
   | (with_reducible refine LeO.bind ?_ (fun _ => ?_))
   | exact ih0 _ _ _
   | exact laws_eqAsset.mono _ _ _ _ _ _ _
   | exact LeO.none _
   | refine LeO.ite ?_ ?_
   | refine LeO.bind ?_ (fun _ => ?_)
def laws_eqAssetS.T6 : Bool × List (List Nat × List Nat) := (true, [([], []), ([], []), ([0, 1], [0, 1]), ([2], [2]), ([], []), ([], []), ([4, 5], [4, 5]), ([6], [6]), ([3, 7], [3, 7]), ([8], [8])])
def laws_eqAssetS.B6 : List Nat := [0, 0, 3, 7, 0, 0, 48, 112, 255, 511]
theorem laws_eqAssetS.tab6 : rtab .any (opsOf Try.f11 6) = laws_eqAssetS.T6 := by kernel_rfl
theorem laws_eqAssetS.bits6 : waitsOk laws_eqAssetS.T6.2 laws_eqAssetS.B6 = true := by kernel_rfl
set_option maxHeartbeats 8000000 in
set_option maxRecDepth 100000 in
theorem laws_eqAssetS.calls (k : Nat) (A0 : Option Addr) (c0 : Nat) (l0 : List (S63)) (A1 : Option Addr) (c1 : Nat) (l1 : List (S63)) (r : Bool) (w : World) (hr0 : Kd.C k63 w A0 l0.length l0) (hc0 : l0.length ≤ c0) (hr1 : Kd.C k63 w A1 l1.length l1) (hc1 : l1.length ≤ c1) (h : laws_eqAssetS.f k l0 l1 = some r) :
  Calls Try.prog 11 #[.slice A0 l0.length c0, .slice A1 l1.length c1] w fun e w' => e = .returned (.bool r) ∧ Below w.heap.size w w' := by
 have hu63 := Try.underlying63
 have HR0 := Aside0.mk hr0
 have HC0 := Aside0.mk hc0
 clear hr0 hc0
 have HR1 := Aside0.mk hr1
 have HC1 := Aside0.mk hc1
 clear hr1 hc1
 have HB := Aside0.mk (Below.refl w.heap.size w)
 have H : (if (l0.length : Int) = (l1.length : Int) then (laws_eqAssetS.l0 k l0 l1 0) else (some false)) = some r := h
 clear h
 by_cases c3 : (l0.length : Int) = (l1.length : Int)
 ·rw [if_pos c3] at H
  have c3b0 : ((l0.length : Int) == (l1.length : Int)) = true := beq_iff_eq.mpr c3
  have c3b1 : ((l0.length : Int) != (l1.length : Int)) = false := bne_eq_false_iff_eq.mpr c3
  have c3b2 : (l0.length == l1.length) = true := by first | simpa using c3 | (simp at c3 ⊢; omega)
  clear c3
  have H' := Aside0.mk H
  clear H
  go_enter Try.func11, Try.ntmps11
  go_wp2
  go_loopg [5] k (fun kq v5 w' => ∃ (x5_1 : Int), v5 = .int .i64 x5_1 ∧ Aside0 (laws_eqAssetS.l0 kq l0 l1 x5_1 = some r) ∧ Aside0 (kq ≤ k) ∧ Aside0 (Below w.heap.size w w'))
  case atStart => exact ⟨(0), tE, H', ⟨Nat.le_refl _⟩, ⟨by repeat (first | (with_reducible first | exact HB.out | apply below_alloc | apply pw_below_drewN | apply below_drew1) | exact HB.out)⟩⟩
  case round =>
   clear H'
   try clear c1
   try clear p2
   try clear c3
   try clear c3b0
   try clear c3b1
   try clear c3b2
   obtain ⟨x5_1, rfl, HA, HK1, HB⟩ := hrel
   cases gk with
   | zero => exact absurd HA.out (by simp [laws_eqAssetS.l0])
   | succ k1 =>
    have H := HA.out
    clear HA
    simp only [laws_eqAssetS.l0] at H
    by_cases c4 : x5_1 < (l0.length : Int)
    ·rw [if_pos c4] at H
     have c4b0 : decide (x5_1 < (l0.length : Int)) = true := decide_eq_true c4
     clear c4
     by_cases c5 : 0 ≤ x5_1
     ·rw [if_pos c5] at H
      have c5b0 : decide (0 ≤ x5_1) = true := decide_eq_true c5
      clear c5
      by_cases c6 : x5_1 < (l1.length : Int)
      ·rw [if_pos c6] at H
       have c6b0 : decide (x5_1 < (l1.length : Int)) = true := decide_eq_true c6
       clear c6
       replace H := Option.bind_eq_some_iff.mp H
       obtain ⟨t222, A70, H⟩ := H
       replace H : (if t222 = true then (laws_eqAssetS.l0 k1 l0 l1 (wrap64 (x5_1 + 1))) else (some false)) = some r := H
       have A7 := Aside0.mk A70
       clear A70
       by_cases c8 : t222 = true
       ·subst c8
        have H1 : (laws_eqAssetS.l0 k1 l0 l1 (wrap64 (x5_1 + 1))) = some r := by rw [if_pos rfl] at H; exact H
        clear H
        have H := H1
        clear H1
        have H' := Aside0.mk H
        clear H
        try go_wp2
        replace HB := Aside0.mk (below_drew1 HB.out)
        have p220 : 0 ≤ (x5_1 : Int) := of_decide_eq_true hE
        have q220 : x5_1 < (l0.length : Int) := of_decide_eq_true hE
        obtain ⟨ad220, A220_1, c220_1, A220_2, c220_2, e220, hx220_0, hx220_1, hx220_2, hl220_1, hi220_1, hl220_2, hi220_2⟩ := at_T63 HR0.out x5_1 p220 q220
        have hw220_2 := hx220_2
        have hw220_1 := hx220_1
        have hw220_0 := hx220_0
        cases e220
        replace hx220_0 := (HB.out.cell (World.block_lt_of_cell? w _ hx220_0)).trans hx220_0
        replace hx220_1 := (HB.out.cell (World.block_lt_of_cell? w _ hx220_1)).trans hx220_1
        replace hx220_2 := (HB.out.cell (World.block_lt_of_cell? w _ hx220_2)).trans hx220_2
        have HR220_1 := Aside0.mk hi220_1
        have HC220_1 := Aside0.mk hl220_1
        clear hi220_1 hl220_1
        have HR220_2 := Aside0.mk hi220_2
        have HC220_2 := Aside0.mk hl220_2
        clear hi220_2 hl220_2
        replace p220 := eq_true p220
        replace q220 := eq_true q220
        have p221 : 0 ≤ (x5_1 : Int) := of_decide_eq_true hE
        have q221 : x5_1 < (l1.length : Int) := of_decide_eq_true hE
        obtain ⟨ad221, A221_1, c221_1, A221_2, c221_2, e221, hx221_0, hx221_1, hx221_2, hl221_1, hi221_1, hl221_2, hi221_2⟩ := at_T63 HR1.out x5_1 p221 q221
        have hw221_2 := hx221_2
        have hw221_1 := hx221_1
        have hw221_0 := hx221_0
        cases e221
        replace hx221_0 := (HB.out.cell (World.block_lt_of_cell? w _ hx221_0)).trans hx221_0
        replace hx221_1 := (HB.out.cell (World.block_lt_of_cell? w _ hx221_1)).trans hx221_1
        replace hx221_2 := (HB.out.cell (World.block_lt_of_cell? w _ hx221_2)).trans hx221_2
        have HR221_1 := Aside0.mk hi221_1
        have HC221_1 := Aside0.mk hl221_1
        clear hi221_1 hl221_1
        have HR221_2 := Aside0.mk hi221_2
        have HC221_2 := Aside0.mk hl221_2
        clear hi221_2 hl221_2
        replace p221 := eq_true p221
        replace q221 := eq_true q221
        refine start_ (n := 10) (S := fun w' => w'.cell? (ad220.add ((x5_1).toNat * 3)) = some (.string ((rd_T63 l0 x5_1).f0)) ∧ w'.cell? ⟨(ad220.add ((x5_1).toNat * 3)).block, (ad220.add ((x5_1).toNat * 3)).off + 1, none⟩ = some (.slice A220_1 ((rd_T63 l0 x5_1).f1).length c220_1) ∧ w'.cell? ⟨(ad220.add ((x5_1).toNat * 3)).block, (ad220.add ((x5_1).toNat * 3)).off + 2, none⟩ = some (.slice A220_2 ((rd_T63 l0 x5_1).f2).length c220_2) ∧ w'.cell? (ad221.add ((x5_1).toNat * 3)) = some (.string ((rd_T63 l1 x5_1).f0)) ∧ w'.cell? ⟨(ad221.add ((x5_1).toNat * 3)).block, (ad221.add ((x5_1).toNat * 3)).off + 1, none⟩ = some (.slice A221_1 ((rd_T63 l1 x5_1).f1).length c221_1) ∧ w'.cell? ⟨(ad221.add ((x5_1).toNat * 3)).block, (ad221.add ((x5_1).toNat * 3)).off + 2, none⟩ = some (.slice A221_2 ((rd_T63 l1 x5_1).f2).length c221_2)) (ds := []) #[false, false, false, false, false, false, false, false, false, false] (by kernel_rfl) rfl rfl ⟨((HB.out.cell (World.block_lt_of_cell? w _ hw220_0)).trans hw220_0), ((HB.out.cell (World.block_lt_of_cell? w _ hw220_1)).trans hw220_1), ((HB.out.cell (World.block_lt_of_cell? w _ hw220_2)).trans hw220_2), ((HB.out.cell (World.block_lt_of_cell? w _ hw221_0)).trans hw221_0), ((HB.out.cell (World.block_lt_of_cell? w _ hw221_1)).trans hw221_1), ((HB.out.cell (World.block_lt_of_cell? w _ hw221_2)).trans hw221_2)⟩ (fun hHeld => ?_); refine with_tabW laws_eqAssetS.tab6 laws_eqAssetS.bits6 (fun HT_ HW_ => ?_)
        generalize wr.drew = w9 at HB HR220_1 HR220_2 HR221_1 HR221_2 hx220_0 hx220_1 hx220_2 hx221_0 hx221_1 hx221_2 hHeld ⊢
        refine pureA 0 17 (bz 10 1) rfl rfl (any_of HT_.out (by kernel_rfl)) ?_
        refine pureA 1 18 (bz 10 3) rfl rfl (any_of HT_.out (by kernel_rfl)) ?_
        refine pureA 2 19 (bz 10 7) rfl rfl (any_of HT_.out (by kernel_rfl)) ?_
        refine pureA 4 21 (bz 10 23) rfl rfl (any_of HT_.out (by kernel_rfl)) ?_
        refine pureA 5 22 (bz 10 55) rfl rfl (any_of HT_.out (by kernel_rfl)) ?_
        refine pureA 6 23 (bz 10 119) rfl rfl (any_of HT_.out (by kernel_rfl)) ?_
        refine takeA 3 20 (bz 10 127) rfl rfl (take_ofW HT_.out HW_.out (by kernel_rfl)) hHeld (by rintro w' ⟨s0, s1, s2, s3, s4, s5⟩; go_simp; with_reducible rfl) ?_
        refine takeA 7 24 (bz 10 255) rfl rfl (take_ofW HT_.out HW_.out (by kernel_rfl)) hHeld (by rintro w' ⟨s0, s1, s2, s3, s4, s5⟩; go_simp; with_reducible rfl) ?_
        refine one_ (i := 8) (N := some 25) (bz 10 511) rfl rfl (one_of HT_.out (by kernel_rfl)) (by decide) (fun K hK => ?_)
        refine goes_ Try.func40 (by kernel_rfl) rfl #[.agg #[.string ((rd_T63 l0 x5_1).f0), .slice A220_1 ((rd_T63 l0 x5_1).f1).length c220_1, .slice A220_2 ((rd_T63 l0 x5_1).f2).length c220_2], .agg #[.string ((rd_T63 l1 x5_1).f0), .slice A221_1 ((rd_T63 l1 x5_1).f1).length c221_1, .slice A221_2 ((rd_T63 l1 x5_1).f2).length c221_2]] (by rfl) rfl rfl aE ?_
        with_reducible refine (laws_eqAsset.calls k1 ((rd_T63 l0 x5_1).f0) _ _ ((rd_T63 l0 x5_1).f1) _ _ ((rd_T63 l0 x5_1).f2) ((rd_T63 l1 x5_1).f0) _ _ ((rd_T63 l1 x5_1).f1) _ _ ((rd_T63 l1 x5_1).f2) true _ ?side1 ?side2 ?side3 ?side4 ?side5 ?side6 ?side7 ?side8 A7.out).mono ?_
        (case side1 => exact cU (Kd.C_below HR220_1.out HB.out))
        (case side2 => exact HC220_1.out)
        (case side3 => exact cU (Kd.C_below HR220_2.out HB.out))
        (case side4 => exact HC220_2.out)
        (case side5 => exact cU (Kd.C_below HR221_1.out HB.out))
        (case side6 => exact HC221_1.out)
        (case side7 => exact cU (Kd.C_below HR221_2.out HB.out))
        (case side8 => exact HC221_2.out)
        rintro e w10 ⟨rfl, hb⟩
        refine ⟨_, rfl, ?_⟩
        replace HB := bH (lU) hb
        (try clear hb)
        (try clear hb2)
        (try clear hk)
        (try clear hi)
        refine hK.out _ _ ⟨((HB.out.cell (World.block_lt_of_cell? w _ hw220_0)).trans hw220_0), ((HB.out.cell (World.block_lt_of_cell? w _ hw220_1)).trans hw220_1), ((HB.out.cell (World.block_lt_of_cell? w _ hw220_2)).trans hw220_2), ((HB.out.cell (World.block_lt_of_cell? w _ hw221_0)).trans hw221_0), ((HB.out.cell (World.block_lt_of_cell? w _ hw221_1)).trans hw221_1), ((HB.out.cell (World.block_lt_of_cell? w _ hw221_2)).trans hw221_2)⟩ (fun hHeld => ?_)
        clear hK K
        refine norm_ (a' := ?_) ?_ ?_
        rotate_left
        ·show Act.put _ (some 25) _ = _
         simp only [Act.put, List.setIfInBounds_toArray, List.set_cons_zero, List.set_cons_succ, i64_w, i32_w]
         rfl
        refine pureA 9 26 (bz 10 1023) rfl rfl (any_of HT_.out (by kernel_rfl)) ?_
        refine done_ (done_of HT_.out (by kernel_rfl)) ?_
        try go_wp2
        go_roundg k1
        case measure => have := HK1.out; omega
        case rel => exact ⟨(wrap64 (x5_1 + 1)), tE, H', ⟨by have := HK1.out; omega⟩, ⟨by repeat (first | (with_reducible first | exact HB.out | apply below_alloc | apply pw_below_drewN | apply below_drew1) | exact HB.out)⟩⟩
       ·replace c8 := Bool.eq_false_iff.mpr c8
        subst c8
        have H1 : (some false) = some r := by rw [if_neg (show ¬ (false = true) by decide)] at H; exact H
        clear H
        have H := H1
        clear H1
        obtain rfl := Option.some.inj H
        try go_wp2
        replace HB := Aside0.mk (below_drew1 HB.out)
        have p220 : 0 ≤ (x5_1 : Int) := of_decide_eq_true hE
        have q220 : x5_1 < (l0.length : Int) := of_decide_eq_true hE
        obtain ⟨ad220, A220_1, c220_1, A220_2, c220_2, e220, hx220_0, hx220_1, hx220_2, hl220_1, hi220_1, hl220_2, hi220_2⟩ := at_T63 HR0.out x5_1 p220 q220
        have hw220_2 := hx220_2
        have hw220_1 := hx220_1
        have hw220_0 := hx220_0
        cases e220
        replace hx220_0 := (HB.out.cell (World.block_lt_of_cell? w _ hx220_0)).trans hx220_0
        replace hx220_1 := (HB.out.cell (World.block_lt_of_cell? w _ hx220_1)).trans hx220_1
        replace hx220_2 := (HB.out.cell (World.block_lt_of_cell? w _ hx220_2)).trans hx220_2
        have HR220_1 := Aside0.mk hi220_1
        have HC220_1 := Aside0.mk hl220_1
        clear hi220_1 hl220_1
        have HR220_2 := Aside0.mk hi220_2
        have HC220_2 := Aside0.mk hl220_2
        clear hi220_2 hl220_2
        replace p220 := eq_true p220
        replace q220 := eq_true q220
        have p221 : 0 ≤ (x5_1 : Int) := of_decide_eq_true hE
        have q221 : x5_1 < (l1.length : Int) := of_decide_eq_true hE
        obtain ⟨ad221, A221_1, c221_1, A221_2, c221_2, e221, hx221_0, hx221_1, hx221_2, hl221_1, hi221_1, hl221_2, hi221_2⟩ := at_T63 HR1.out x5_1 p221 q221
        have hw221_2 := hx221_2
        have hw221_1 := hx221_1
        have hw221_0 := hx221_0
        cases e221
        replace hx221_0 := (HB.out.cell (World.block_lt_of_cell? w _ hx221_0)).trans hx221_0
        replace hx221_1 := (HB.out.cell (World.block_lt_of_cell? w _ hx221_1)).trans hx221_1
        replace hx221_2 := (HB.out.cell (World.block_lt_of_cell? w _ hx221_2)).trans hx221_2
        have HR221_1 := Aside0.mk hi221_1
        have HC221_1 := Aside0.mk hl221_1
        clear hi221_1 hl221_1
        have HR221_2 := Aside0.mk hi221_2
        have HC221_2 := Aside0.mk hl221_2
        clear hi221_2 hl221_2
        replace p221 := eq_true p221
        replace q221 := eq_true q221
        refine start_ (n := 10) (S := fun w' => w'.cell? (ad220.add ((x5_1).toNat * 3)) = some (.string ((rd_T63 l0 x5_1).f0)) ∧ w'.cell? ⟨(ad220.add ((x5_1).toNat * 3)).block, (ad220.add ((x5_1).toNat * 3)).off + 1, none⟩ = some (.slice A220_1 ((rd_T63 l0 x5_1).f1).length c220_1) ∧ w'.cell? ⟨(ad220.add ((x5_1).toNat * 3)).block, (ad220.add ((x5_1).toNat * 3)).off + 2, none⟩ = some (.slice A220_2 ((rd_T63 l0 x5_1).f2).length c220_2) ∧ w'.cell? (ad221.add ((x5_1).toNat * 3)) = some (.string ((rd_T63 l1 x5_1).f0)) ∧ w'.cell? ⟨(ad221.add ((x5_1).toNat * 3)).block, (ad221.add ((x5_1).toNat * 3)).off + 1, none⟩ = some (.slice A221_1 ((rd_T63 l1 x5_1).f1).length c221_1) ∧ w'.cell? ⟨(ad221.add ((x5_1).toNat * 3)).block, (ad221.add ((x5_1).toNat * 3)).off + 2, none⟩ = some (.slice A221_2 ((rd_T63 l1 x5_1).f2).length c221_2)) (ds := []) #[false, false, false, false, false, false, false, false, false, false] (by kernel_rfl) rfl rfl ⟨((HB.out.cell (World.block_lt_of_cell? w _ hw220_0)).trans hw220_0), ((HB.out.cell (World.block_lt_of_cell? w _ hw220_1)).trans hw220_1), ((HB.out.cell (World.block_lt_of_cell? w _ hw220_2)).trans hw220_2), ((HB.out.cell (World.block_lt_of_cell? w _ hw221_0)).trans hw221_0), ((HB.out.cell (World.block_lt_of_cell? w _ hw221_1)).trans hw221_1), ((HB.out.cell (World.block_lt_of_cell? w _ hw221_2)).trans hw221_2)⟩ (fun hHeld => ?_); refine with_tabW laws_eqAssetS.tab6 laws_eqAssetS.bits6 (fun HT_ HW_ => ?_)
        generalize wr.drew = w11 at HB HR220_1 HR220_2 HR221_1 HR221_2 hx220_0 hx220_1 hx220_2 hx221_0 hx221_1 hx221_2 hHeld ⊢
        refine pureA 0 17 (bz 10 1) rfl rfl (any_of HT_.out (by kernel_rfl)) ?_
        refine pureA 1 18 (bz 10 3) rfl rfl (any_of HT_.out (by kernel_rfl)) ?_
        refine pureA 2 19 (bz 10 7) rfl rfl (any_of HT_.out (by kernel_rfl)) ?_
        refine pureA 4 21 (bz 10 23) rfl rfl (any_of HT_.out (by kernel_rfl)) ?_
        refine pureA 5 22 (bz 10 55) rfl rfl (any_of HT_.out (by kernel_rfl)) ?_
        refine pureA 6 23 (bz 10 119) rfl rfl (any_of HT_.out (by kernel_rfl)) ?_
        refine takeA 3 20 (bz 10 127) rfl rfl (take_ofW HT_.out HW_.out (by kernel_rfl)) hHeld (by rintro w' ⟨s0, s1, s2, s3, s4, s5⟩; go_simp; with_reducible rfl) ?_
        refine takeA 7 24 (bz 10 255) rfl rfl (take_ofW HT_.out HW_.out (by kernel_rfl)) hHeld (by rintro w' ⟨s0, s1, s2, s3, s4, s5⟩; go_simp; with_reducible rfl) ?_
        refine one_ (i := 8) (N := some 25) (bz 10 511) rfl rfl (one_of HT_.out (by kernel_rfl)) (by decide) (fun K hK => ?_)
        refine goes_ Try.func40 (by kernel_rfl) rfl #[.agg #[.string ((rd_T63 l0 x5_1).f0), .slice A220_1 ((rd_T63 l0 x5_1).f1).length c220_1, .slice A220_2 ((rd_T63 l0 x5_1).f2).length c220_2], .agg #[.string ((rd_T63 l1 x5_1).f0), .slice A221_1 ((rd_T63 l1 x5_1).f1).length c221_1, .slice A221_2 ((rd_T63 l1 x5_1).f2).length c221_2]] (by rfl) rfl rfl aE ?_
        with_reducible refine (laws_eqAsset.calls k1 ((rd_T63 l0 x5_1).f0) _ _ ((rd_T63 l0 x5_1).f1) _ _ ((rd_T63 l0 x5_1).f2) ((rd_T63 l1 x5_1).f0) _ _ ((rd_T63 l1 x5_1).f1) _ _ ((rd_T63 l1 x5_1).f2) false _ ?side1 ?side2 ?side3 ?side4 ?side5 ?side6 ?side7 ?side8 A7.out).mono ?_
        (case side1 => exact cU (Kd.C_below HR220_1.out HB.out))
        (case side2 => exact HC220_1.out)
        (case side3 => exact cU (Kd.C_below HR220_2.out HB.out))
        (case side4 => exact HC220_2.out)
        (case side5 => exact cU (Kd.C_below HR221_1.out HB.out))
        (case side6 => exact HC221_1.out)
        (case side7 => exact cU (Kd.C_below HR221_2.out HB.out))
        (case side8 => exact HC221_2.out)
        rintro e w12 ⟨rfl, hb⟩
        refine ⟨_, rfl, ?_⟩
        replace HB := bH (lU) hb
        (try clear hb)
        (try clear hb2)
        (try clear hk)
        (try clear hi)
        refine hK.out _ _ ⟨((HB.out.cell (World.block_lt_of_cell? w _ hw220_0)).trans hw220_0), ((HB.out.cell (World.block_lt_of_cell? w _ hw220_1)).trans hw220_1), ((HB.out.cell (World.block_lt_of_cell? w _ hw220_2)).trans hw220_2), ((HB.out.cell (World.block_lt_of_cell? w _ hw221_0)).trans hw221_0), ((HB.out.cell (World.block_lt_of_cell? w _ hw221_1)).trans hw221_1), ((HB.out.cell (World.block_lt_of_cell? w _ hw221_2)).trans hw221_2)⟩ (fun hHeld => ?_)
        clear hK K
        refine norm_ (a' := ?_) ?_ ?_
        rotate_left
        ·show Act.put _ (some 25) _ = _
         simp only [Act.put, List.setIfInBounds_toArray, List.set_cons_zero, List.set_cons_succ, i64_w, i32_w]
         rfl
        refine pureA 9 26 (bz 10 1023) rfl rfl (any_of HT_.out (by kernel_rfl)) ?_
        refine done_ (done_of HT_.out (by kernel_rfl)) ?_
        try go_wp2
        go_ret
        exact ⟨eE, lU⟩
      ·rw [if_neg c6] at H
       exact absurd H (by simp)
     ·rw [if_neg c5] at H
      exact absurd H (by simp)
    ·rw [if_neg c4] at H
     have c4b0 : decide (x5_1 < (l0.length : Int)) = false := decide_eq_false c4
     clear c4
     obtain rfl := Option.some.inj H
     go_wp2
     go_ret
     exact ⟨eE, lU⟩
 ·rw [if_neg c3] at H
  have c3b0 : ((l0.length : Int) == (l1.length : Int)) = false := beq_eq_false_iff_ne.mpr c3
  have c3b1 : ((l0.length : Int) != (l1.length : Int)) = true := bne_iff_ne.mpr c3
  have c3b2 : (l0.length == l1.length) = false := by first | simpa using c3 | (simp at c3 ⊢; omega)
  obtain rfl := Option.some.inj H
  go_enter Try.func11, Try.ntmps11
  go_wp2
  go_ret
  exact ⟨eE, lU⟩
end Go.Proofs.Ytifejplilaefiaa.PFnExactGoodAssets
namespace Go.Proofs.Ytifejplilaefiaa.PFnExactGoodAssets
open Go.RowKit Go.Proofs.YtifejplilaefiaaW.PrintWords Go.Proofs.YtifejplilaefiaaW.PrintLast Go.Proofs.YtifejplilaefiaaW.PrintMore
attribute [local go_sem] max2_int min2_int max_two min_two max_three min_three max_four min_four   -- for this text's walks alone
set_option linter.unusedVariables false
set_option linter.unusedSimpArgs false
def laws_FnExactGoodAssets.f (k : Nat) (l0 : List (S62)) : Option (Bool) := (laws_szAssetS.f k l0 1048576).bind fun t223 => (if t223 < 0 then (some true) else ((laws_toAssetS.f k l0).bind fun t224 => ((spec_GoodAssets.f k t224).bind fun t227 => ((laws_toAssetS.f k l0).bind fun t228 => ((impl_GoodAssets.f k t228).bind fun t231 => (if (t231 != t227) = true then (some false) else ((laws_toAssetS.f k l0).bind fun t232 => ((laws_eqAssetS.f k t228 t232).bind fun t235 => (if t235 = true then (some true) else (some false))))))))))
theorem laws_FnExactGoodAssets.mono : ∀ a0 k, LeO (laws_FnExactGoodAssets.f k a0) (laws_FnExactGoodAssets.f (k + 1) a0) := by
 intro a0 k
 unfold laws_FnExactGoodAssets.f
 repeat' first
   | (with_reducible exact impl_GoodAssets.mono _ _)
   | (with_reducible exact laws_eqAssetS.mono _ _ _)
   | (with_reducible exact laws_szAssetS.mono _ _ _)
   | (with_reducible exact laws_toAssetS.mono _ _)
   | (with_reducible exact spec_GoodAssets.mono _ _)
   | (with_reducible exact LeO.refl _)
   | (with_reducible exact LeO.none _)
   | (with_reducible refine LeO.ite ?_ ?_)
   | (with_reducible refine LeO.bind ?_ (fun _ => ?_))
   | exact impl_GoodAssets.mono _ _
   | exact laws_eqAssetS.mono _ _ _
   | exact laws_szAssetS.mono _ _ _
   | exact laws_toAssetS.mono _ _
   | exact spec_GoodAssets.mono _ _
   | exact LeO.none _
   | refine LeO.ite ?_ ?_
   | refine LeO.bind ?_ (fun _ => ?_)
set_option maxHeartbeats 8000000 in
set_option maxRecDepth 100000 in
theorem laws_FnExactGoodAssets.calls (k : Nat) (A0 : Option Addr) (c0 : Nat) (l0 : List (S62)) (r : Bool) (w : World) (hr0 : Kd.C k62 w A0 l0.length l0) (hc0 : l0.length ≤ c0) (h : laws_FnExactGoodAssets.f k l0 = some r) :
  Calls Try.prog 3 #[.slice A0 l0.length c0] w fun e w' => e = .returned (.bool r) ∧ Below w.heap.size w w' := by
 have HR0 := Aside0.mk hr0
 have HC0 := Aside0.mk hc0
 clear hr0 hc0
 have HB := Aside0.mk (Below.refl w.heap.size w)
 have H : ((laws_szAssetS.f k l0 1048576).bind fun t223 => (if t223 < 0 then (some true) else ((laws_toAssetS.f k l0).bind fun t224 => ((spec_GoodAssets.f k t224).bind fun t227 => ((laws_toAssetS.f k l0).bind fun t228 => ((impl_GoodAssets.f k t228).bind fun t231 => (if (t231 != t227) = true then (some false) else ((laws_toAssetS.f k l0).bind fun t232 => ((laws_eqAssetS.f k t228 t232).bind fun t235 => (if t235 = true then (some true) else (some false))))))))))) = some r := h
 clear h
 replace H := Option.bind_eq_some_iff.mp H
 obtain ⟨t223, A20, H⟩ := H
 replace H : (if t223 < 0 then (some true) else ((laws_toAssetS.f k l0).bind fun t224 => ((spec_GoodAssets.f k t224).bind fun t227 => ((laws_toAssetS.f k l0).bind fun t228 => ((impl_GoodAssets.f k t228).bind fun t231 => (if (t231 != t227) = true then (some false) else ((laws_toAssetS.f k l0).bind fun t232 => ((laws_eqAssetS.f k t228 t232).bind fun t235 => (if t235 = true then (some true) else (some false)))))))))) = some r := H
 have A2 := Aside0.mk A20
 clear A20
 by_cases c3 : t223 < 0
 ·rw [if_pos c3] at H
  have c3b0 : decide (t223 < 0) = true := decide_eq_true c3
  clear c3
  obtain rfl := Option.some.inj H
  go_enter Try.func3, Try.ntmps3
  go_wp2_with (first | ((with_reducible refine gate_callee (f := 7) rfl ?_); refine goesL_ (some 9) rfl rfl Try.func7 (by kernel_rfl) rfl #[.slice A0 l0.length c0, .int .i64 1048576] rfl aE ?_; (with_reducible refine (laws_szAssetS.calls k _ _ l0 1048576 t223 _ ?side1 ?side2 A2.out).mono ?_); (case side1 => repeat (first | exact HR0.out | (with_reducible refine Kd.C_alloc ?_ _) | (with_reducible refine Kd.C_drewN ?_ _) | (with_reducible refine Kd.C_drew ?_))); (case side2 => exact HC0.out); rintro e w4 ⟨rfl, hb⟩; refine ⟨_, rfl, ?_⟩; replace HB := bH (lU) hb; (try clear hb)))
  go_ret
  exact ⟨eE, lU⟩
 ·rw [if_neg c3] at H
  have c3b0 : decide (t223 < 0) = false := decide_eq_false c3
  clear c3
  replace H := Option.bind_eq_some_iff.mp H
  obtain ⟨t224, A50, H⟩ := H
  replace H : ((spec_GoodAssets.f k t224).bind fun t227 => ((laws_toAssetS.f k l0).bind fun t228 => ((impl_GoodAssets.f k t228).bind fun t231 => (if (t231 != t227) = true then (some false) else ((laws_toAssetS.f k l0).bind fun t232 => ((laws_eqAssetS.f k t228 t232).bind fun t235 => (if t235 = true then (some true) else (some false)))))))) = some r := H
  have A5 := Aside0.mk A50
  clear A50
  replace H := Option.bind_eq_some_iff.mp H
  obtain ⟨t227, A60, H⟩ := H
  replace H : ((laws_toAssetS.f k l0).bind fun t228 => ((impl_GoodAssets.f k t228).bind fun t231 => (if (t231 != t227) = true then (some false) else ((laws_toAssetS.f k l0).bind fun t232 => ((laws_eqAssetS.f k t228 t232).bind fun t235 => (if t235 = true then (some true) else (some false))))))) = some r := H
  have A6 := Aside0.mk A60
  clear A60
  replace H := Option.bind_eq_some_iff.mp H
  obtain ⟨t228, A70, H⟩ := H
  replace H : ((impl_GoodAssets.f k t228).bind fun t231 => (if (t231 != t227) = true then (some false) else ((laws_toAssetS.f k l0).bind fun t232 => ((laws_eqAssetS.f k t228 t232).bind fun t235 => (if t235 = true then (some true) else (some false)))))) = some r := H
  have A7 := Aside0.mk A70
  clear A70
  replace H := Option.bind_eq_some_iff.mp H
  obtain ⟨t231, A80, H⟩ := H
  replace H : (if (t231 != t227) = true then (some false) else ((laws_toAssetS.f k l0).bind fun t232 => ((laws_eqAssetS.f k t228 t232).bind fun t235 => (if t235 = true then (some true) else (some false))))) = some r := H
  have A8 := Aside0.mk A80
  clear A80
  by_cases c9 : (t231 != t227) = true
  ·rw [if_pos c9] at H
   have c9b0 : (t231 != t227) = true := c9
   (try (have c9b1 : decide (t231 = t227) = false := by simpa using c9))
   (try (have c9b2 : (t231 == t227) = false := by simpa using c9))
   (try (have c9b3 : ¬ (t231 = t227) := by simpa using c9))
   clear c9
   obtain rfl := Option.some.inj H
   go_enter Try.func3, Try.ntmps3
   go_wp2_with (first | ((with_reducible refine gate_callee (f := 7) rfl ?_); refine goesL_ (some 9) rfl rfl Try.func7 (by kernel_rfl) rfl #[.slice A0 l0.length c0, .int .i64 1048576] rfl aE ?_; (with_reducible refine (laws_szAssetS.calls k _ _ l0 1048576 t223 _ ?side1 ?side2 A2.out).mono ?_); (case side1 => repeat (first | exact HR0.out | (with_reducible refine Kd.C_alloc ?_ _) | (with_reducible refine Kd.C_drewN ?_ _) | (with_reducible refine Kd.C_drew ?_))); (case side2 => exact HC0.out); rintro e w10 ⟨rfl, hb⟩; refine ⟨_, rfl, ?_⟩; replace HB := bH (lU) hb; (try clear hb)) | ((with_reducible refine gate_callee (f := 9) rfl ?_); refine goesL_ (some 13) rfl rfl Try.func9 (by kernel_rfl) rfl #[.slice A0 l0.length c0] rfl aE ?_; (with_reducible refine (laws_toAssetS.calls k _ _ l0 t224 _ ?side1 ?side2 A5.out).mono ?_); (case side1 => exact cU (Kd.C_below HR0.out HB.out)); (case side2 => exact HC0.out); rintro e w11 ⟨v225, rfl, ho0, hb⟩; refine ⟨_, rfl, ?_⟩; have HO226 := Aside0.mk (Kd.S_lower ho0 (below_size (lU))); replace HB := bH (lU) hb; (try clear hb); (try clear ho0); obtain ⟨Ao12, co12, eo12⟩ := Kd.S_slice HO226.out; subst eo12) | ((with_reducible refine gate_callee (f := 8) rfl ?_); refine goesL_ (some 14) rfl rfl Try.func8 (by kernel_rfl) rfl #[.slice Ao12 t224.length co12] rfl aE ?_; (with_reducible refine (spec_GoodAssets.calls k _ _ t224 t227 _ ?side1 ?side2 A6.out).mono ?_); (case side1 => exact cU (Kd.S_reads' HO226.out).2.2); (case side2 => exact (Kd.S_reads' HO226.out).2.1); rintro e w13 ⟨rfl, hb⟩; refine ⟨_, rfl, ?_⟩; replace HO226 := Aside0.mk (Kd.S_below (by (with_reducible repeat (first | apply Kd.S_alloc | apply Kd.S_drewN | apply Kd.S_drew)); exact HO226.out) hb); replace HB := bH (lU) hb; (try clear hb)) | ((with_reducible refine gate_callee (f := 9) rfl ?_); refine goesL_ (some 16) rfl rfl Try.func9 (by kernel_rfl) rfl #[.slice A0 l0.length c0] rfl aE ?_; (with_reducible refine (laws_toAssetS.calls k _ _ l0 t228 _ ?side1 ?side2 A7.out).mono ?_); (case side1 => exact cU (Kd.C_below HR0.out HB.out)); (case side2 => exact HC0.out); rintro e w14 ⟨v229, rfl, ho0, hb⟩; refine ⟨_, rfl, ?_⟩; have HO230 := Aside0.mk (Kd.S_lower (Kd.S_new' ho0 (Kd.S_lt (by (with_reducible repeat (first | apply Kd.S_alloc | apply Kd.S_drewN | apply Kd.S_drew)); exact HO226.out))) (below_size (lU))); replace HO226 := Aside0.mk (Kd.S_elder' (by (with_reducible repeat (first | apply Kd.S_alloc | apply Kd.S_drewN | apply Kd.S_drew)); exact HO226.out) (Kd.S_base ho0) hb); replace HB := bH (lU) hb; (try clear hb); (try clear ho0); obtain ⟨Ao15, co15, eo15⟩ := Kd.S_slice HO230.out; subst eo15) | ((with_reducible refine gate_callee (f := 10) rfl ?_); refine goesL_ (some 18) rfl rfl Try.func10 (by kernel_rfl) rfl #[.slice Ao15 t228.length co15] rfl aE ?_; (with_reducible refine (impl_GoodAssets.calls k _ _ t228 t231 _ ?side1 ?side2 A8.out).mono ?_); (case side1 => exact cU (Kd.S_reads' HO230.out).2.2); (case side2 => exact (Kd.S_reads' HO230.out).2.1); rintro e w16 ⟨rfl, hb⟩; refine ⟨_, rfl, ?_⟩; replace HO226 := Aside0.mk (Kd.S_below (by (with_reducible repeat (first | apply Kd.S_alloc | apply Kd.S_drewN | apply Kd.S_drew)); exact HO226.out) hb); replace HO230 := Aside0.mk (Kd.S_below (by (with_reducible repeat (first | apply Kd.S_alloc | apply Kd.S_drewN | apply Kd.S_drew)); exact HO230.out) hb); replace HB := bH (lU) hb; (try clear hb)))
   go_ret
   exact ⟨eE, lU⟩
  ·rw [if_neg c9] at H
   have c9b0 : (t231 != t227) = false := by simpa using c9
   (try (have c9b1 : decide (t231 = t227) = true := by simpa using c9))
   (try (have c9b2 : (t231 == t227) = true := by simpa using c9))
   clear c9
   replace H := Option.bind_eq_some_iff.mp H
   obtain ⟨t232, A170, H⟩ := H
   replace H : ((laws_eqAssetS.f k t228 t232).bind fun t235 => (if t235 = true then (some true) else (some false))) = some r := H
   have A17 := Aside0.mk A170
   clear A170
   replace H := Option.bind_eq_some_iff.mp H
   obtain ⟨t235, A180, H⟩ := H
   replace H : (if t235 = true then (some true) else (some false)) = some r := H
   have A18 := Aside0.mk A180
   clear A180
   by_cases c19 : t235 = true
   ·subst c19
    have H1 : (some true) = some r := by rw [if_pos rfl] at H; exact H
    clear H
    have H := H1
    clear H1
    obtain rfl := Option.some.inj H
    go_enter Try.func3, Try.ntmps3
    go_wp2_with (first | ((with_reducible refine gate_callee (f := 7) rfl ?_); refine goesL_ (some 9) rfl rfl Try.func7 (by kernel_rfl) rfl #[.slice A0 l0.length c0, .int .i64 1048576] rfl aE ?_; (with_reducible refine (laws_szAssetS.calls k _ _ l0 1048576 t223 _ ?side1 ?side2 A2.out).mono ?_); (case side1 => repeat (first | exact HR0.out | (with_reducible refine Kd.C_alloc ?_ _) | (with_reducible refine Kd.C_drewN ?_ _) | (with_reducible refine Kd.C_drew ?_))); (case side2 => exact HC0.out); rintro e w20 ⟨rfl, hb⟩; refine ⟨_, rfl, ?_⟩; replace HB := bH (lU) hb; (try clear hb)) | ((with_reducible refine gate_callee (f := 9) rfl ?_); refine goesL_ (some 13) rfl rfl Try.func9 (by kernel_rfl) rfl #[.slice A0 l0.length c0] rfl aE ?_; (with_reducible refine (laws_toAssetS.calls k _ _ l0 t224 _ ?side1 ?side2 A5.out).mono ?_); (case side1 => exact cU (Kd.C_below HR0.out HB.out)); (case side2 => exact HC0.out); rintro e w21 ⟨v225, rfl, ho0, hb⟩; refine ⟨_, rfl, ?_⟩; have HO226 := Aside0.mk (Kd.S_lower ho0 (below_size (lU))); replace HB := bH (lU) hb; (try clear hb); (try clear ho0); obtain ⟨Ao22, co22, eo22⟩ := Kd.S_slice HO226.out; subst eo22) | ((with_reducible refine gate_callee (f := 8) rfl ?_); refine goesL_ (some 14) rfl rfl Try.func8 (by kernel_rfl) rfl #[.slice Ao22 t224.length co22] rfl aE ?_; (with_reducible refine (spec_GoodAssets.calls k _ _ t224 t227 _ ?side1 ?side2 A6.out).mono ?_); (case side1 => exact cU (Kd.S_reads' HO226.out).2.2); (case side2 => exact (Kd.S_reads' HO226.out).2.1); rintro e w23 ⟨rfl, hb⟩; refine ⟨_, rfl, ?_⟩; replace HO226 := Aside0.mk (Kd.S_below (by (with_reducible repeat (first | apply Kd.S_alloc | apply Kd.S_drewN | apply Kd.S_drew)); exact HO226.out) hb); replace HB := bH (lU) hb; (try clear hb)) | ((with_reducible refine gate_callee (f := 9) rfl ?_); refine goesL_ (some 16) rfl rfl Try.func9 (by kernel_rfl) rfl #[.slice A0 l0.length c0] rfl aE ?_; (with_reducible refine (laws_toAssetS.calls k _ _ l0 t228 _ ?side1 ?side2 A7.out).mono ?_); (case side1 => exact cU (Kd.C_below HR0.out HB.out)); (case side2 => exact HC0.out); rintro e w24 ⟨v229, rfl, ho0, hb⟩; refine ⟨_, rfl, ?_⟩; have HO230 := Aside0.mk (Kd.S_lower (Kd.S_new' ho0 (Kd.S_lt (by (with_reducible repeat (first | apply Kd.S_alloc | apply Kd.S_drewN | apply Kd.S_drew)); exact HO226.out))) (below_size (lU))); replace HO226 := Aside0.mk (Kd.S_elder' (by (with_reducible repeat (first | apply Kd.S_alloc | apply Kd.S_drewN | apply Kd.S_drew)); exact HO226.out) (Kd.S_base ho0) hb); replace HB := bH (lU) hb; (try clear hb); (try clear ho0); obtain ⟨Ao25, co25, eo25⟩ := Kd.S_slice HO230.out; subst eo25) | ((with_reducible refine gate_callee (f := 10) rfl ?_); refine goesL_ (some 18) rfl rfl Try.func10 (by kernel_rfl) rfl #[.slice Ao25 t228.length co25] rfl aE ?_; (with_reducible refine (impl_GoodAssets.calls k _ _ t228 t231 _ ?side1 ?side2 A8.out).mono ?_); (case side1 => exact cU (Kd.S_reads' HO230.out).2.2); (case side2 => exact (Kd.S_reads' HO230.out).2.1); rintro e w26 ⟨rfl, hb⟩; refine ⟨_, rfl, ?_⟩; replace HO226 := Aside0.mk (Kd.S_below (by (with_reducible repeat (first | apply Kd.S_alloc | apply Kd.S_drewN | apply Kd.S_drew)); exact HO226.out) hb); replace HO230 := Aside0.mk (Kd.S_below (by (with_reducible repeat (first | apply Kd.S_alloc | apply Kd.S_drewN | apply Kd.S_drew)); exact HO230.out) hb); replace HB := bH (lU) hb; (try clear hb)) | ((with_reducible refine gate_callee (f := 9) rfl ?_); refine goesL_ (some 24) rfl rfl Try.func9 (by kernel_rfl) rfl #[.slice A0 l0.length c0] rfl aE ?_; (with_reducible refine (laws_toAssetS.calls k _ _ l0 t232 _ ?side1 ?side2 A17.out).mono ?_); (case side1 => exact cU (Kd.C_below HR0.out HB.out)); (case side2 => exact HC0.out); rintro e w27 ⟨v233, rfl, ho0, hb⟩; refine ⟨_, rfl, ?_⟩; have HO234 := Aside0.mk (Kd.S_lower (Kd.S_new' (Kd.S_new' ho0 (Kd.S_lt (by (with_reducible repeat (first | apply Kd.S_alloc | apply Kd.S_drewN | apply Kd.S_drew)); exact HO226.out))) (Kd.S_lt (by (with_reducible repeat (first | apply Kd.S_alloc | apply Kd.S_drewN | apply Kd.S_drew)); exact HO230.out))) (below_size (lU))); replace HO226 := Aside0.mk (Kd.S_elder' (by (with_reducible repeat (first | apply Kd.S_alloc | apply Kd.S_drewN | apply Kd.S_drew)); exact HO226.out) (Kd.S_base ho0) hb); replace HO230 := Aside0.mk (Kd.S_elder' (by (with_reducible repeat (first | apply Kd.S_alloc | apply Kd.S_drewN | apply Kd.S_drew)); exact HO230.out) (Kd.S_base ho0) hb); replace HB := bH (lU) hb; (try clear hb); (try clear ho0); obtain ⟨Ao28, co28, eo28⟩ := Kd.S_slice HO234.out; subst eo28) | ((with_reducible refine gate_callee (f := 11) rfl ?_); refine goesL_ (some 25) rfl rfl Try.func11 (by kernel_rfl) rfl #[.slice Ao25 t228.length co25, .slice Ao28 t232.length co28] rfl aE ?_; (with_reducible refine (laws_eqAssetS.calls k _ _ t228 _ _ t232 true _ ?side1 ?side2 ?side3 ?side4 A18.out).mono ?_); (case side1 => exact cU (Kd.S_reads' HO230.out).2.2); (case side2 => exact (Kd.S_reads' HO230.out).2.1); (case side3 => exact cU (Kd.S_reads' HO234.out).2.2); (case side4 => exact (Kd.S_reads' HO234.out).2.1); rintro e w29 ⟨rfl, hb⟩; refine ⟨_, rfl, ?_⟩; replace HO226 := Aside0.mk (Kd.S_below (by (with_reducible repeat (first | apply Kd.S_alloc | apply Kd.S_drewN | apply Kd.S_drew)); exact HO226.out) hb); replace HO230 := Aside0.mk (Kd.S_below (by (with_reducible repeat (first | apply Kd.S_alloc | apply Kd.S_drewN | apply Kd.S_drew)); exact HO230.out) hb); replace HO234 := Aside0.mk (Kd.S_below (by (with_reducible repeat (first | apply Kd.S_alloc | apply Kd.S_drewN | apply Kd.S_drew)); exact HO234.out) hb); replace HB := bH (lU) hb; (try clear hb)))
    go_ret
    exact ⟨eE, lU⟩
   ·replace c19 := Bool.eq_false_iff.mpr c19
    subst c19
    have H1 : (some false) = some r := by rw [if_neg (show ¬ (false = true) by decide)] at H; exact H
    clear H
    have H := H1
    clear H1
    obtain rfl := Option.some.inj H
    go_enter Try.func3, Try.ntmps3
    go_wp2_with (first | ((with_reducible refine gate_callee (f := 7) rfl ?_); refine goesL_ (some 9) rfl rfl Try.func7 (by kernel_rfl) rfl #[.slice A0 l0.length c0, .int .i64 1048576] rfl aE ?_; (with_reducible refine (laws_szAssetS.calls k _ _ l0 1048576 t223 _ ?side1 ?side2 A2.out).mono ?_); (case side1 => repeat (first | exact HR0.out | (with_reducible refine Kd.C_alloc ?_ _) | (with_reducible refine Kd.C_drewN ?_ _) | (with_reducible refine Kd.C_drew ?_))); (case side2 => exact HC0.out); rintro e w30 ⟨rfl, hb⟩; refine ⟨_, rfl, ?_⟩; replace HB := bH (lU) hb; (try clear hb)) | ((with_reducible refine gate_callee (f := 9) rfl ?_); refine goesL_ (some 13) rfl rfl Try.func9 (by kernel_rfl) rfl #[.slice A0 l0.length c0] rfl aE ?_; (with_reducible refine (laws_toAssetS.calls k _ _ l0 t224 _ ?side1 ?side2 A5.out).mono ?_); (case side1 => exact cU (Kd.C_below HR0.out HB.out)); (case side2 => exact HC0.out); rintro e w31 ⟨v225, rfl, ho0, hb⟩; refine ⟨_, rfl, ?_⟩; have HO226 := Aside0.mk (Kd.S_lower ho0 (below_size (lU))); replace HB := bH (lU) hb; (try clear hb); (try clear ho0); obtain ⟨Ao32, co32, eo32⟩ := Kd.S_slice HO226.out; subst eo32) | ((with_reducible refine gate_callee (f := 8) rfl ?_); refine goesL_ (some 14) rfl rfl Try.func8 (by kernel_rfl) rfl #[.slice Ao32 t224.length co32] rfl aE ?_; (with_reducible refine (spec_GoodAssets.calls k _ _ t224 t227 _ ?side1 ?side2 A6.out).mono ?_); (case side1 => exact cU (Kd.S_reads' HO226.out).2.2); (case side2 => exact (Kd.S_reads' HO226.out).2.1); rintro e w33 ⟨rfl, hb⟩; refine ⟨_, rfl, ?_⟩; replace HO226 := Aside0.mk (Kd.S_below (by (with_reducible repeat (first | apply Kd.S_alloc | apply Kd.S_drewN | apply Kd.S_drew)); exact HO226.out) hb); replace HB := bH (lU) hb; (try clear hb)) | ((with_reducible refine gate_callee (f := 9) rfl ?_); refine goesL_ (some 16) rfl rfl Try.func9 (by kernel_rfl) rfl #[.slice A0 l0.length c0] rfl aE ?_; (with_reducible refine (laws_toAssetS.calls k _ _ l0 t228 _ ?side1 ?side2 A7.out).mono ?_); (case side1 => exact cU (Kd.C_below HR0.out HB.out)); (case side2 => exact HC0.out); rintro e w34 ⟨v229, rfl, ho0, hb⟩; refine ⟨_, rfl, ?_⟩; have HO230 := Aside0.mk (Kd.S_lower (Kd.S_new' ho0 (Kd.S_lt (by (with_reducible repeat (first | apply Kd.S_alloc | apply Kd.S_drewN | apply Kd.S_drew)); exact HO226.out))) (below_size (lU))); replace HO226 := Aside0.mk (Kd.S_elder' (by (with_reducible repeat (first | apply Kd.S_alloc | apply Kd.S_drewN | apply Kd.S_drew)); exact HO226.out) (Kd.S_base ho0) hb); replace HB := bH (lU) hb; (try clear hb); (try clear ho0); obtain ⟨Ao35, co35, eo35⟩ := Kd.S_slice HO230.out; subst eo35) | ((with_reducible refine gate_callee (f := 10) rfl ?_); refine goesL_ (some 18) rfl rfl Try.func10 (by kernel_rfl) rfl #[.slice Ao35 t228.length co35] rfl aE ?_; (with_reducible refine (impl_GoodAssets.calls k _ _ t228 t231 _ ?side1 ?side2 A8.out).mono ?_); (case side1 => exact cU (Kd.S_reads' HO230.out).2.2); (case side2 => exact (Kd.S_reads' HO230.out).2.1); rintro e w36 ⟨rfl, hb⟩; refine ⟨_, rfl, ?_⟩; replace HO226 := Aside0.mk (Kd.S_below (by (with_reducible repeat (first | apply Kd.S_alloc | apply Kd.S_drewN | apply Kd.S_drew)); exact HO226.out) hb); replace HO230 := Aside0.mk (Kd.S_below (by (with_reducible repeat (first | apply Kd.S_alloc | apply Kd.S_drewN | apply Kd.S_drew)); exact HO230.out) hb); replace HB := bH (lU) hb; (try clear hb)) | ((with_reducible refine gate_callee (f := 9) rfl ?_); refine goesL_ (some 24) rfl rfl Try.func9 (by kernel_rfl) rfl #[.slice A0 l0.length c0] rfl aE ?_; (with_reducible refine (laws_toAssetS.calls k _ _ l0 t232 _ ?side1 ?side2 A17.out).mono ?_); (case side1 => exact cU (Kd.C_below HR0.out HB.out)); (case side2 => exact HC0.out); rintro e w37 ⟨v233, rfl, ho0, hb⟩; refine ⟨_, rfl, ?_⟩; have HO234 := Aside0.mk (Kd.S_lower (Kd.S_new' (Kd.S_new' ho0 (Kd.S_lt (by (with_reducible repeat (first | apply Kd.S_alloc | apply Kd.S_drewN | apply Kd.S_drew)); exact HO226.out))) (Kd.S_lt (by (with_reducible repeat (first | apply Kd.S_alloc | apply Kd.S_drewN | apply Kd.S_drew)); exact HO230.out))) (below_size (lU))); replace HO226 := Aside0.mk (Kd.S_elder' (by (with_reducible repeat (first | apply Kd.S_alloc | apply Kd.S_drewN | apply Kd.S_drew)); exact HO226.out) (Kd.S_base ho0) hb); replace HO230 := Aside0.mk (Kd.S_elder' (by (with_reducible repeat (first | apply Kd.S_alloc | apply Kd.S_drewN | apply Kd.S_drew)); exact HO230.out) (Kd.S_base ho0) hb); replace HB := bH (lU) hb; (try clear hb); (try clear ho0); obtain ⟨Ao38, co38, eo38⟩ := Kd.S_slice HO234.out; subst eo38) | ((with_reducible refine gate_callee (f := 11) rfl ?_); refine goesL_ (some 25) rfl rfl Try.func11 (by kernel_rfl) rfl #[.slice Ao35 t228.length co35, .slice Ao38 t232.length co38] rfl aE ?_; (with_reducible refine (laws_eqAssetS.calls k _ _ t228 _ _ t232 false _ ?side1 ?side2 ?side3 ?side4 A18.out).mono ?_); (case side1 => exact cU (Kd.S_reads' HO230.out).2.2); (case side2 => exact (Kd.S_reads' HO230.out).2.1); (case side3 => exact cU (Kd.S_reads' HO234.out).2.2); (case side4 => exact (Kd.S_reads' HO234.out).2.1); rintro e w39 ⟨rfl, hb⟩; refine ⟨_, rfl, ?_⟩; replace HO226 := Aside0.mk (Kd.S_below (by (with_reducible repeat (first | apply Kd.S_alloc | apply Kd.S_drewN | apply Kd.S_drew)); exact HO226.out) hb); replace HO230 := Aside0.mk (Kd.S_below (by (with_reducible repeat (first | apply Kd.S_alloc | apply Kd.S_drewN | apply Kd.S_drew)); exact HO230.out) hb); replace HO234 := Aside0.mk (Kd.S_below (by (with_reducible repeat (first | apply Kd.S_alloc | apply Kd.S_drewN | apply Kd.S_drew)); exact HO234.out) hb); replace HB := bH (lU) hb; (try clear hb)))
    go_ret
    exact ⟨eE, lU⟩
end Go.Proofs.Ytifejplilaefiaa.PFnExactGoodAssets
namespace Go.Proofs.YtifejplilaefiaaO
open Go.ChangeShapes Go.WideShapes Go.Proofs.YtifejplilaefiaaW.PrintWords Go.RowKit
def InU8 (n : Int) : Prop := 0 ≤ n ∧ n ≤ 255
def Opens {α : Type} (P : Program) (t : TypeId) (d : Kd α) (g : α → Prop) : Prop :=
  ∀ {H : Type} (enc : TypeId × Value → H) (w : World) (fuel : Nat) (cs : List Value) (y : DataW H) (ps : List MemPlace),
    DataW.trod enc P w 0 (fun _ => true) true fuel t cs = some (y, ps) → (∀ n ∈ y.weights P t, n ≤ reachBytes) → ∃ x, d.K w x cs ∧ g x
theorem Opens.imp {α : Type} {P : Program} {t : TypeId} {d : Kd α} {g g' : α → Prop} (h : Opens P t d g) (k : ∀ x, g x → g' x) : Opens P t d g' := by
  intro H enc w fuel cs y ps ht hw
  obtain ⟨x, hx, hg⟩ := h enc w fuel cs y ps ht hw
  exact ⟨x, hx, k x hg⟩
theorem opens_int {P : Program} {t : TypeId} {k : IntKind} (ht : P.underlying t = some (.int k)) : Opens P t (Kd.int k) (fun n => (Lit.int k n).wf = true) := by
  intro H enc w fuel cs y ps h _
  obtain ⟨n, rfl, _, hw⟩ := DataW.trod_int ht h
  exact ⟨n, rfl, hw⟩
theorem wf_u8 {n : Int} (h : (Lit.int .u8 n).wf = true) : InU8 n := bounds_u8 h
theorem opens_u8 {P : Program} {t : TypeId} (ht : P.underlying t = some (.int .u8)) : Opens P t (Kd.int .u8) InU8 := Opens.imp (opens_int ht) fun _ h => wf_u8 h
theorem opens_string {P : Program} {t : TypeId} (ht : P.underlying t = some .string) : Opens P t Kd.string (fun s => s.size ≤ 140737488351232) := by
  intro H enc w fuel cs y ps h hw
  obtain ⟨s, rfl, hx, _⟩ := DataW.trod_string ht h
  obtain ⟨rfl, _⟩ := Prod.mk.inj hx
  refine ⟨s, rfl, ?_⟩
  have := hw s.data.toList.length (by simp [DataW.weights])
  rw [Array.length_toList] at this
  exact this
theorem exists_list {α : Type} (p : Nat → α → Prop) : ∀ n : Nat, (∀ i, i < n → ∃ x, p i x) → ∃ xs : List α, xs.length = n ∧ ∀ i x, xs[i]? = some x → p i x
  | 0, _ => ⟨[], rfl, fun i x h => by simp at h⟩
  | n + 1, h => by
    obtain ⟨xs, hl, hx⟩ := exists_list p n (fun i hi => h i (by omega))
    obtain ⟨x, hp⟩ := h n (by omega)
    refine ⟨xs ++ [x], by simp [hl], fun i y hy => ?_⟩
    rcases Nat.lt_or_ge i xs.length with hi | hi
    · rw [List.getElem?_append_left hi] at hy
      exact hx i y hy
    · have : i = n := by
        have := (List.getElem?_eq_some_iff.1 hy).1
        rw [List.length_append, List.length_singleton] at this
        omega
      subst this
      rw [List.getElem?_append_right hi] at hy
      rw [hl] at hy
      simp at hy
      subst hy
      exact hp
theorem add_add (ad : Addr) (i j : Nat) : (ad.add i).add j = ad.add (i + j) := by
  unfold Addr.add
  by_cases h1 : i = 0 <;> by_cases h2 : j = 0 <;> simp [h1, h2, Nat.add_assoc]
theorem weightsAll_mem {H : Type} {P : Program} {e : TypeId} : ∀ {l : List (DataW H)} {d : DataW H}, d ∈ l → ∀ n ∈ d.weights P e, n ∈ DataW.weightsAll P e l
  | [], d, h, _, _ => by simp at h
  | x :: r, d, h, n, hn => by
    simp only [DataW.weightsAll, List.mem_append]
    rcases List.mem_cons.1 h with rfl | h
    · exact .inl hn
    · exact .inr (weightsAll_mem h n hn)
theorem opens_slice {α : Type} {P : Program} {t e : TypeId} {d : Kd α} {g : α → Prop} {B : Nat} (ht : P.underlying t = some (.slice e)) (hs : P.cellsOf e = d.sz) (hB : P.bytesOf e = B) (h : Opens P e d g) :
    Opens P t (Kd.slice e d) (fun xs => xs.length * B ≤ 140737488351232 ∧ ∀ x ∈ xs, g x) := by
  intro H enc w fuel cs y ps hy hw
  rcases DataW.trod_slice ht hy with ⟨rfl, _⟩ | ⟨a, len, cap, elems, rest, n, rfl, rfl, hx, _, hlc, hcm, hel, hget, _, _⟩
  · exact ⟨[], ⟨none, 0, rfl, Nat.le_refl _, Kd.C_nil d w⟩, by simp⟩
  · obtain ⟨rfl, _⟩ := Prod.mk.inj hx
    simp only [DataW.weights, ht] at hw
    have hlen : len * B ≤ 140737488351232 := by
      have := hw _ List.mem_cons_self
      simp only [List.length_map, hB] at this
      have h2 : len * B ≤ (elems.length + rest.length) * B := Nat.mul_le_mul_right _ (by omega)
      exact Nat.le_trans h2 this
    have key : ∀ i, i < len → ∃ x, (∃ c, c.length = d.sz ∧ d.K w x c ∧ ∀ j u, c[j]? = some u → w.cell? (a.add (i * d.sz + j)) = some u) ∧ g x := by
      intro i hi
      have hg := hget i hi
      rw [List.getElem?_eq_getElem (by omega), Option.bind_eq_some_iff] at hg
      obtain ⟨c, hc, hd⟩ := hg
      obtain ⟨_, hcl, hcell⟩ := World.cells?_some hc
      obtain ⟨x, hK, hgx⟩ := h enc w n c _ _ hd (fun m hm => hw m (List.mem_cons_of_mem _ (List.mem_append_left _ (weightsAll_mem (List.mem_map_of_mem (List.getElem_mem _)) m hm))))
      refine ⟨x, ⟨c, hcl.trans hs, hK, fun j u hj => ?_⟩, hgx⟩
      have hjl : j < P.cellsOf e := by
        have := (List.getElem?_eq_some_iff.1 hj).1
        omega
      have := hcell j hjl
      rw [add_add, hj, hs] at this
      exact this
    obtain ⟨xs, hxl, hxs⟩ := exists_list _ len key
    refine ⟨xs, ⟨some a, cap, by rw [hxl], by omega, hxl ▸ ⟨hxl, by simp only [maxLen] at hcm; omega, fun _ => ⟨a, rfl, fun j p hp => (hxs j p hp).1⟩⟩⟩, by rw [hxl]; exact hlen, fun x hx => ?_⟩
    obtain ⟨i, hi, rfl⟩ := List.getElem_of_mem hx
    exact (hxs i _ (List.getElem?_eq_getElem hi)).2
theorem opens_iso {α β : Type} {P : Program} {t : TypeId} {d : Kd α} {g : α → Prop} (f : β → α) (inv : α → β) (hi : ∀ x, f (inv x) = x) (h : Opens P t d g) : Opens P t (Kd.iso d f) (fun x => g (f x)) := by
  intro H enc w fuel cs y ps hy hw
  obtain ⟨x, hK, hg⟩ := h enc w fuel cs y ps hy hw
  refine ⟨inv x, ?_, ?_⟩
  · show d.K w (f (inv x)) cs
    rw [hi]; exact hK
  · show g (f (inv x))
    rw [hi]; exact hg
def OpensL {α : Type} (P : Program) (fs : List Field) (off : Nat) (d : Kd α) (g : α → Prop) : Prop :=
  ∀ {H : Type} (enc : TypeId × Value → H) (w : World) (n : Nat) (cs : List Value) (ys : List (DataW H × List MemPlace)), ys.length = fs.length →
    (∀ (i : Nat) (f : Field), fs[i]? = some f → DataW.trod enc P w 0 (fun _ => true) true n f.type ((cs.drop f.offset).take (P.cellsOf f.type)) = ys[i]?) →
    (∀ m ∈ DataW.weightsEach P (fs.map (·.type)) (ys.map (·.1)), m ≤ reachBytes) → ∃ x, d.K w x ((cs.drop off).take d.sz) ∧ g x
theorem opensL_one {α : Type} {P : Program} {f : Field} {off : Nat} {d : Kd α} {g : α → Prop} (ho : f.offset = off) (hs : P.cellsOf f.type = d.sz) (h : Opens P f.type d g) : OpensL P [f] off d g := by
  intro H enc w n cs ys hl hf hw
  match ys, hl with
  | [y], _ =>
    have h0 := hf 0 f rfl
    rw [ho, hs] at h0
    exact h enc w n _ y.1 y.2 h0 (fun m hm => hw m (by simp only [List.map_cons, DataW.weightsEach, List.mem_append]; exact .inl hm))
theorem opensL_cons {α β : Type} {P : Program} {f : Field} {fs : List Field} {off : Nat} {a : Kd α} {b : Kd β} {ga : α → Prop} {gb : β → Prop} (ho : f.offset = off) (hs : P.cellsOf f.type = a.sz) (h : Opens P f.type a ga) (hr : OpensL P fs (off + a.sz) b gb) :
    OpensL P (f :: fs) off (Kd.pair a b) (fun x => ga x.1 ∧ gb x.2) := by
  intro H enc w n cs ys hl hf hw
  match ys, hl with
  | y :: ys, hl =>
    have h0 := hf 0 f rfl
    rw [ho, hs] at h0
    obtain ⟨x, hx, hgx⟩ := h enc w n _ y.1 y.2 h0 (fun m hm => hw m (by simp only [List.map_cons, DataW.weightsEach, List.mem_append]; exact .inl hm))
    obtain ⟨x', hx', hgx'⟩ := hr enc w n cs ys (by simpa using hl) (fun i f' hf' => by have := hf (i + 1) f' (by simpa using hf'); simpa using this) (fun m hm => hw m (by simp only [List.map_cons, DataW.weightsEach, List.mem_append]; exact .inr hm))
    refine ⟨(x, x'), ⟨_, _, ?_, hx, hx'⟩, hgx, hgx'⟩
    show (cs.drop off).take (a.sz + b.sz) = _
    rw [List.take_add, List.drop_drop]
theorem opens_struct {α : Type} {P : Program} {t : TypeId} {fs : Array Field} {d : Kd α} {g : α → Prop} (ht : P.underlying t = some (.struct fs)) (hs : P.cellsOf t = d.sz) (h : OpensL P fs.toList 0 d g) : Opens P t d g := by
  intro H enc w fuel cs y ps hy hw
  obtain ⟨xs, n, rfl, hx, hl, hxl, hget⟩ := DataW.trod_struct ht hy
  obtain ⟨rfl, _⟩ := Prod.mk.inj hx
  simp only [DataW.weights, ht] at hw
  obtain ⟨x, hK, hg⟩ := h enc w n cs xs (by simpa using hxl) (fun i f hf => hget i f (by simpa using hf)) (by simpa using hw)
  rw [List.drop_zero, List.take_of_length_le (by omega)] at hK
  exact ⟨x, hK, hg⟩
theorem weights_of {H : Type} {P : Program} {ts : List TypeId} {ds : List (DataW H)} {j : Nat} {t : TypeId} {d : DataW H} (hsz : (DataW.weightsEach P ts ds).all (· ≤ reachBytes) = true) (ht : ts[j]? = some t) (hd : ds[j]? = some d) : ∀ n ∈ d.weights P t, n ≤ reachBytes := by
  intro n hn
  have := List.all_eq_true.1 hsz n (DataW.weights_mem_each ht hd n hn)
  simpa using this
theorem open_slice {α H : Type} {enc : TypeId × Value → H} {P : Program} {W : World} {t e : TypeId} {d : Kd α} {g : List α → Prop} {a : Option Addr} {len cap : Nat} {y : DataW H} {ps : List MemPlace} (h : Opens P t (Kd.slice e d) g)
    (hy : DataW.Trod enc P W 0 (fun _ => true) true t (.slice a len cap) y ps) (hw : ∀ n ∈ y.weights P t, n ≤ reachBytes) : ∃ xs : List α, len = xs.length ∧ xs.length ≤ cap ∧ d.C W a xs.length xs ∧ g xs := by
  obtain ⟨fuel, hf⟩ := hy
  obtain ⟨xs, ⟨A, c, he, hl, hC⟩, hg⟩ := h enc W fuel _ y ps hf hw
  have he' : Value.slice a len cap = .slice A xs.length c := by simpa [Value.cells] using he
  injection he' with h1 h2 h3
  subst h1 h2 h3
  exact ⟨xs, rfl, hl, hC, hg⟩
end Go.Proofs.YtifejplilaefiaaO
namespace Go.Proofs.Ytifejplilaefiaa.OFnExactGoodAssets
open Go.RowKit Go.Proofs.Ytifejplilaefiaa.PFnExactGoodAssets Go.Proofs.YtifejplilaefiaaW.PrintWords Go.Proofs.YtifejplilaefiaaO
def Ok62 (x : S62) : Prop := (x.f0.size ≤ 140737488351232) ∧ (x.f1.length * 16 ≤ 140737488351232 ∧ ∀ y ∈ x.f1, y.size ≤ 140737488351232) ∧ (x.f2.length * 1 ≤ 140737488351232 ∧ ∀ y ∈ x.f2, InU8 y)
theorem opens62 : Opens Try.prog 62 k62 Ok62 :=
  Opens.imp (opens_iso _ (fun x => (⟨x.1, x.2.1, x.2.2⟩ : S62)) (fun _ => rfl) (opens_struct Try.underlying62 (by kernel_rfl) (opensL_cons rfl (by kernel_rfl) (opens_string Try.underlying9) (opensL_cons rfl (by kernel_rfl) (opens_slice Try.underlying29 (by kernel_rfl) (B := 16) (by kernel_rfl) (opens_string Try.underlying9)) (opensL_one rfl (by kernel_rfl) (opens_slice Try.underlying60 (by kernel_rfl) (B := 1) (by kernel_rfl) (opens_u8 Try.underlying5))))))) fun x h => by
    obtain ⟨h0, h1, h2⟩ := h
    exact ⟨h0, h1, h2⟩
end Go.Proofs.Ytifejplilaefiaa.OFnExactGoodAssets
