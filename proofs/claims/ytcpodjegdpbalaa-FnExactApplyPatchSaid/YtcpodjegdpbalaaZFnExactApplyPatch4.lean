/- Texts of the row of the law FnExactApplyPatch, laid together. -/
import Derived.Test.YtcpodjegdpbalaaZFnExactApplyPatch3
import Derived.Test.YtcpodjegdpbalaaZFnExactApplyPatch0
import Derived.SizedLaws
import Derived.ChangeArms
import Derived.OpenShut
import Derived.WideShapes
import Derived.WalkKit
import Derived.KernelRfl
import Derived.Laws.BitsLemmas
namespace Go.Proofs.Ytcpodjegdpbalaa.PFnExactApplyPatch
open Go.RowKit Go.Proofs.YtcpodjegdpbalaaW.PrintWords Go.Proofs.YtcpodjegdpbalaaW.PrintLast Go.Proofs.YtcpodjegdpbalaaW.PrintMore
attribute [local go_sem] max2_int min2_int max_two min_two max_three min_three max_four min_four   -- for this text's walks alone
set_option linter.unusedVariables false
set_option linter.unusedSimpArgs false
mutual
def laws_FnExactApplyPatch.j0 : Nat → List Int → List (S68) → List Int → Bool → List Int → List (S62) → List Int → Bool → Bool → Option (Bool)
 | 0, _, _, _, _, _, _, _, _, _ => none
 | k + 1, x0, x1, x6, x7, x8, x9, x10, x11, x51 => if x51 = true then (some false) else ((laws_toByteS.f k x0).bind fun t190 => ((laws_eqByteS.f k x8 t190).bind fun t193 => (if t193 = true then ((laws_toChunkS.f k x1).bind fun t194 => ((laws_eqChunkS.f k x9 t194).bind fun t197 => (if t197 = true then ((laws_markByteS.f k x8 1).bind fun bt198 => ((laws_markChunkS.f k x9 bt198.1).bind fun bt200 => (if bt200.1 < 0 then (laws_FnExactApplyPatch.j1 k x0 x1 x6 x7 x10 true) else ((laws_eqByteS.f k x10 x6).bind fun t202 => (if t202 = true then (laws_FnExactApplyPatch.j1 k x0 x1 x6 x7 x10 (x11 != x7)) else (laws_FnExactApplyPatch.j1 k x0 x1 x6 x7 x10 true)))))) else (some false)))) else (some false))))
def laws_FnExactApplyPatch.j1 : Nat → List Int → List (S68) → List Int → Bool → List Int → Bool → Option (Bool)
 | 0, _, _, _, _, _, _ => none
 | k + 1, x0, x1, x6, x7, x10, x80 => if x80 = true then (some false) else ((laws_markByteS.f k x10 1).bind fun bt203 => ((laws_heldByteS.f k bt203.2 1).bind fun t205 => (if t205 < 0 then (some false) else (if t205 = bt203.1 then ((laws_toByteS.f k x0).bind fun t206 => ((laws_toChunkS.f k x1).bind fun t209 => ((impl_ApplyPatch.f k t206 t209).bind fun bt212 => ((laws_eqByteS.f k bt212.1 x6).bind fun t216 => (if t216 = true then (laws_FnExactApplyPatch.j2 k bt203.2 bt203.1 (bt212.2 != x7)) else (laws_FnExactApplyPatch.j2 k bt203.2 bt203.1 true)))))) else (some false)))))
def laws_FnExactApplyPatch.j2 : Nat → List Int → Int → Bool → Option (Bool)
 | 0, _, _, _ => none
 | k + 1, x10, x13, x108 => if x108 = true then (some false) else ((laws_heldByteS.f k x10 1).bind fun t217 => (if t217 < 0 then (some false) else (if t217 = x13 then (some true) else (some false))))
end
def laws_FnExactApplyPatch.f (k : Nat) (l0 : List Int) (l1 : List (S68)) : Option (Bool) := if (l0.length : Int) > 1048576 then (some true) else ((laws_szChunkS.f k l1 1048576).bind fun t168 => (if t168 < 0 then (some true) else ((laws_toByteS.f k l0).bind fun t169 => ((laws_toChunkS.f k l1).bind fun t172 => ((spec_ApplyPatch.f k t169 t172).bind fun bt175 => ((laws_toByteS.f k l0).bind fun t179 => ((laws_toChunkS.f k l1).bind fun t182 => ((impl_ApplyPatch.f k t179 t182).bind fun bt185 => ((laws_eqByteS.f k bt185.1 bt175.1).bind fun t189 => (if t189 = true then (laws_FnExactApplyPatch.j0 k l0 l1 bt175.1 bt175.2 t179 t182 bt185.1 bt185.2 (bt185.2 != bt175.2)) else (laws_FnExactApplyPatch.j0 k l0 l1 bt175.1 bt175.2 t179 t182 bt185.1 bt185.2 true)))))))))))
theorem laws_FnExactApplyPatch.mono_l : ∀ k, (∀ y0 y1 y2 y3 y4 y5 y6 y7 y8, LeO (laws_FnExactApplyPatch.j0 k y0 y1 y2 y3 y4 y5 y6 y7 y8) (laws_FnExactApplyPatch.j0 (k + 1) y0 y1 y2 y3 y4 y5 y6 y7 y8)) ∧ (∀ y0 y1 y2 y3 y4 y5, LeO (laws_FnExactApplyPatch.j1 k y0 y1 y2 y3 y4 y5) (laws_FnExactApplyPatch.j1 (k + 1) y0 y1 y2 y3 y4 y5)) ∧ (∀ y0 y1 y2, LeO (laws_FnExactApplyPatch.j2 k y0 y1 y2) (laws_FnExactApplyPatch.j2 (k + 1) y0 y1 y2))
 | 0 => ⟨fun _ _ _ _ _ _ _ _ _ r h => by simp [laws_FnExactApplyPatch.j0] at h, fun _ _ _ _ _ _ r h => by simp [laws_FnExactApplyPatch.j1] at h, fun _ _ _ r h => by simp [laws_FnExactApplyPatch.j2] at h⟩
 | k + 1 => by
  obtain ⟨ih0, ih1, ih2⟩ := laws_FnExactApplyPatch.mono_l k
  refine ⟨?_, ?_, ?_⟩
  ·intro y0 y1 y2 y3 y4 y5 y6 y7 y8
   unfold laws_FnExactApplyPatch.j0
   repeat' first
   | (with_reducible exact ih0 _ _ _ _ _ _ _ _ _)
   | (with_reducible exact ih1 _ _ _ _ _ _)
   | (with_reducible exact ih2 _ _ _)
   | (with_reducible exact impl_ApplyPatch.mono _ _ _)
   | (with_reducible exact laws_eqByteS.mono _ _ _)
   | (with_reducible exact laws_eqChunkS.mono _ _ _)
   | (with_reducible exact laws_heldByteS.mono _ _ _)
   | (with_reducible exact laws_markByteS.mono _ _ _)
   | (with_reducible exact laws_markChunkS.mono _ _ _)
   | (with_reducible exact laws_szChunkS.mono _ _ _)
   | (with_reducible exact laws_toByteS.mono _ _)
   | (with_reducible exact laws_toChunkS.mono _ _)
   | (with_reducible exact spec_ApplyPatch.mono _ _ _)
   | (with_reducible exact LeO.refl _)
   | (with_reducible exact LeO.none _)
   | (with_reducible refine LeO.ite ?_ ?_)
   | (with_reducible refine LeO.bind ?_ (fun _ => ?_))
   | exact ih0 _ _ _ _ _ _ _ _ _
   | exact ih1 _ _ _ _ _ _
   | exact ih2 _ _ _
   | exact impl_ApplyPatch.mono _ _ _
   | exact laws_eqByteS.mono _ _ _
   | exact laws_eqChunkS.mono _ _ _
   | exact laws_heldByteS.mono _ _ _
   | exact laws_markByteS.mono _ _ _
   | exact laws_markChunkS.mono _ _ _
   | exact laws_szChunkS.mono _ _ _
   | exact laws_toByteS.mono _ _
   | exact laws_toChunkS.mono _ _
   | exact spec_ApplyPatch.mono _ _ _
   | exact LeO.none _
   | refine LeO.ite ?_ ?_
   | refine LeO.bind ?_ (fun _ => ?_)
  ·intro y0 y1 y2 y3 y4 y5
   unfold laws_FnExactApplyPatch.j1
   repeat' first
   | (with_reducible exact ih0 _ _ _ _ _ _ _ _ _)
   | (with_reducible exact ih1 _ _ _ _ _ _)
   | (with_reducible exact ih2 _ _ _)
   | (with_reducible exact impl_ApplyPatch.mono _ _ _)
   | (with_reducible exact laws_eqByteS.mono _ _ _)
   | (with_reducible exact laws_eqChunkS.mono _ _ _)
   | (with_reducible exact laws_heldByteS.mono _ _ _)
   | (with_reducible exact laws_markByteS.mono _ _ _)
   | (with_reducible exact laws_markChunkS.mono _ _ _)
   | (with_reducible exact laws_szChunkS.mono _ _ _)
   | (with_reducible exact laws_toByteS.mono _ _)
   | (with_reducible exact laws_toChunkS.mono _ _)
   | (with_reducible exact spec_ApplyPatch.mono _ _ _)
   | (with_reducible exact LeO.refl _)
   | (with_reducible exact LeO.none _)
   | (with_reducible refine LeO.ite ?_ ?_)
   | (with_reducible refine LeO.bind ?_ (fun _ => ?_))
   | exact ih0 _ _ _ _ _ _ _ _ _
   | exact ih1 _ _ _ _ _ _
   | exact ih2 _ _ _
   | exact impl_ApplyPatch.mono _ _ _
   | exact laws_eqByteS.mono _ _ _
   | exact laws_eqChunkS.mono _ _ _
   | exact laws_heldByteS.mono _ _ _
   | exact laws_markByteS.mono _ _ _
   | exact laws_markChunkS.mono _ _ _
   | exact laws_szChunkS.mono _ _ _
   | exact laws_toByteS.mono _ _
   | exact laws_toChunkS.mono _ _
   | exact spec_ApplyPatch.mono _ _ _
   | exact LeO.none _
   | refine LeO.ite ?_ ?_
   | refine LeO.bind ?_ (fun _ => ?_)
  ·intro y0 y1 y2
   unfold laws_FnExactApplyPatch.j2
   repeat' first
   | (with_reducible exact ih0 _ _ _ _ _ _ _ _ _)
   | (with_reducible exact ih1 _ _ _ _ _ _)
   | (with_reducible exact ih2 _ _ _)
   | (with_reducible exact impl_ApplyPatch.mono _ _ _)
   | (with_reducible exact laws_eqByteS.mono _ _ _)
   | (with_reducible exact laws_eqChunkS.mono _ _ _)
   | (with_reducible exact laws_heldByteS.mono _ _ _)
   | (with_reducible exact laws_markByteS.mono _ _ _)
   | (with_reducible exact laws_markChunkS.mono _ _ _)
   | (with_reducible exact laws_szChunkS.mono _ _ _)
   | (with_reducible exact laws_toByteS.mono _ _)
   | (with_reducible exact laws_toChunkS.mono _ _)
   | (with_reducible exact spec_ApplyPatch.mono _ _ _)
   | (with_reducible exact LeO.refl _)
   | (with_reducible exact LeO.none _)
   | (with_reducible refine LeO.ite ?_ ?_)
   | (with_reducible refine LeO.bind ?_ (fun _ => ?_))
   | exact ih0 _ _ _ _ _ _ _ _ _
   | exact ih1 _ _ _ _ _ _
   | exact ih2 _ _ _
   | exact impl_ApplyPatch.mono _ _ _
   | exact laws_eqByteS.mono _ _ _
   | exact laws_eqChunkS.mono _ _ _
   | exact laws_heldByteS.mono _ _ _
   | exact laws_markByteS.mono _ _ _
   | exact laws_markChunkS.mono _ _ _
   | exact laws_szChunkS.mono _ _ _
   | exact laws_toByteS.mono _ _
   | exact laws_toChunkS.mono _ _
   | exact spec_ApplyPatch.mono _ _ _
   | exact LeO.none _
   | refine LeO.ite ?_ ?_
   | refine LeO.bind ?_ (fun _ => ?_)
theorem laws_FnExactApplyPatch.mono : ∀ a0 a1 k, LeO (laws_FnExactApplyPatch.f k a0 a1) (laws_FnExactApplyPatch.f (k + 1) a0 a1) := by
 intro a0 a1 k
 obtain ⟨ih0, ih1, ih2⟩ := laws_FnExactApplyPatch.mono_l k
 unfold laws_FnExactApplyPatch.f
 repeat' first
   | (with_reducible exact ih0 _ _ _ _ _ _ _ _ _)
   | (with_reducible exact ih1 _ _ _ _ _ _)
   | (with_reducible exact ih2 _ _ _)
   | (with_reducible exact impl_ApplyPatch.mono _ _ _)
   | (with_reducible exact laws_eqByteS.mono _ _ _)
   | (with_reducible exact laws_eqChunkS.mono _ _ _)
   | (with_reducible exact laws_heldByteS.mono _ _ _)
   | (with_reducible exact laws_markByteS.mono _ _ _)
   | (with_reducible exact laws_markChunkS.mono _ _ _)
   | (with_reducible exact laws_szChunkS.mono _ _ _)
   | (with_reducible exact laws_toByteS.mono _ _)
   | (with_reducible exact laws_toChunkS.mono _ _)
   | (with_reducible exact spec_ApplyPatch.mono _ _ _)
   | (with_reducible exact LeO.refl _)
   | (with_reducible exact LeO.none _)
   | (with_reducible refine LeO.ite ?_ ?_)
   | (with_reducible refine LeO.bind ?_ (fun _ => ?_))
   | exact ih0 _ _ _ _ _ _ _ _ _
   | exact ih1 _ _ _ _ _ _
   | exact ih2 _ _ _
   | exact impl_ApplyPatch.mono _ _ _
   | exact laws_eqByteS.mono _ _ _
   | exact laws_eqChunkS.mono _ _ _
   | exact laws_heldByteS.mono _ _ _
   | exact laws_markByteS.mono _ _ _
   | exact laws_markChunkS.mono _ _ _
   | exact laws_szChunkS.mono _ _ _
   | exact laws_toByteS.mono _ _
   | exact laws_toChunkS.mono _ _
   | exact spec_ApplyPatch.mono _ _ _
   | exact LeO.none _
   | refine LeO.ite ?_ ?_
   | refine LeO.bind ?_ (fun _ => ?_)
set_option maxHeartbeats 8000000 in
set_option maxRecDepth 100000 in
theorem laws_FnExactApplyPatch.calls (k : Nat) (A0 : Option Addr) (c0 : Nat) (l0 : List Int) (A1 : Option Addr) (c1 : Nat) (l1 : List (S68)) (r : Bool) (w : World) (hr0 : Kd.C (Kd.int .u8) w A0 l0.length l0) (hc0 : l0.length ≤ c0) (hr1 : Kd.C k68 w A1 l1.length l1) (hc1 : l1.length ≤ c1) (h : laws_FnExactApplyPatch.f k l0 l1 = some r) :
  Calls Try.prog 4 #[.slice A0 l0.length c0, .slice A1 l1.length c1] w fun e w' => e = .returned (.bool r) ∧ Below w.heap.size w w' := by
 have HR0 := Aside0.mk hr0
 have HC0 := Aside0.mk hc0
 clear hr0 hc0
 have HR1 := Aside0.mk hr1
 have HC1 := Aside0.mk hc1
 clear hr1 hc1
 have HB := Aside0.mk (Below.refl w.heap.size w)
 have H : (if (l0.length : Int) > 1048576 then (some true) else ((laws_szChunkS.f k l1 1048576).bind fun t168 => (if t168 < 0 then (some true) else ((laws_toByteS.f k l0).bind fun t169 => ((laws_toChunkS.f k l1).bind fun t172 => ((spec_ApplyPatch.f k t169 t172).bind fun bt175 => ((laws_toByteS.f k l0).bind fun t179 => ((laws_toChunkS.f k l1).bind fun t182 => ((impl_ApplyPatch.f k t179 t182).bind fun bt185 => ((laws_eqByteS.f k bt185.1 bt175.1).bind fun t189 => (if t189 = true then (laws_FnExactApplyPatch.j0 k l0 l1 bt175.1 bt175.2 t179 t182 bt185.1 bt185.2 (bt185.2 != bt175.2)) else (laws_FnExactApplyPatch.j0 k l0 l1 bt175.1 bt175.2 t179 t182 bt185.1 bt185.2 true)))))))))))) = some r := h
 clear h
 by_cases c3 : (l0.length : Int) > 1048576
 ·rw [if_pos c3] at H
  have c3b0 : decide (1048576 < (l0.length : Int)) = true := decide_eq_true c3
  have c3b1 : decide (1048576 < l0.length) = true := decide_eq_true (by omega)
  clear c3
  obtain rfl := Option.some.inj H
  go_enter Try.func4, Try.ntmps4
  go_wp2
  go_ret
  exact ⟨eE, lU⟩
 ·rw [if_neg c3] at H
  have c3b0 : decide (1048576 < (l0.length : Int)) = false := decide_eq_false c3
  have c3b1 : decide (1048576 < l0.length) = false := decide_eq_false (by omega)
  clear c3
  replace H := Option.bind_eq_some_iff.mp H
  obtain ⟨t168, A40, H⟩ := H
  replace H : (if t168 < 0 then (some true) else ((laws_toByteS.f k l0).bind fun t169 => ((laws_toChunkS.f k l1).bind fun t172 => ((spec_ApplyPatch.f k t169 t172).bind fun bt175 => ((laws_toByteS.f k l0).bind fun t179 => ((laws_toChunkS.f k l1).bind fun t182 => ((impl_ApplyPatch.f k t179 t182).bind fun bt185 => ((laws_eqByteS.f k bt185.1 bt175.1).bind fun t189 => (if t189 = true then (laws_FnExactApplyPatch.j0 k l0 l1 bt175.1 bt175.2 t179 t182 bt185.1 bt185.2 (bt185.2 != bt175.2)) else (laws_FnExactApplyPatch.j0 k l0 l1 bt175.1 bt175.2 t179 t182 bt185.1 bt185.2 true)))))))))) = some r := H
  have A4 := Aside0.mk A40
  clear A40
  by_cases c5 : t168 < 0
  ·rw [if_pos c5] at H
   have c5b0 : decide (t168 < 0) = true := decide_eq_true c5
   clear c5
   obtain rfl := Option.some.inj H
   go_enter Try.func4, Try.ntmps4
   go_wp2_with (first | ((with_reducible refine gate_callee (f := 14) rfl ?_); refine goesL_ (some 22) rfl rfl Try.func14 (by kernel_rfl) rfl #[.slice A1 l1.length c1, .int .i64 1048576] rfl aE ?_; (with_reducible refine (laws_szChunkS.calls k _ _ l1 1048576 t168 _ ?side1 ?side2 A4.out).mono ?_); (case side1 => repeat (first | exact HR1.out | (with_reducible refine Kd.C_alloc ?_ _) | (with_reducible refine Kd.C_drewN ?_ _) | (with_reducible refine Kd.C_drew ?_))); (case side2 => exact HC1.out); rintro e w6 ⟨rfl, hb⟩; refine ⟨_, rfl, ?_⟩; replace HB := bH (lU) hb; (try clear hb)))
   go_ret
   exact ⟨eE, lU⟩
  ·rw [if_neg c5] at H
   have c5b0 : decide (t168 < 0) = false := decide_eq_false c5
   clear c5
   replace H := Option.bind_eq_some_iff.mp H
   obtain ⟨t169, A70, H⟩ := H
   replace H : ((laws_toChunkS.f k l1).bind fun t172 => ((spec_ApplyPatch.f k t169 t172).bind fun bt175 => ((laws_toByteS.f k l0).bind fun t179 => ((laws_toChunkS.f k l1).bind fun t182 => ((impl_ApplyPatch.f k t179 t182).bind fun bt185 => ((laws_eqByteS.f k bt185.1 bt175.1).bind fun t189 => (if t189 = true then (laws_FnExactApplyPatch.j0 k l0 l1 bt175.1 bt175.2 t179 t182 bt185.1 bt185.2 (bt185.2 != bt175.2)) else (laws_FnExactApplyPatch.j0 k l0 l1 bt175.1 bt175.2 t179 t182 bt185.1 bt185.2 true)))))))) = some r := H
   have A7 := Aside0.mk A70
   clear A70
   replace H := Option.bind_eq_some_iff.mp H
   obtain ⟨t172, A80, H⟩ := H
   replace H : ((spec_ApplyPatch.f k t169 t172).bind fun bt175 => ((laws_toByteS.f k l0).bind fun t179 => ((laws_toChunkS.f k l1).bind fun t182 => ((impl_ApplyPatch.f k t179 t182).bind fun bt185 => ((laws_eqByteS.f k bt185.1 bt175.1).bind fun t189 => (if t189 = true then (laws_FnExactApplyPatch.j0 k l0 l1 bt175.1 bt175.2 t179 t182 bt185.1 bt185.2 (bt185.2 != bt175.2)) else (laws_FnExactApplyPatch.j0 k l0 l1 bt175.1 bt175.2 t179 t182 bt185.1 bt185.2 true))))))) = some r := H
   have A8 := Aside0.mk A80
   clear A80
   replace H := Option.bind_eq_some_iff.mp H
   obtain ⟨⟨t175, t176⟩, A90, H⟩ := H
   replace H : ((laws_toByteS.f k l0).bind fun t179 => ((laws_toChunkS.f k l1).bind fun t182 => ((impl_ApplyPatch.f k t179 t182).bind fun bt185 => ((laws_eqByteS.f k bt185.1 t175).bind fun t189 => (if t189 = true then (laws_FnExactApplyPatch.j0 k l0 l1 t175 t176 t179 t182 bt185.1 bt185.2 (bt185.2 != t176)) else (laws_FnExactApplyPatch.j0 k l0 l1 t175 t176 t179 t182 bt185.1 bt185.2 true)))))) = some r := H
   have A9 := Aside0.mk A90
   clear A90
   replace H := Option.bind_eq_some_iff.mp H
   obtain ⟨t179, A100, H⟩ := H
   replace H : ((laws_toChunkS.f k l1).bind fun t182 => ((impl_ApplyPatch.f k t179 t182).bind fun bt185 => ((laws_eqByteS.f k bt185.1 t175).bind fun t189 => (if t189 = true then (laws_FnExactApplyPatch.j0 k l0 l1 t175 t176 t179 t182 bt185.1 bt185.2 (bt185.2 != t176)) else (laws_FnExactApplyPatch.j0 k l0 l1 t175 t176 t179 t182 bt185.1 bt185.2 true))))) = some r := H
   have A10 := Aside0.mk A100
   clear A100
   replace H := Option.bind_eq_some_iff.mp H
   obtain ⟨t182, A110, H⟩ := H
   replace H : ((impl_ApplyPatch.f k t179 t182).bind fun bt185 => ((laws_eqByteS.f k bt185.1 t175).bind fun t189 => (if t189 = true then (laws_FnExactApplyPatch.j0 k l0 l1 t175 t176 t179 t182 bt185.1 bt185.2 (bt185.2 != t176)) else (laws_FnExactApplyPatch.j0 k l0 l1 t175 t176 t179 t182 bt185.1 bt185.2 true)))) = some r := H
   have A11 := Aside0.mk A110
   clear A110
   replace H := Option.bind_eq_some_iff.mp H
   obtain ⟨⟨t185, t186⟩, A120, H⟩ := H
   replace H : ((laws_eqByteS.f k t185 t175).bind fun t189 => (if t189 = true then (laws_FnExactApplyPatch.j0 k l0 l1 t175 t176 t179 t182 t185 t186 (t186 != t176)) else (laws_FnExactApplyPatch.j0 k l0 l1 t175 t176 t179 t182 t185 t186 true))) = some r := H
   have A12 := Aside0.mk A120
   clear A120
   have HC13 := Aside0.mk H
   clear H
   go_enter Try.func4, Try.ntmps4
   go_upto_region 11 with (first | ((with_reducible refine gate_callee (f := 14) rfl ?_); refine goesL_ (some 22) rfl rfl Try.func14 (by kernel_rfl) rfl #[.slice A1 l1.length c1, .int .i64 1048576] rfl aE ?_; (with_reducible refine (laws_szChunkS.calls k _ _ l1 1048576 t168 _ ?side1 ?side2 A4.out).mono ?_); (case side1 => repeat (first | exact HR1.out | (with_reducible refine Kd.C_alloc ?_ _) | (with_reducible refine Kd.C_drewN ?_ _) | (with_reducible refine Kd.C_drew ?_))); (case side2 => exact HC1.out); rintro e w14 ⟨rfl, hb⟩; refine ⟨_, rfl, ?_⟩; replace HB := bH (lU) hb; (try clear hb)) | ((with_reducible refine gate_callee (f := 7) rfl ?_); refine goesL_ (some 27) rfl rfl Try.func7 (by kernel_rfl) rfl #[.slice A0 l0.length c0] rfl aE ?_; (with_reducible refine (laws_toByteS.calls k _ _ l0 t169 _ ?side1 ?side2 A7.out).mono ?_); (case side1 => exact cU (Kd.C_below HR0.out HB.out)); (case side2 => exact HC0.out); rintro e w15 ⟨v170, rfl, ho0, hb⟩; refine ⟨_, rfl, ?_⟩; have HO171 := Aside0.mk (Kd.R_lower ho0 (below_size (lU))); replace HB := bH (lU) hb; (try clear hb); (try clear ho0)) | ((with_reducible refine gate_callee (f := 16) rfl ?_); refine goesL_ (some 29) rfl rfl Try.func16 (by kernel_rfl) rfl #[.slice A1 l1.length c1] rfl aE ?_; (with_reducible refine (laws_toChunkS.calls k _ _ l1 t172 _ ?side1 ?side2 A8.out).mono ?_); (case side1 => exact cU (Kd.C_below HR1.out HB.out)); (case side2 => exact HC1.out); rintro e w16 ⟨v173, rfl, ho0, hb⟩; refine ⟨_, rfl, ?_⟩; have HO174 := Aside0.mk (Kd.S_lower (Kd.S_new' ho0 (Kd.R_lt (rU HO171.out))) (below_size (lU))); replace HO171 := Aside0.mk (Kd.R_below (rU HO171.out) hb); replace HB := bH (lU) hb; (try clear hb); (try clear ho0); obtain ⟨Ao17, co17, eo17⟩ := Kd.R_slice HO171.out; subst eo17; obtain ⟨Ao18, co18, eo18⟩ := Kd.S_slice HO174.out; subst eo18) | ((with_reducible refine gate_callee (f := 15) rfl ?_); refine goesL_ (some 30) rfl rfl Try.func15 (by kernel_rfl) rfl #[.slice Ao17 t169.length co17, .slice Ao18 t172.length co18] rfl aE ?_; (with_reducible refine (spec_ApplyPatch.calls k _ _ t169 _ _ t172 t175 t176 _ ?side1 ?side2 ?side3 ?side4 A9.out).mono ?_); (case side1 => exact cU (Kd.R_reads' HO171.out).2.2); (case side2 => exact (Kd.R_reads' HO171.out).2.1); (case side3 => exact cU (Kd.S_reads' HO174.out).2.2); (case side4 => exact (Kd.S_reads' HO174.out).2.1); rintro e w19 ⟨v177, rfl, ho0, hb⟩; refine ⟨_, rfl, ?_⟩; replace HO174 := Aside0.mk (Kd.S_elder' (by (with_reducible repeat (first | apply Kd.S_alloc | apply Kd.S_drewN | apply Kd.S_drew)); exact HO174.out) (Kd.R_base ho0) hb); have HO178 := Aside0.mk (Kd.R_lower (Kd.R_new' ho0 (Kd.R_lt (rU HO171.out))) (below_size (lU))); replace HO171 := Aside0.mk (Kd.R_elder' (rU HO171.out) (Kd.R_base ho0) hb); replace HB := bH (lU) hb; (try clear hb); (try clear ho0)) | ((with_reducible refine gate_callee (f := 7) rfl ?_); refine goesL_ (some 34) rfl rfl Try.func7 (by kernel_rfl) rfl #[.slice A0 l0.length c0] rfl aE ?_; (with_reducible refine (laws_toByteS.calls k _ _ l0 t179 _ ?side1 ?side2 A10.out).mono ?_); (case side1 => exact cU (Kd.C_below HR0.out HB.out)); (case side2 => exact HC0.out); rintro e w20 ⟨v180, rfl, ho0, hb⟩; refine ⟨_, rfl, ?_⟩; replace HO174 := Aside0.mk (Kd.S_elder' (by (with_reducible repeat (first | apply Kd.S_alloc | apply Kd.S_drewN | apply Kd.S_drew)); exact HO174.out) (Kd.R_base ho0) hb); have HO181 := Aside0.mk (Kd.R_lower (Kd.R_new' (Kd.R_new' ho0 (Kd.R_lt (rU HO171.out))) (Kd.R_lt (rU HO178.out))) (below_size (lU))); replace HO171 := Aside0.mk (Kd.R_elder' (rU HO171.out) (Kd.R_base ho0) hb); replace HO178 := Aside0.mk (Kd.R_elder' (rU HO178.out) (Kd.R_base ho0) hb); replace HB := bH (lU) hb; (try clear hb); (try clear ho0)) | ((with_reducible refine gate_callee (f := 16) rfl ?_); refine goesL_ (some 36) rfl rfl Try.func16 (by kernel_rfl) rfl #[.slice A1 l1.length c1] rfl aE ?_; (with_reducible refine (laws_toChunkS.calls k _ _ l1 t182 _ ?side1 ?side2 A11.out).mono ?_); (case side1 => exact cU (Kd.C_below HR1.out HB.out)); (case side2 => exact HC1.out); rintro e w21 ⟨v183, rfl, ho0, hb⟩; refine ⟨_, rfl, ?_⟩; have HO184 := Aside0.mk (Kd.S_lower (Kd.S_new' (Kd.S_new' (Kd.S_new' (Kd.S_new' ho0 (Kd.R_lt (rU HO171.out))) (Kd.S_lt (by (with_reducible repeat (first | apply Kd.S_alloc | apply Kd.S_drewN | apply Kd.S_drew)); exact HO174.out))) (Kd.R_lt (rU HO178.out))) (Kd.R_lt (rU HO181.out))) (below_size (lU))); replace HO171 := Aside0.mk (Kd.R_below (rU HO171.out) hb); replace HO174 := Aside0.mk (Kd.S_elder' (by (with_reducible repeat (first | apply Kd.S_alloc | apply Kd.S_drewN | apply Kd.S_drew)); exact HO174.out) (Kd.S_base ho0) hb); replace HO178 := Aside0.mk (Kd.R_below (rU HO178.out) hb); replace HO181 := Aside0.mk (Kd.R_below (rU HO181.out) hb); replace HB := bH (lU) hb; (try clear hb); (try clear ho0); obtain ⟨Ao22, co22, eo22⟩ := Kd.R_slice HO181.out; subst eo22; obtain ⟨Ao23, co23, eo23⟩ := Kd.S_slice HO184.out; subst eo23) | ((with_reducible refine gate_callee (f := 17) rfl ?_); refine goesL_ (some 40) rfl rfl Try.func17 (by kernel_rfl) rfl #[.slice Ao22 t179.length co22, .slice Ao23 t182.length co23] rfl aE ?_; (with_reducible refine (impl_ApplyPatch.calls k _ _ t179 _ _ t182 t185 t186 _ ?side1 ?side2 ?side3 ?side4 A12.out).mono ?_); (case side1 => exact cU (Kd.R_reads' HO181.out).2.2); (case side2 => exact (Kd.R_reads' HO181.out).2.1); (case side3 => exact cU (Kd.S_reads' HO184.out).2.2); (case side4 => exact (Kd.S_reads' HO184.out).2.1); rintro e w24 ⟨v187, rfl, ho0, hb⟩; refine ⟨_, rfl, ?_⟩; replace HO174 := Aside0.mk (Kd.S_elder' (by (with_reducible repeat (first | apply Kd.S_alloc | apply Kd.S_drewN | apply Kd.S_drew)); exact HO174.out) (Kd.R_base ho0) hb); replace HO184 := Aside0.mk (Kd.S_elder' (by (with_reducible repeat (first | apply Kd.S_alloc | apply Kd.S_drewN | apply Kd.S_drew)); exact HO184.out) (Kd.R_base ho0) hb); have HO188 := Aside0.mk (Kd.R_lower (Kd.R_new' (Kd.R_new' (Kd.R_new' ho0 (Kd.R_lt (rU HO171.out))) (Kd.R_lt (rU HO178.out))) (Kd.R_lt (rU HO181.out))) (below_size (lU))); replace HO171 := Aside0.mk (Kd.R_elder' (rU HO171.out) (Kd.R_base ho0) hb); replace HO178 := Aside0.mk (Kd.R_elder' (rU HO178.out) (Kd.R_base ho0) hb); replace HO181 := Aside0.mk (Kd.R_elder' (rU HO181.out) (Kd.R_base ho0) hb); replace HB := bH (lU) hb; (try clear hb); (try clear ho0)))
   (try simp only [Act.put, List.setIfInBounds_toArray, List.set_cons_zero, List.set_cons_succ])
   go_cut [51] (fun v51 wc => ∃ (kq : Nat) (x51_12 : Bool), v51 = .bool x51_12 ∧ Aside0 (laws_FnExactApplyPatch.j0 kq l0 l1 t175 t176 t179 t182 t185 t186 x51_12 = some r) ∧ Aside0 (kq ≤ k) ∧ Aside0 (Kd.R (Kd.int .u8) 5 wc w.heap.size (fun k_ => some k_ ≠ ((.slice Ao22 t179.length co22) : Value).ownBlock ∧ some k_ ≠ (v187 : Value).ownBlock) v177 t175) ∧ Aside0 (Kd.R (Kd.int .u8) 5 wc w.heap.size (fun k_ => some k_ ≠ (v177 : Value).ownBlock ∧ some k_ ≠ (v187 : Value).ownBlock) (.slice Ao22 t179.length co22) t179) ∧ Aside0 (Kd.S k62 62 wc w.heap.size (fun k_ => some k_ ≠ (v177 : Value).ownBlock ∧ some k_ ≠ ((.slice Ao22 t179.length co22) : Value).ownBlock ∧ some k_ ≠ (v187 : Value).ownBlock) (.slice Ao23 t182.length co23) t182) ∧ Aside0 (Kd.R (Kd.int .u8) 5 wc w.heap.size (fun k_ => some k_ ≠ (v177 : Value).ownBlock ∧ some k_ ≠ ((.slice Ao22 t179.length co22) : Value).ownBlock) v187 t185) ∧ Aside0 (Below w.heap.size w wc))
   case first =>
    have H := HC13.out
    clear HC13
    replace H := Option.bind_eq_some_iff.mp H
    obtain ⟨t189, A250, H⟩ := H
    replace H : (if t189 = true then (laws_FnExactApplyPatch.j0 k l0 l1 t175 t176 t179 t182 t185 t186 (t186 != t176)) else (laws_FnExactApplyPatch.j0 k l0 l1 t175 t176 t179 t182 t185 t186 true)) = some r := H
    have A25 := Aside0.mk A250
    clear A250
    by_cases c26 : t189 = true
    ·subst c26
     have H1 : (laws_FnExactApplyPatch.j0 k l0 l1 t175 t176 t179 t182 t185 t186 (t186 != t176)) = some r := by rw [if_pos rfl] at H; exact H
     clear H
     have H := H1
     clear H1
     have H' := Aside0.mk H
     clear H
     obtain ⟨Ao27, co27, eo27⟩ := Kd.R_slice HO188.out
     subst eo27
     obtain ⟨Ao28, co28, eo28⟩ := Kd.R_slice HO178.out
     subst eo28
     go_wp2_with (first | ((with_reducible refine gate_callee (f := 10) rfl ?_); refine goesL_ (some 45) rfl rfl Try.func10 (by kernel_rfl) rfl #[.slice Ao27 t185.length co27, .slice Ao28 t175.length co28] rfl aE ?_; (with_reducible refine (laws_eqByteS.calls k _ _ t185 _ _ t175 true _ ?side1 ?side2 ?side3 ?side4 A25.out).mono ?_); (case side1 => exact cU (Kd.R_reads' HO188.out).2.2); (case side2 => exact (Kd.R_reads' HO188.out).2.1); (case side3 => exact cU (Kd.R_reads' HO178.out).2.2); (case side4 => exact (Kd.R_reads' HO178.out).2.1); rintro e w' ⟨rfl, ⟨nd, rfl⟩⟩; refine ⟨_, rfl, ?_⟩))
     go_meet
     case rel => exact ⟨_, ((t186 != t176)), tE, H', ⟨by first | omega | exact Nat.le_refl _⟩, ⟨by (with_reducible repeat (first | apply Kd.R_alloc | apply Kd.R_drewN | apply Kd.R_drew)); exact Kd.R_mono HO178.out (fun _ hk => ⟨hk.1.2, hk.2⟩)⟩, ⟨by (with_reducible repeat (first | apply Kd.R_alloc | apply Kd.R_drewN | apply Kd.R_drew)); exact Kd.R_mono HO181.out (fun _ hk => ⟨hk.1.2, hk.2⟩)⟩, ⟨by (with_reducible repeat (first | apply Kd.S_alloc | apply Kd.S_drewN | apply Kd.S_drew)); exact Kd.S_mono HO184.out (fun _ hk => ⟨hk.1.1.2, ⟨hk.1.2, hk.2⟩⟩)⟩, ⟨by (with_reducible repeat (first | apply Kd.R_alloc | apply Kd.R_drewN | apply Kd.R_drew)); exact Kd.R_mono HO188.out (fun _ hk => ⟨hk.1.2, hk.2⟩)⟩, ⟨by repeat (first | (with_reducible first | exact HB.out | apply below_alloc | apply pw_below_drewN | apply below_drew1) | exact HB.out)⟩⟩
    ·replace c26 := Bool.eq_false_iff.mpr c26
     subst c26
     have H1 : (laws_FnExactApplyPatch.j0 k l0 l1 t175 t176 t179 t182 t185 t186 true) = some r := by rw [if_neg (show ¬ (false = true) by decide)] at H; exact H
     clear H
     have H := H1
     clear H1
     have H' := Aside0.mk H
     clear H
     obtain ⟨Ao29, co29, eo29⟩ := Kd.R_slice HO188.out
     subst eo29
     obtain ⟨Ao30, co30, eo30⟩ := Kd.R_slice HO178.out
     subst eo30
     go_wp2_with (first | ((with_reducible refine gate_callee (f := 10) rfl ?_); refine goesL_ (some 45) rfl rfl Try.func10 (by kernel_rfl) rfl #[.slice Ao29 t185.length co29, .slice Ao30 t175.length co30] rfl aE ?_; (with_reducible refine (laws_eqByteS.calls k _ _ t185 _ _ t175 false _ ?side1 ?side2 ?side3 ?side4 A25.out).mono ?_); (case side1 => exact cU (Kd.R_reads' HO188.out).2.2); (case side2 => exact (Kd.R_reads' HO188.out).2.1); (case side3 => exact cU (Kd.R_reads' HO178.out).2.2); (case side4 => exact (Kd.R_reads' HO178.out).2.1); rintro e w' ⟨rfl, ⟨nd, rfl⟩⟩; refine ⟨_, rfl, ?_⟩))
     go_meet
     case rel => exact ⟨_, (true), tE, H', ⟨by first | omega | exact Nat.le_refl _⟩, ⟨by (with_reducible repeat (first | apply Kd.R_alloc | apply Kd.R_drewN | apply Kd.R_drew)); exact Kd.R_mono HO178.out (fun _ hk => ⟨hk.1.2, hk.2⟩)⟩, ⟨by (with_reducible repeat (first | apply Kd.R_alloc | apply Kd.R_drewN | apply Kd.R_drew)); exact Kd.R_mono HO181.out (fun _ hk => ⟨hk.1.2, hk.2⟩)⟩, ⟨by (with_reducible repeat (first | apply Kd.S_alloc | apply Kd.S_drewN | apply Kd.S_drew)); exact Kd.S_mono HO184.out (fun _ hk => ⟨hk.1.1.2, ⟨hk.1.2, hk.2⟩⟩)⟩, ⟨by (with_reducible repeat (first | apply Kd.R_alloc | apply Kd.R_drewN | apply Kd.R_drew)); exact Kd.R_mono HO188.out (fun _ hk => ⟨hk.1.2, hk.2⟩)⟩, ⟨by repeat (first | (with_reducible first | exact HB.out | apply below_alloc | apply pw_below_drewN | apply below_drew1) | exact HB.out)⟩⟩
   case rest =>
    clear HC13
    try clear c1
    try clear c2
    try clear p2
    try clear c3
    try clear c3b0
    try clear c3b1
    try clear c4
    try clear c5
    try clear c5b0
    try clear c7
    try clear c10
    try clear c14
    try clear c15
    try clear c16
    try clear c17
    try clear c26
    obtain ⟨kq, x51_12, rfl, HA, HJ12, HO_6, HO_8, HO_9, HO_10, HB⟩ := hcut
    cases kq with
    | zero => exact absurd HA.out (by simp [laws_FnExactApplyPatch.j0])
    | succ kj12 =>
     have H := HA.out
     clear HA
     simp only [laws_FnExactApplyPatch.j0] at H
     by_cases c31 : x51_12 = true
     ·subst c31
      have H1 : (some false) = some r := by rw [if_pos rfl] at H; exact H
      clear H
      have H := H1
      clear H1
      obtain rfl := Option.some.inj H
      go_wp2
      go_ret
      exact ⟨eE, lU⟩
     ·replace c31 := Bool.eq_false_iff.mpr c31
      subst c31
      have H1 : ((laws_toByteS.f kj12 l0).bind fun t190 => ((laws_eqByteS.f kj12 t179 t190).bind fun t193 => (if t193 = true then ((laws_toChunkS.f kj12 l1).bind fun t194 => ((laws_eqChunkS.f kj12 t182 t194).bind fun t197 => (if t197 = true then ((laws_markByteS.f kj12 t179 1).bind fun bt198 => ((laws_markChunkS.f kj12 t182 bt198.1).bind fun bt200 => (if bt200.1 < 0 then (laws_FnExactApplyPatch.j1 kj12 l0 l1 t175 t176 t185 true) else ((laws_eqByteS.f kj12 t185 t175).bind fun t202 => (if t202 = true then (laws_FnExactApplyPatch.j1 kj12 l0 l1 t175 t176 t185 (t186 != t176)) else (laws_FnExactApplyPatch.j1 kj12 l0 l1 t175 t176 t185 true)))))) else (some false)))) else (some false)))) = some r := by rw [if_neg (show ¬ (false = true) by decide)] at H; exact H
      clear H
      have H := H1
      clear H1
      replace H := Option.bind_eq_some_iff.mp H
      obtain ⟨t190, A320, H⟩ := H
      replace H : ((laws_eqByteS.f kj12 t179 t190).bind fun t193 => (if t193 = true then ((laws_toChunkS.f kj12 l1).bind fun t194 => ((laws_eqChunkS.f kj12 t182 t194).bind fun t197 => (if t197 = true then ((laws_markByteS.f kj12 t179 1).bind fun bt198 => ((laws_markChunkS.f kj12 t182 bt198.1).bind fun bt200 => (if bt200.1 < 0 then (laws_FnExactApplyPatch.j1 kj12 l0 l1 t175 t176 t185 true) else ((laws_eqByteS.f kj12 t185 t175).bind fun t202 => (if t202 = true then (laws_FnExactApplyPatch.j1 kj12 l0 l1 t175 t176 t185 (t186 != t176)) else (laws_FnExactApplyPatch.j1 kj12 l0 l1 t175 t176 t185 true)))))) else (some false)))) else (some false))) = some r := H
      have A32 := Aside0.mk A320
      clear A320
      replace H := Option.bind_eq_some_iff.mp H
      obtain ⟨t193, A330, H⟩ := H
      replace H : (if t193 = true then ((laws_toChunkS.f kj12 l1).bind fun t194 => ((laws_eqChunkS.f kj12 t182 t194).bind fun t197 => (if t197 = true then ((laws_markByteS.f kj12 t179 1).bind fun bt198 => ((laws_markChunkS.f kj12 t182 bt198.1).bind fun bt200 => (if bt200.1 < 0 then (laws_FnExactApplyPatch.j1 kj12 l0 l1 t175 t176 t185 true) else ((laws_eqByteS.f kj12 t185 t175).bind fun t202 => (if t202 = true then (laws_FnExactApplyPatch.j1 kj12 l0 l1 t175 t176 t185 (t186 != t176)) else (laws_FnExactApplyPatch.j1 kj12 l0 l1 t175 t176 t185 true)))))) else (some false)))) else (some false)) = some r := H
      have A33 := Aside0.mk A330
      clear A330
      by_cases c34 : t193 = true
      ·subst c34
       have H1 : ((laws_toChunkS.f kj12 l1).bind fun t194 => ((laws_eqChunkS.f kj12 t182 t194).bind fun t197 => (if t197 = true then ((laws_markByteS.f kj12 t179 1).bind fun bt198 => ((laws_markChunkS.f kj12 t182 bt198.1).bind fun bt200 => (if bt200.1 < 0 then (laws_FnExactApplyPatch.j1 kj12 l0 l1 t175 t176 t185 true) else ((laws_eqByteS.f kj12 t185 t175).bind fun t202 => (if t202 = true then (laws_FnExactApplyPatch.j1 kj12 l0 l1 t175 t176 t185 (t186 != t176)) else (laws_FnExactApplyPatch.j1 kj12 l0 l1 t175 t176 t185 true)))))) else (some false)))) = some r := by rw [if_pos rfl] at H; exact H
       clear H
       have H := H1
       clear H1
       replace H := Option.bind_eq_some_iff.mp H
       obtain ⟨t194, A350, H⟩ := H
       replace H : ((laws_eqChunkS.f kj12 t182 t194).bind fun t197 => (if t197 = true then ((laws_markByteS.f kj12 t179 1).bind fun bt198 => ((laws_markChunkS.f kj12 t182 bt198.1).bind fun bt200 => (if bt200.1 < 0 then (laws_FnExactApplyPatch.j1 kj12 l0 l1 t175 t176 t185 true) else ((laws_eqByteS.f kj12 t185 t175).bind fun t202 => (if t202 = true then (laws_FnExactApplyPatch.j1 kj12 l0 l1 t175 t176 t185 (t186 != t176)) else (laws_FnExactApplyPatch.j1 kj12 l0 l1 t175 t176 t185 true)))))) else (some false))) = some r := H
       have A35 := Aside0.mk A350
       clear A350
       replace H := Option.bind_eq_some_iff.mp H
       obtain ⟨t197, A360, H⟩ := H
       replace H : (if t197 = true then ((laws_markByteS.f kj12 t179 1).bind fun bt198 => ((laws_markChunkS.f kj12 t182 bt198.1).bind fun bt200 => (if bt200.1 < 0 then (laws_FnExactApplyPatch.j1 kj12 l0 l1 t175 t176 t185 true) else ((laws_eqByteS.f kj12 t185 t175).bind fun t202 => (if t202 = true then (laws_FnExactApplyPatch.j1 kj12 l0 l1 t175 t176 t185 (t186 != t176)) else (laws_FnExactApplyPatch.j1 kj12 l0 l1 t175 t176 t185 true)))))) else (some false)) = some r := H
       have A36 := Aside0.mk A360
       clear A360
       by_cases c37 : t197 = true
       ·subst c37
        have H1 : ((laws_markByteS.f kj12 t179 1).bind fun bt198 => ((laws_markChunkS.f kj12 t182 bt198.1).bind fun bt200 => (if bt200.1 < 0 then (laws_FnExactApplyPatch.j1 kj12 l0 l1 t175 t176 t185 true) else ((laws_eqByteS.f kj12 t185 t175).bind fun t202 => (if t202 = true then (laws_FnExactApplyPatch.j1 kj12 l0 l1 t175 t176 t185 (t186 != t176)) else (laws_FnExactApplyPatch.j1 kj12 l0 l1 t175 t176 t185 true)))))) = some r := by rw [if_pos rfl] at H; exact H
        clear H
        have H := H1
        clear H1
        replace H := Option.bind_eq_some_iff.mp H
        obtain ⟨⟨t198, t199⟩, A380, H⟩ := H
        replace H : ((laws_markChunkS.f kj12 t182 t198).bind fun bt200 => (if bt200.1 < 0 then (laws_FnExactApplyPatch.j1 kj12 l0 l1 t175 t176 t185 true) else ((laws_eqByteS.f kj12 t185 t175).bind fun t202 => (if t202 = true then (laws_FnExactApplyPatch.j1 kj12 l0 l1 t175 t176 t185 (t186 != t176)) else (laws_FnExactApplyPatch.j1 kj12 l0 l1 t175 t176 t185 true))))) = some r := H
        have A38 := Aside0.mk A380
        clear A380
        replace H := Option.bind_eq_some_iff.mp H
        obtain ⟨⟨t200, t201⟩, A390, H⟩ := H
        replace H : (if t200 < 0 then (laws_FnExactApplyPatch.j1 kj12 l0 l1 t175 t176 t185 true) else ((laws_eqByteS.f kj12 t185 t175).bind fun t202 => (if t202 = true then (laws_FnExactApplyPatch.j1 kj12 l0 l1 t175 t176 t185 (t186 != t176)) else (laws_FnExactApplyPatch.j1 kj12 l0 l1 t175 t176 t185 true)))) = some r := H
        have A39 := Aside0.mk A390
        clear A390
        have HC40 := Aside0.mk H
        clear H
        go_upto_region 20 with (first | ((with_reducible refine gate_callee (f := 7) rfl ?_); refine goesL_ (some 54) rfl rfl Try.func7 (by kernel_rfl) rfl #[.slice A0 l0.length c0] rfl aE ?_; (with_reducible refine (laws_toByteS.calls kj12 _ _ l0 t190 _ ?side1 ?side2 A32.out).mono ?_); (case side1 => exact cU (Kd.C_below HR0.out HB.out)); (case side2 => exact HC0.out); rintro e w41 ⟨v191, rfl, ho0, hb⟩; refine ⟨_, rfl, ?_⟩; replace HO_9 := Aside0.mk (Kd.S_elder' (by (with_reducible repeat (first | apply Kd.S_alloc | apply Kd.S_drewN | apply Kd.S_drew)); exact HO_9.out) (Kd.R_base ho0) hb); have HO192 := Aside0.mk (Kd.R_lower (Kd.R_new' (Kd.R_new' (Kd.R_new' ho0 (Kd.R_lt (rU HO_6.out))) (Kd.R_lt (rU HO_8.out))) (Kd.R_lt (rU HO_10.out))) (below_size (lU))); replace HO_6 := Aside0.mk (Kd.R_elder' (rU HO_6.out) (Kd.R_base ho0) hb); replace HO_8 := Aside0.mk (Kd.R_elder' (rU HO_8.out) (Kd.R_base ho0) hb); replace HO_10 := Aside0.mk (Kd.R_elder' (rU HO_10.out) (Kd.R_base ho0) hb); replace HB := bH (lU) hb; (try clear hb); (try clear ho0); obtain ⟨Ao42, co42, eo42⟩ := Kd.R_slice HO192.out; subst eo42) | ((with_reducible refine gate_callee (f := 10) rfl ?_); refine goesL_ (some 55) rfl rfl Try.func10 (by kernel_rfl) rfl #[.slice Ao22 t179.length co22, .slice Ao42 t190.length co42] rfl aE ?_; (with_reducible refine (laws_eqByteS.calls kj12 _ _ t179 _ _ t190 true _ ?side1 ?side2 ?side3 ?side4 A33.out).mono ?_); (case side1 => exact cU (Kd.R_reads' HO_8.out).2.2); (case side2 => exact (Kd.R_reads' HO_8.out).2.1); (case side3 => exact cU (Kd.R_reads' HO192.out).2.2); (case side4 => exact (Kd.R_reads' HO192.out).2.1); rintro e w' ⟨rfl, ⟨nd, rfl⟩⟩; refine ⟨_, rfl, ?_⟩) | ((with_reducible refine gate_callee (f := 16) rfl ?_); refine goesL_ (some 59) rfl rfl Try.func16 (by kernel_rfl) rfl #[.slice A1 l1.length c1] rfl aE ?_; (with_reducible refine (laws_toChunkS.calls kj12 _ _ l1 t194 _ ?side1 ?side2 A35.out).mono ?_); (case side1 => exact cU (Kd.C_below HR1.out (lU))); (case side2 => exact HC1.out); rintro e w43 ⟨v195, rfl, ho0, hb⟩; refine ⟨_, rfl, ?_⟩; have HO196 := Aside0.mk (Kd.S_lower (Kd.S_new' (Kd.S_new' (Kd.S_new' (Kd.S_new' (Kd.S_new' ho0 (Kd.R_lt (rU HO_6.out))) (Kd.R_lt (rU HO_8.out))) (Kd.S_lt (by (with_reducible repeat (first | apply Kd.S_alloc | apply Kd.S_drewN | apply Kd.S_drew)); exact HO_9.out))) (Kd.R_lt (rU HO_10.out))) (Kd.R_lt (rU HO192.out))) (below_size (lU))); replace HO_6 := Aside0.mk (Kd.R_below (rU HO_6.out) hb); replace HO_8 := Aside0.mk (Kd.R_below (rU HO_8.out) hb); replace HO_9 := Aside0.mk (Kd.S_elder' (by (with_reducible repeat (first | apply Kd.S_alloc | apply Kd.S_drewN | apply Kd.S_drew)); exact HO_9.out) (Kd.S_base ho0) hb); replace HO_10 := Aside0.mk (Kd.R_below (rU HO_10.out) hb); replace HO192 := Aside0.mk (Kd.R_below (rU HO192.out) hb); replace HB := bH (lU) hb; (try clear hb); (try clear ho0); obtain ⟨Ao44, co44, eo44⟩ := Kd.S_slice HO196.out; subst eo44) | ((with_reducible refine gate_callee (f := 9) rfl ?_); refine goesL_ (some 60) rfl rfl Try.func9 (by kernel_rfl) rfl #[.slice Ao23 t182.length co23, .slice Ao44 t194.length co44] rfl aE ?_; (with_reducible refine (laws_eqChunkS.calls kj12 _ _ t182 _ _ t194 true _ ?side1 ?side2 ?side3 ?side4 A36.out).mono ?_); (case side1 => exact cU (Kd.S_reads' HO_9.out).2.2); (case side2 => exact (Kd.S_reads' HO_9.out).2.1); (case side3 => exact cU (Kd.S_reads' HO196.out).2.2); (case side4 => exact (Kd.S_reads' HO196.out).2.1); rintro e w45 ⟨rfl, hb⟩; refine ⟨_, rfl, ?_⟩; replace HO_6 := Aside0.mk (Kd.R_below (rU HO_6.out) hb); replace HO_8 := Aside0.mk (Kd.R_below (rU HO_8.out) hb); replace HO_9 := Aside0.mk (Kd.S_below (by (with_reducible repeat (first | apply Kd.S_alloc | apply Kd.S_drewN | apply Kd.S_drew)); exact HO_9.out) hb); replace HO_10 := Aside0.mk (Kd.R_below (rU HO_10.out) hb); replace HO192 := Aside0.mk (Kd.R_below (rU HO192.out) hb); replace HO196 := Aside0.mk (Kd.S_below (by (with_reducible repeat (first | apply Kd.S_alloc | apply Kd.S_drewN | apply Kd.S_drew)); exact HO196.out) hb); replace HB := bH (lU) hb; (try clear hb)) | ((with_reducible refine gate_callee (f := 11) rfl ?_); refine goesL_ (some 64) rfl rfl Try.func11 (by kernel_rfl) rfl #[.slice Ao22 t179.length co22, .int .i64 1] rfl aE ?_; (with_reducible refine (laws_markByteS.calls kj12 (fun k_ => some k_ = (.slice Ao22 t179.length co22 : Value).ownBlock) (.slice Ao22 t179.length co22) t179 1 t198 t199 w _ ?side1 ?side2 A38.out).mono ?_); (case side1 => repeat (first | (with_reducible first | exact HB.out | apply below_alloc | apply pw_below_drewN | apply below_drew1) | exact HB.out)); (case side2 => exact Kd.R_tight rfl HO_8.out); rintro e w46 ⟨rfl, hy0, hb, hkp⟩; refine ⟨_, rfl, ?_⟩; replace HO_6 := Aside0.mk (Kd.R_mono (ok' := fun k_ => some k_ ≠ (.slice Ao22 t179.length co22 : Value).ownBlock ∧ some k_ ≠ (v187 : Value).ownBlock ∧ some k_ ≠ (.slice Ao42 t190.length co42 : Value).ownBlock) (Kd.R_keptB (HO_6.out) hkp (fun k_ hk_ hs_ => (hk_.1.1) hs_)) (fun k_ hk_ => ⟨hk_.1.1.1, hk_.1.1.2, hk_.1.2⟩)); replace HO_8 := Aside0.mk (Kd.R_reok rfl hy0 (fun k_ e_ => HO_8.out.1 k_ e_)); replace HO_9 := Aside0.mk (Kd.S_mono (ok' := fun k_ => some k_ ≠ (v177 : Value).ownBlock ∧ some k_ ≠ (.slice Ao22 t179.length co22 : Value).ownBlock ∧ some k_ ≠ (v187 : Value).ownBlock ∧ some k_ ≠ (.slice Ao42 t190.length co42 : Value).ownBlock ∧ some k_ ≠ (.slice Ao44 t194.length co44 : Value).ownBlock) (Kd.S_keptB (HO_9.out) hkp (fun k_ hk_ hs_ => (hk_.1.1.2.1) hs_)) (fun k_ hk_ => ⟨hk_.1.1.1.1, hk_.1.1.1.2.1, hk_.1.1.1.2.2, hk_.1.1.2, hk_.1.2⟩)); replace HO_10 := Aside0.mk (Kd.R_mono (ok' := fun k_ => some k_ ≠ (v177 : Value).ownBlock ∧ some k_ ≠ (.slice Ao22 t179.length co22 : Value).ownBlock ∧ some k_ ≠ (.slice Ao42 t190.length co42 : Value).ownBlock) (Kd.R_keptB (HO_10.out) hkp (fun k_ hk_ hs_ => (hk_.1.2) hs_)) (fun k_ hk_ => ⟨hk_.1.1.1, hk_.1.1.2, hk_.1.2⟩)); replace HO192 := Aside0.mk (Kd.R_mono (ok' := fun k_ => some k_ ≠ (v177 : Value).ownBlock ∧ some k_ ≠ (.slice Ao22 t179.length co22 : Value).ownBlock ∧ some k_ ≠ (v187 : Value).ownBlock) (Kd.R_keptB (HO192.out) hkp (fun k_ hk_ hs_ => (hk_.1.2) hs_)) (fun k_ hk_ => ⟨hk_.1.1.1.2, hk_.1.1.2, hk_.1.2⟩)); replace HO196 := Aside0.mk (Kd.S_mono (ok' := fun k_ => some k_ ≠ (v177 : Value).ownBlock ∧ some k_ ≠ (.slice Ao22 t179.length co22 : Value).ownBlock ∧ some k_ ≠ (.slice Ao23 t182.length co23 : Value).ownBlock ∧ some k_ ≠ (v187 : Value).ownBlock ∧ some k_ ≠ (.slice Ao42 t190.length co42 : Value).ownBlock) (Kd.S_keptB (HO196.out) hkp (fun k_ hk_ hs_ => (hk_.1.1.1.2) hs_)) (fun k_ hk_ => ⟨hk_.1.1.1.1.1.2, hk_.1.1.1.1.2, hk_.1.1.1.2, hk_.1.1.2, hk_.1.2⟩)); replace HB := Aside0.mk hb; (try clear hb); (try clear hkp); (try clear hg_); (try clear hp_); (try clear hy0); obtain ⟨PS47, hPS47, HPS47⟩ : ∃ PS_ : Nat → Prop, (∀ k_, PS_ k_ → ((some k_ ≠ (v177 : Value).ownBlock ∧ (some k_ ≠ (.slice Ao22 t179.length co22 : Value).ownBlock ∧ (some k_ ≠ (v187 : Value).ownBlock ∧ (some k_ ≠ (.slice Ao42 t190.length co42 : Value).ownBlock ∧ some k_ ≠ (.slice Ao44 t194.length co44 : Value).ownBlock))))) ∧ w.heap.size ≤ k_ ∧ k_ < w46.heap.size ∧ ∃ q_, q_ ∈ 62 :: (k62).E ∧ ∃ cells_, w46.heap[k_]? = some (.cells cells_ q_ (0, 0))) ∧ Kd.S k62 62 w46 w.heap.size PS_ (.slice Ao23 t182.length co23) t182 := ⟨_, fun _ h_ => h_, Kd.S_bound HO_9.out⟩) | ((with_reducible refine gate_callee (f := 12) rfl ?_); refine goesL_ (some 67) rfl rfl Try.func12 (by kernel_rfl) rfl #[.slice Ao23 t182.length co23, .int .i64 t198] rfl aE ?_; (with_reducible refine (laws_markChunkS.calls kj12 PS47 (.slice Ao23 t182.length co23) t182 t198 t200 t201 w _ ?side1 ?side2 A39.out).mono ?_); (case side1 => repeat (first | (with_reducible first | exact HB.out | apply below_alloc | apply pw_below_drewN | apply below_drew1) | exact HB.out)); (case side2 => exact HPS47); rintro e w48 ⟨rfl, hy0, hb, hkp⟩; refine ⟨_, rfl, ?_⟩; replace HO_9 := Aside0.mk (Kd.S_mono (ok' := fun k_ => (some k_ ≠ (v177 : Value).ownBlock ∧ (some k_ ≠ (.slice Ao22 t179.length co22 : Value).ownBlock ∧ (some k_ ≠ (v187 : Value).ownBlock ∧ some k_ ≠ (.slice Ao42 t190.length co42 : Value).ownBlock)))) hy0 (fun k_ hk_ => Or.elim hk_ (fun hs_ => ⟨(hPS47 k_ hs_).1.1, ⟨(hPS47 k_ hs_).1.2.1, ⟨(hPS47 k_ hs_).1.2.2.1, (hPS47 k_ hs_).1.2.2.2.1⟩⟩⟩) (fun hn_ => ⟨(Kd.fresh' (Kd.R_lt (rU HO_6.out)) k_ hn_), ⟨(Kd.fresh' (Kd.R_lt (rU HO_8.out)) k_ hn_), ⟨(Kd.fresh' (Kd.R_lt (rU HO_10.out)) k_ hn_), (Kd.fresh' (Kd.R_lt (rU HO192.out)) k_ hn_)⟩⟩⟩))); replace HO_6 := Aside0.mk (Kd.R_mono (ok' := fun k_ => some k_ ≠ (.slice Ao22 t179.length co22 : Value).ownBlock ∧ some k_ ≠ (v187 : Value).ownBlock ∧ some k_ ≠ (.slice Ao42 t190.length co42 : Value).ownBlock) (Kd.R_keptB ((Kd.R_mono (Kd.R_tight2 rfl HO_6.out) (fun k_ hk => (⟨hk.2, fun e_ => ((hPS47 k_ e_).1.1) hk.1⟩ : _ ∧ ¬ PS47 k_)))) hkp (fun k_ hk_ hs_ => (hk_.2) hs_)) (fun k_ hk_ => ⟨hk_.1.1.1, hk_.1.1.2.1, hk_.1.1.2.2⟩)); replace HO_8 := Aside0.mk (Kd.R_mono (ok' := fun k_ => some k_ ≠ (v177 : Value).ownBlock ∧ some k_ ≠ (v187 : Value).ownBlock ∧ some k_ ≠ (.slice Ao42 t190.length co42 : Value).ownBlock) (Kd.R_keptB ((Kd.R_mono (Kd.R_tight2 rfl HO_8.out) (fun k_ hk => (⟨hk.2, fun e_ => ((hPS47 k_ e_).1.2.1) hk.1⟩ : _ ∧ ¬ PS47 k_)))) hkp (fun k_ hk_ hs_ => (hk_.2) hs_)) (fun k_ hk_ => ⟨hk_.1.1.1.1, hk_.1.1.1.2, hk_.1.1.2⟩)); replace HO_10 := Aside0.mk (Kd.R_mono (ok' := fun k_ => some k_ ≠ (v177 : Value).ownBlock ∧ some k_ ≠ (.slice Ao22 t179.length co22 : Value).ownBlock ∧ some k_ ≠ (.slice Ao42 t190.length co42 : Value).ownBlock) (Kd.R_keptB ((Kd.R_mono (Kd.R_tight2 rfl HO_10.out) (fun k_ hk => (⟨hk.2, fun e_ => ((hPS47 k_ e_).1.2.2.1) hk.1⟩ : _ ∧ ¬ PS47 k_)))) hkp (fun k_ hk_ hs_ => (hk_.2) hs_)) (fun k_ hk_ => ⟨hk_.1.1.1, hk_.1.1.2.1, hk_.1.1.2.2⟩)); replace HO192 := Aside0.mk (Kd.R_mono (ok' := fun k_ => some k_ ≠ (v177 : Value).ownBlock ∧ some k_ ≠ (.slice Ao22 t179.length co22 : Value).ownBlock ∧ some k_ ≠ (v187 : Value).ownBlock) (Kd.R_keptB ((Kd.R_mono (Kd.R_tight2 rfl HO192.out) (fun k_ hk => (⟨hk.2, fun e_ => ((hPS47 k_ e_).1.2.2.2.1) hk.1⟩ : _ ∧ ¬ PS47 k_)))) hkp (fun k_ hk_ hs_ => (hk_.2) hs_)) (fun k_ hk_ => ⟨hk_.1.1.1, hk_.1.1.2.1, hk_.1.1.2.2⟩)); replace HB := Aside0.mk hb; clear HO196; (try clear hb); (try clear hkp); (try clear hg_); (try clear hp_); (try clear hy0)))
        (try simp only [Act.put, List.setIfInBounds_toArray, List.set_cons_zero, List.set_cons_succ])
        go_cut [80] (fun v80 wc => ∃ (kq : Nat) (x80_39 : Bool), v80 = .bool x80_39 ∧ Aside0 (laws_FnExactApplyPatch.j1 kq l0 l1 t175 t176 t185 x80_39 = some r) ∧ Aside0 (kq ≤ kj12) ∧ Aside0 (Kd.R (Kd.int .u8) 5 wc w.heap.size (fun k_ => some k_ ≠ (v187 : Value).ownBlock) v177 t175) ∧ Aside0 (Kd.R (Kd.int .u8) 5 wc w.heap.size (fun k_ => some k_ ≠ (v177 : Value).ownBlock) v187 t185) ∧ Aside0 (Below w.heap.size w wc))
        case first =>
         have H := HC40.out
         clear HC40
         by_cases c49 : t200 < 0
         ·rw [if_pos c49] at H
          have c49b0 : decide (t200 < 0) = true := decide_eq_true c49
          clear c49
          (first | rw [c49b0] | (simp only [i64_w, i32_w]; rw [c49b0]) | (rw [c49b2]; simp only [Bool.not_false, Bool.not_true]) | skip)
          have H' := Aside0.mk H
          clear H
          go_wp2
          go_meet
          case rel => exact ⟨_, (true), tE, H', ⟨by have := HJ12.out; first | omega | exact Nat.le_refl _⟩, ⟨by (with_reducible repeat (first | apply Kd.R_alloc | apply Kd.R_drewN | apply Kd.R_drew)); exact Kd.R_mono HO_6.out (fun _ hk => hk.2.1)⟩, ⟨by (with_reducible repeat (first | apply Kd.R_alloc | apply Kd.R_drewN | apply Kd.R_drew)); exact Kd.R_mono HO_10.out (fun _ hk => hk.1)⟩, ⟨by repeat (first | (with_reducible first | exact HB.out | apply below_alloc | apply pw_below_drewN | apply below_drew1) | exact HB.out)⟩⟩
         ·rw [if_neg c49] at H
          have c49b0 : decide (t200 < 0) = false := decide_eq_false c49
          clear c49
          (first | rw [c49b0] | (simp only [i64_w, i32_w]; rw [c49b0]) | (rw [c49b2]; simp only [Bool.not_false, Bool.not_true]) | skip)
          replace H := Option.bind_eq_some_iff.mp H
          obtain ⟨t202, A500, H⟩ := H
          replace H : (if t202 = true then (laws_FnExactApplyPatch.j1 kj12 l0 l1 t175 t176 t185 (t186 != t176)) else (laws_FnExactApplyPatch.j1 kj12 l0 l1 t175 t176 t185 true)) = some r := H
          have A50 := Aside0.mk A500
          clear A500
          by_cases c51 : t202 = true
          ·subst c51
           have H1 : (laws_FnExactApplyPatch.j1 kj12 l0 l1 t175 t176 t185 (t186 != t176)) = some r := by rw [if_pos rfl] at H; exact H
           clear H
           have H := H1
           clear H1
           have H' := Aside0.mk H
           clear H
           obtain ⟨Ao52, co52, eo52⟩ := Kd.R_slice HO_10.out
           subst eo52
           obtain ⟨Ao53, co53, eo53⟩ := Kd.R_slice HO_6.out
           subst eo53
           go_wp2_with (first | (go_at_call 10; (with_reducible refine (laws_eqByteS.calls kj12 _ _ t185 _ _ t175 true _ ?side1 ?side2 ?side3 ?side4 A50.out).mono ?_); (case side1 => exact cU (Kd.R_reads' HO_10.out).2.2); (case side2 => exact (Kd.R_reads' HO_10.out).2.1); (case side3 => exact cU (Kd.R_reads' HO_6.out).2.2); (case side4 => exact (Kd.R_reads' HO_6.out).2.1); rintro e w' ⟨rfl, ⟨nd, rfl⟩⟩))
           go_meet
           case rel => exact ⟨_, ((t186 != t176)), tE, H', ⟨by have := HJ12.out; first | omega | exact Nat.le_refl _⟩, ⟨by (with_reducible repeat (first | apply Kd.R_alloc | apply Kd.R_drewN | apply Kd.R_drew)); exact Kd.R_mono HO_6.out (fun _ hk => hk.2.1)⟩, ⟨by (with_reducible repeat (first | apply Kd.R_alloc | apply Kd.R_drewN | apply Kd.R_drew)); exact Kd.R_mono HO_10.out (fun _ hk => hk.1)⟩, ⟨by repeat (first | (with_reducible first | exact HB.out | apply below_alloc | apply pw_below_drewN | apply below_drew1) | exact HB.out)⟩⟩
          ·replace c51 := Bool.eq_false_iff.mpr c51
           subst c51
           have H1 : (laws_FnExactApplyPatch.j1 kj12 l0 l1 t175 t176 t185 true) = some r := by rw [if_neg (show ¬ (false = true) by decide)] at H; exact H
           clear H
           have H := H1
           clear H1
           have H' := Aside0.mk H
           clear H
           obtain ⟨Ao54, co54, eo54⟩ := Kd.R_slice HO_10.out
           subst eo54
           obtain ⟨Ao55, co55, eo55⟩ := Kd.R_slice HO_6.out
           subst eo55
           go_wp2_with (first | (go_at_call 10; (with_reducible refine (laws_eqByteS.calls kj12 _ _ t185 _ _ t175 false _ ?side1 ?side2 ?side3 ?side4 A50.out).mono ?_); (case side1 => exact cU (Kd.R_reads' HO_10.out).2.2); (case side2 => exact (Kd.R_reads' HO_10.out).2.1); (case side3 => exact cU (Kd.R_reads' HO_6.out).2.2); (case side4 => exact (Kd.R_reads' HO_6.out).2.1); rintro e w' ⟨rfl, ⟨nd, rfl⟩⟩))
           go_meet
           case rel => exact ⟨_, (true), tE, H', ⟨by have := HJ12.out; first | omega | exact Nat.le_refl _⟩, ⟨by (with_reducible repeat (first | apply Kd.R_alloc | apply Kd.R_drewN | apply Kd.R_drew)); exact Kd.R_mono HO_6.out (fun _ hk => hk.2.1)⟩, ⟨by (with_reducible repeat (first | apply Kd.R_alloc | apply Kd.R_drewN | apply Kd.R_drew)); exact Kd.R_mono HO_10.out (fun _ hk => hk.1)⟩, ⟨by repeat (first | (with_reducible first | exact HB.out | apply below_alloc | apply pw_below_drewN | apply below_drew1) | exact HB.out)⟩⟩
        case rest =>
         clear HC40
         try clear c1
         try clear c2
         try clear p2
         try clear c3
         try clear c3b0
         try clear c3b1
         try clear c4
         try clear c5
         try clear c5b0
         try clear c7
         try clear c9
         try clear c10
         try clear c11
         try clear c12
         try clear c14
         try clear c15
         try clear c16
         try clear c17
         try clear c26
         try clear c31
         try clear c34
         try clear c37
         try clear c49
         try clear c49b0
         try clear c49b2
         try clear c51
         try clear p2
         obtain ⟨kq, x80_39, rfl, HA, HJ39, HO_6, HO_10, HB⟩ := hcut
         cases kq with
         | zero => exact absurd HA.out (by simp [laws_FnExactApplyPatch.j1])
         | succ kj39 =>
          have H := HA.out
          clear HA
          simp only [laws_FnExactApplyPatch.j1] at H
          by_cases c56 : x80_39 = true
          ·subst c56
           have H1 : (some false) = some r := by rw [if_pos rfl] at H; exact H
           clear H
           have H := H1
           clear H1
           obtain rfl := Option.some.inj H
           go_wp2
           go_ret
           exact ⟨eE, lU⟩
          ·replace c56 := Bool.eq_false_iff.mpr c56
           subst c56
           have H1 : ((laws_markByteS.f kj39 t185 1).bind fun bt203 => ((laws_heldByteS.f kj39 bt203.2 1).bind fun t205 => (if t205 < 0 then (some false) else (if t205 = bt203.1 then ((laws_toByteS.f kj39 l0).bind fun t206 => ((laws_toChunkS.f kj39 l1).bind fun t209 => ((impl_ApplyPatch.f kj39 t206 t209).bind fun bt212 => ((laws_eqByteS.f kj39 bt212.1 t175).bind fun t216 => (if t216 = true then (laws_FnExactApplyPatch.j2 kj39 bt203.2 bt203.1 (bt212.2 != t176)) else (laws_FnExactApplyPatch.j2 kj39 bt203.2 bt203.1 true)))))) else (some false))))) = some r := by rw [if_neg (show ¬ (false = true) by decide)] at H; exact H
           clear H
           have H := H1
           clear H1
           replace H := Option.bind_eq_some_iff.mp H
           obtain ⟨⟨t203, t204⟩, A570, H⟩ := H
           replace H : ((laws_heldByteS.f kj39 t204 1).bind fun t205 => (if t205 < 0 then (some false) else (if t205 = t203 then ((laws_toByteS.f kj39 l0).bind fun t206 => ((laws_toChunkS.f kj39 l1).bind fun t209 => ((impl_ApplyPatch.f kj39 t206 t209).bind fun bt212 => ((laws_eqByteS.f kj39 bt212.1 t175).bind fun t216 => (if t216 = true then (laws_FnExactApplyPatch.j2 kj39 t204 t203 (bt212.2 != t176)) else (laws_FnExactApplyPatch.j2 kj39 t204 t203 true)))))) else (some false)))) = some r := H
           have A57 := Aside0.mk A570
           clear A570
           replace H := Option.bind_eq_some_iff.mp H
           obtain ⟨t205, A580, H⟩ := H
           replace H : (if t205 < 0 then (some false) else (if t205 = t203 then ((laws_toByteS.f kj39 l0).bind fun t206 => ((laws_toChunkS.f kj39 l1).bind fun t209 => ((impl_ApplyPatch.f kj39 t206 t209).bind fun bt212 => ((laws_eqByteS.f kj39 bt212.1 t175).bind fun t216 => (if t216 = true then (laws_FnExactApplyPatch.j2 kj39 t204 t203 (bt212.2 != t176)) else (laws_FnExactApplyPatch.j2 kj39 t204 t203 true)))))) else (some false))) = some r := H
           have A58 := Aside0.mk A580
           clear A580
           by_cases c59 : t205 < 0
           ·rw [if_pos c59] at H
            have c59b0 : decide (t205 < 0) = true := decide_eq_true c59
            clear c59
            obtain rfl := Option.some.inj H
            obtain ⟨Ao60, co60, eo60⟩ := Kd.R_slice HO_10.out
            subst eo60
            go_wp2_with (first | ((with_reducible refine gate_callee (f := 11) rfl ?_); refine goesL_ (some 83) rfl rfl Try.func11 (by kernel_rfl) rfl #[.slice Ao60 t185.length co60, .int .i64 1] rfl aE ?_; (with_reducible refine (laws_markByteS.calls kj39 (fun k_ => some k_ = (.slice Ao60 t185.length co60 : Value).ownBlock) (.slice Ao60 t185.length co60) t185 1 t203 t204 w _ ?side1 ?side2 A57.out).mono ?_); (case side1 => repeat (first | (with_reducible first | exact HB.out | apply below_alloc | apply pw_below_drewN | apply below_drew1) | exact HB.out)); (case side2 => exact Kd.R_tight rfl HO_10.out); rintro e w61 ⟨rfl, hy0, hb, hkp⟩; refine ⟨_, rfl, ?_⟩; replace HO_6 := Aside0.mk (Kd.R_mono (ok' := fun k_ => some k_ ≠ (.slice Ao60 t185.length co60 : Value).ownBlock) (Kd.R_keptB (HO_6.out) hkp (fun k_ hk_ hs_ => (hk_) hs_)) (fun k_ hk_ => hk_.1)); replace HO_10 := Aside0.mk (Kd.R_reok rfl hy0 (fun k_ e_ => HO_10.out.1 k_ e_)); replace HB := Aside0.mk hb; (try clear hb); (try clear hkp); (try clear hg_); (try clear hp_); (try clear hy0)) | ((with_reducible refine gate_callee (f := 18) rfl ?_); refine goesL_ (some 86) rfl rfl Try.func18 (by kernel_rfl) rfl #[.slice Ao60 t204.length co60, .int .i64 1] rfl (by (try simp only [List.map_toArray, List.map_cons, List.map_nil]); first | done | (rw [show t204.length = t185.length from (Kd.R_reads' HO_10.out).1.symm] <;> rfl) | rfl | (simp only [List.length_drop, List.length_take]; rfl)) ?_; (with_reducible refine (laws_heldByteS.calls kj39 _ _ t204 1 t205 _ ?side1 ?side2 A58.out).mono ?_); (case side1 => exact cU (Kd.R_reads' HO_10.out).2.2); (case side2 => rw [show t204.length = t185.length from (Kd.R_reads' HO_10.out).1.symm]; exact (Kd.R_reads' HO_10.out).2.1); rintro e w' ⟨rfl, ⟨nd, rfl⟩⟩; refine ⟨_, rfl, ?_⟩))
            go_ret
            exact ⟨eE, lU⟩
           ·rw [if_neg c59] at H
            have c59b0 : decide (t205 < 0) = false := decide_eq_false c59
            clear c59
            by_cases c62 : t205 = t203
            ·rw [if_pos c62] at H
             have c62b0 : (t205 == t203) = true := beq_iff_eq.mpr c62
             have c62b1 : (t205 != t203) = false := bne_eq_false_iff_eq.mpr c62
             clear c62
             replace H := Option.bind_eq_some_iff.mp H
             obtain ⟨t206, A630, H⟩ := H
             replace H : ((laws_toChunkS.f kj39 l1).bind fun t209 => ((impl_ApplyPatch.f kj39 t206 t209).bind fun bt212 => ((laws_eqByteS.f kj39 bt212.1 t175).bind fun t216 => (if t216 = true then (laws_FnExactApplyPatch.j2 kj39 t204 t203 (bt212.2 != t176)) else (laws_FnExactApplyPatch.j2 kj39 t204 t203 true))))) = some r := H
             have A63 := Aside0.mk A630
             clear A630
             replace H := Option.bind_eq_some_iff.mp H
             obtain ⟨t209, A640, H⟩ := H
             replace H : ((impl_ApplyPatch.f kj39 t206 t209).bind fun bt212 => ((laws_eqByteS.f kj39 bt212.1 t175).bind fun t216 => (if t216 = true then (laws_FnExactApplyPatch.j2 kj39 t204 t203 (bt212.2 != t176)) else (laws_FnExactApplyPatch.j2 kj39 t204 t203 true)))) = some r := H
             have A64 := Aside0.mk A640
             clear A640
             replace H := Option.bind_eq_some_iff.mp H
             obtain ⟨⟨t212, t213⟩, A650, H⟩ := H
             replace H : ((laws_eqByteS.f kj39 t212 t175).bind fun t216 => (if t216 = true then (laws_FnExactApplyPatch.j2 kj39 t204 t203 (t213 != t176)) else (laws_FnExactApplyPatch.j2 kj39 t204 t203 true))) = some r := H
             have A65 := Aside0.mk A650
             clear A650
             have HC66 := Aside0.mk H
             clear H
             obtain ⟨Ao67, co67, eo67⟩ := Kd.R_slice HO_10.out
             subst eo67
             go_upto_region 31 with (first | ((with_reducible refine gate_callee (f := 11) rfl ?_); refine goesL_ (some 83) rfl rfl Try.func11 (by kernel_rfl) rfl #[.slice Ao67 t185.length co67, .int .i64 1] rfl aE ?_; (with_reducible refine (laws_markByteS.calls kj39 (fun k_ => some k_ = (.slice Ao67 t185.length co67 : Value).ownBlock) (.slice Ao67 t185.length co67) t185 1 t203 t204 w _ ?side1 ?side2 A57.out).mono ?_); (case side1 => repeat (first | (with_reducible first | exact HB.out | apply below_alloc | apply pw_below_drewN | apply below_drew1) | exact HB.out)); (case side2 => exact Kd.R_tight rfl HO_10.out); rintro e w68 ⟨rfl, hy0, hb, hkp⟩; refine ⟨_, rfl, ?_⟩; replace HO_6 := Aside0.mk (Kd.R_mono (ok' := fun k_ => some k_ ≠ (.slice Ao67 t185.length co67 : Value).ownBlock) (Kd.R_keptB (HO_6.out) hkp (fun k_ hk_ hs_ => (hk_) hs_)) (fun k_ hk_ => hk_.1)); replace HO_10 := Aside0.mk (Kd.R_reok rfl hy0 (fun k_ e_ => HO_10.out.1 k_ e_)); replace HB := Aside0.mk hb; (try clear hb); (try clear hkp); (try clear hg_); (try clear hp_); (try clear hy0)) | ((with_reducible refine gate_callee (f := 18) rfl ?_); refine goesL_ (some 86) rfl rfl Try.func18 (by kernel_rfl) rfl #[.slice Ao67 t204.length co67, .int .i64 1] rfl (by (try simp only [List.map_toArray, List.map_cons, List.map_nil]); first | done | (rw [show t204.length = t185.length from (Kd.R_reads' HO_10.out).1.symm] <;> rfl) | rfl | (simp only [List.length_drop, List.length_take]; rfl)) ?_; (with_reducible refine (laws_heldByteS.calls kj39 _ _ t204 1 t205 _ ?side1 ?side2 A58.out).mono ?_); (case side1 => exact cU (Kd.R_reads' HO_10.out).2.2); (case side2 => rw [show t204.length = t185.length from (Kd.R_reads' HO_10.out).1.symm]; exact (Kd.R_reads' HO_10.out).2.1); rintro e w' ⟨rfl, ⟨nd, rfl⟩⟩; refine ⟨_, rfl, ?_⟩) | ((with_reducible refine gate_callee (f := 7) rfl ?_); refine goesL_ (some 94) rfl rfl Try.func7 (by kernel_rfl) rfl #[.slice A0 l0.length c0] rfl aE ?_; (with_reducible refine (laws_toByteS.calls kj39 _ _ l0 t206 _ ?side1 ?side2 A63.out).mono ?_); (case side1 => exact cU (Kd.C_below HR0.out (lU))); (case side2 => exact HC0.out); rintro e w69 ⟨v207, rfl, ho0, hb⟩; refine ⟨_, rfl, ?_⟩; have HO208 := Aside0.mk (Kd.R_lower (Kd.R_new' (Kd.R_new' ho0 (Kd.R_lt (rU HO_6.out))) (Kd.R_lt (rU HO_10.out))) (below_size (lU))); replace HO_6 := Aside0.mk (Kd.R_elder' (rU HO_6.out) (Kd.R_base ho0) hb); replace HO_10 := Aside0.mk (Kd.R_elder' (rU HO_10.out) (Kd.R_base ho0) hb); replace HB := bH (lU) hb; (try clear hb); (try clear ho0)) | ((with_reducible refine gate_callee (f := 16) rfl ?_); refine goesL_ (some 96) rfl rfl Try.func16 (by kernel_rfl) rfl #[.slice A1 l1.length c1] rfl aE ?_; (with_reducible refine (laws_toChunkS.calls kj39 _ _ l1 t209 _ ?side1 ?side2 A64.out).mono ?_); (case side1 => exact cU (Kd.C_below HR1.out HB.out)); (case side2 => exact HC1.out); rintro e w70 ⟨v210, rfl, ho0, hb⟩; refine ⟨_, rfl, ?_⟩; have HO211 := Aside0.mk (Kd.S_lower (Kd.S_new' (Kd.S_new' (Kd.S_new' ho0 (Kd.R_lt (rU HO_6.out))) (Kd.R_lt (rU HO_10.out))) (Kd.R_lt (rU HO208.out))) (below_size (lU))); replace HO_6 := Aside0.mk (Kd.R_below (rU HO_6.out) hb); replace HO_10 := Aside0.mk (Kd.R_below (rU HO_10.out) hb); replace HO208 := Aside0.mk (Kd.R_below (rU HO208.out) hb); replace HB := bH (lU) hb; (try clear hb); (try clear ho0); obtain ⟨Ao71, co71, eo71⟩ := Kd.R_slice HO208.out; subst eo71; obtain ⟨Ao72, co72, eo72⟩ := Kd.S_slice HO211.out; subst eo72) | ((with_reducible refine gate_callee (f := 17) rfl ?_); refine goesL_ (some 97) rfl rfl Try.func17 (by kernel_rfl) rfl #[.slice Ao71 t206.length co71, .slice Ao72 t209.length co72] rfl aE ?_; (with_reducible refine (impl_ApplyPatch.calls kj39 _ _ t206 _ _ t209 t212 t213 _ ?side1 ?side2 ?side3 ?side4 A65.out).mono ?_); (case side1 => exact cU (Kd.R_reads' HO208.out).2.2); (case side2 => exact (Kd.R_reads' HO208.out).2.1); (case side3 => exact cU (Kd.S_reads' HO211.out).2.2); (case side4 => exact (Kd.S_reads' HO211.out).2.1); rintro e w73 ⟨v214, rfl, ho0, hb⟩; refine ⟨_, rfl, ?_⟩; replace HO211 := Aside0.mk (Kd.S_elder' (by (with_reducible repeat (first | apply Kd.S_alloc | apply Kd.S_drewN | apply Kd.S_drew)); exact HO211.out) (Kd.R_base ho0) hb); have HO215 := Aside0.mk (Kd.R_lower (Kd.R_new' (Kd.R_new' (Kd.R_new' ho0 (Kd.R_lt (rU HO_6.out))) (Kd.R_lt (rU HO_10.out))) (Kd.R_lt (rU HO208.out))) (below_size (lU))); replace HO_6 := Aside0.mk (Kd.R_elder' (rU HO_6.out) (Kd.R_base ho0) hb); replace HO_10 := Aside0.mk (Kd.R_elder' (rU HO_10.out) (Kd.R_base ho0) hb); replace HO208 := Aside0.mk (Kd.R_elder' (rU HO208.out) (Kd.R_base ho0) hb); replace HB := bH (lU) hb; (try clear hb); (try clear ho0)))
             (try simp only [Act.put, List.setIfInBounds_toArray, List.set_cons_zero, List.set_cons_succ])
             go_cut [108] (fun v108 wc => ∃ (kq : Nat) (x108_65 : Bool), v108 = .bool x108_65 ∧ Aside0 (laws_FnExactApplyPatch.j2 kq t204 t203 x108_65 = some r) ∧ Aside0 (kq ≤ kj39) ∧ Aside0 (Kd.R (Kd.int .u8) 5 wc w.heap.size (fun _ => True) (.slice Ao67 t185.length co67) t204) ∧ Aside0 (Below w.heap.size w wc))
             case first =>
              have H := HC66.out
              clear HC66
              replace H := Option.bind_eq_some_iff.mp H
              obtain ⟨t216, A740, H⟩ := H
              replace H : (if t216 = true then (laws_FnExactApplyPatch.j2 kj39 t204 t203 (t213 != t176)) else (laws_FnExactApplyPatch.j2 kj39 t204 t203 true)) = some r := H
              have A74 := Aside0.mk A740
              clear A740
              by_cases c75 : t216 = true
              ·subst c75
               have H1 : (laws_FnExactApplyPatch.j2 kj39 t204 t203 (t213 != t176)) = some r := by rw [if_pos rfl] at H; exact H
               clear H
               have H := H1
               clear H1
               have H' := Aside0.mk H
               clear H
               obtain ⟨Ao76, co76, eo76⟩ := Kd.R_slice HO215.out
               subst eo76
               obtain ⟨Ao77, co77, eo77⟩ := Kd.R_slice HO_6.out
               subst eo77
               go_wp2_with (first | ((with_reducible refine gate_callee (f := 10) rfl ?_); refine goesL_ (some 102) rfl rfl Try.func10 (by kernel_rfl) rfl #[.slice Ao76 t212.length co76, .slice Ao77 t175.length co77] rfl aE ?_; (with_reducible refine (laws_eqByteS.calls kj39 _ _ t212 _ _ t175 true _ ?side1 ?side2 ?side3 ?side4 A74.out).mono ?_); (case side1 => exact cU (Kd.R_reads' HO215.out).2.2); (case side2 => exact (Kd.R_reads' HO215.out).2.1); (case side3 => exact cU (Kd.R_reads' HO_6.out).2.2); (case side4 => exact (Kd.R_reads' HO_6.out).2.1); rintro e w' ⟨rfl, ⟨nd, rfl⟩⟩; refine ⟨_, rfl, ?_⟩))
               go_meet
               case rel => exact ⟨_, ((t213 != t176)), tE, H', ⟨by have := HJ12.out; have := HJ39.out; first | omega | exact Nat.le_refl _⟩, ⟨by (with_reducible repeat (first | apply Kd.R_alloc | apply Kd.R_drewN | apply Kd.R_drew)); exact Kd.R_mono HO_10.out (fun _ hk => trivial)⟩, ⟨by repeat (first | (with_reducible first | exact HB.out | apply below_alloc | apply pw_below_drewN | apply below_drew1) | exact HB.out)⟩⟩
              ·replace c75 := Bool.eq_false_iff.mpr c75
               subst c75
               have H1 : (laws_FnExactApplyPatch.j2 kj39 t204 t203 true) = some r := by rw [if_neg (show ¬ (false = true) by decide)] at H; exact H
               clear H
               have H := H1
               clear H1
               have H' := Aside0.mk H
               clear H
               obtain ⟨Ao78, co78, eo78⟩ := Kd.R_slice HO215.out
               subst eo78
               obtain ⟨Ao79, co79, eo79⟩ := Kd.R_slice HO_6.out
               subst eo79
               go_wp2_with (first | ((with_reducible refine gate_callee (f := 10) rfl ?_); refine goesL_ (some 102) rfl rfl Try.func10 (by kernel_rfl) rfl #[.slice Ao78 t212.length co78, .slice Ao79 t175.length co79] rfl aE ?_; (with_reducible refine (laws_eqByteS.calls kj39 _ _ t212 _ _ t175 false _ ?side1 ?side2 ?side3 ?side4 A74.out).mono ?_); (case side1 => exact cU (Kd.R_reads' HO215.out).2.2); (case side2 => exact (Kd.R_reads' HO215.out).2.1); (case side3 => exact cU (Kd.R_reads' HO_6.out).2.2); (case side4 => exact (Kd.R_reads' HO_6.out).2.1); rintro e w' ⟨rfl, ⟨nd, rfl⟩⟩; refine ⟨_, rfl, ?_⟩))
               go_meet
               case rel => exact ⟨_, (true), tE, H', ⟨by have := HJ12.out; have := HJ39.out; first | omega | exact Nat.le_refl _⟩, ⟨by (with_reducible repeat (first | apply Kd.R_alloc | apply Kd.R_drewN | apply Kd.R_drew)); exact Kd.R_mono HO_10.out (fun _ hk => trivial)⟩, ⟨by repeat (first | (with_reducible first | exact HB.out | apply below_alloc | apply pw_below_drewN | apply below_drew1) | exact HB.out)⟩⟩
             case rest =>
              clear HC66
              try clear c1
              try clear c2
              try clear p2
              try clear c3
              try clear c3b0
              try clear c3b1
              try clear c4
              try clear c5
              try clear c5b0
              try clear c6
              try clear c7
              try clear c9
              try clear c10
              try clear c11
              try clear c12
              try clear c14
              try clear c15
              try clear c16
              try clear c17
              try clear c18
              try clear c26
              try clear c31
              try clear c34
              try clear c37
              try clear c49
              try clear c49b0
              try clear c49b2
              try clear c51
              try clear c56
              try clear c59
              try clear c59b0
              try clear c62
              try clear c62b0
              try clear c62b1
              try clear c75
              try clear p2
              obtain ⟨kq, x108_65, rfl, HA, HJ65, HO_10, HB⟩ := hcut
              have hl10_65 := (Kd.R_reads' HO_10.out).1
              rw [hl10_65] at HO_10
              (try simp only [hl10_65])
              cases kq with
              | zero => exact absurd HA.out (by simp [laws_FnExactApplyPatch.j2])
              | succ kj65 =>
               have H := HA.out
               clear HA
               simp only [laws_FnExactApplyPatch.j2] at H
               by_cases c80 : x108_65 = true
               ·subst c80
                have H1 : (some false) = some r := by rw [if_pos rfl] at H; exact H
                clear H
                have H := H1
                clear H1
                obtain rfl := Option.some.inj H
                go_wp2
                go_ret
                exact ⟨eE, lU⟩
               ·replace c80 := Bool.eq_false_iff.mpr c80
                subst c80
                have H1 : ((laws_heldByteS.f kj65 t204 1).bind fun t217 => (if t217 < 0 then (some false) else (if t217 = t203 then (some true) else (some false)))) = some r := by rw [if_neg (show ¬ (false = true) by decide)] at H; exact H
                clear H
                have H := H1
                clear H1
                replace H := Option.bind_eq_some_iff.mp H
                obtain ⟨t217, A810, H⟩ := H
                replace H : (if t217 < 0 then (some false) else (if t217 = t203 then (some true) else (some false))) = some r := H
                have A81 := Aside0.mk A810
                clear A810
                by_cases c82 : t217 < 0
                ·rw [if_pos c82] at H
                 have c82b0 : decide (t217 < 0) = true := decide_eq_true c82
                 clear c82
                 obtain rfl := Option.some.inj H
                 go_wp2_with (first | ((with_reducible refine gate_callee (f := 18) rfl ?_); refine goesL_ (some 111) rfl rfl Try.func18 (by kernel_rfl) rfl #[.slice Ao67 t204.length co67, .int .i64 1] rfl aE ?_; (with_reducible refine (laws_heldByteS.calls kj65 _ _ t204 1 t217 _ ?side1 ?side2 A81.out).mono ?_); (case side1 => exact cU (Kd.R_reads' HO_10.out).2.2); (case side2 => exact (Kd.R_reads' HO_10.out).2.1); rintro e w' ⟨rfl, ⟨nd, rfl⟩⟩; refine ⟨_, rfl, ?_⟩))
                 go_ret
                 exact ⟨eE, lU⟩
                ·rw [if_neg c82] at H
                 have c82b0 : decide (t217 < 0) = false := decide_eq_false c82
                 clear c82
                 by_cases c83 : t217 = t203
                 ·rw [if_pos c83] at H
                  have c83b0 : (t217 == t203) = true := beq_iff_eq.mpr c83
                  have c83b1 : (t217 != t203) = false := bne_eq_false_iff_eq.mpr c83
                  clear c83
                  obtain rfl := Option.some.inj H
                  go_wp2_with (first | ((with_reducible refine gate_callee (f := 18) rfl ?_); refine goesL_ (some 111) rfl rfl Try.func18 (by kernel_rfl) rfl #[.slice Ao67 t204.length co67, .int .i64 1] rfl aE ?_; (with_reducible refine (laws_heldByteS.calls kj65 _ _ t204 1 t217 _ ?side1 ?side2 A81.out).mono ?_); (case side1 => exact cU (Kd.R_reads' HO_10.out).2.2); (case side2 => exact (Kd.R_reads' HO_10.out).2.1); rintro e w' ⟨rfl, ⟨nd, rfl⟩⟩; refine ⟨_, rfl, ?_⟩))
                  go_ret
                  exact ⟨eE, lU⟩
                 ·rw [if_neg c83] at H
                  have c83b0 : (t217 == t203) = false := beq_eq_false_iff_ne.mpr c83
                  have c83b1 : (t217 != t203) = true := bne_iff_ne.mpr c83
                  obtain rfl := Option.some.inj H
                  go_wp2_with (first | ((with_reducible refine gate_callee (f := 18) rfl ?_); refine goesL_ (some 111) rfl rfl Try.func18 (by kernel_rfl) rfl #[.slice Ao67 t204.length co67, .int .i64 1] rfl aE ?_; (with_reducible refine (laws_heldByteS.calls kj65 _ _ t204 1 t217 _ ?side1 ?side2 A81.out).mono ?_); (case side1 => exact cU (Kd.R_reads' HO_10.out).2.2); (case side2 => exact (Kd.R_reads' HO_10.out).2.1); rintro e w' ⟨rfl, ⟨nd, rfl⟩⟩; refine ⟨_, rfl, ?_⟩))
                  go_ret
                  exact ⟨eE, lU⟩
            ·rw [if_neg c62] at H
             have c62b0 : (t205 == t203) = false := beq_eq_false_iff_ne.mpr c62
             have c62b1 : (t205 != t203) = true := bne_iff_ne.mpr c62
             obtain rfl := Option.some.inj H
             obtain ⟨Ao84, co84, eo84⟩ := Kd.R_slice HO_10.out
             subst eo84
             go_wp2_with (first | ((with_reducible refine gate_callee (f := 11) rfl ?_); refine goesL_ (some 83) rfl rfl Try.func11 (by kernel_rfl) rfl #[.slice Ao84 t185.length co84, .int .i64 1] rfl aE ?_; (with_reducible refine (laws_markByteS.calls kj39 (fun k_ => some k_ = (.slice Ao84 t185.length co84 : Value).ownBlock) (.slice Ao84 t185.length co84) t185 1 t203 t204 w _ ?side1 ?side2 A57.out).mono ?_); (case side1 => repeat (first | (with_reducible first | exact HB.out | apply below_alloc | apply pw_below_drewN | apply below_drew1) | exact HB.out)); (case side2 => exact Kd.R_tight rfl HO_10.out); rintro e w85 ⟨rfl, hy0, hb, hkp⟩; refine ⟨_, rfl, ?_⟩; replace HO_6 := Aside0.mk (Kd.R_mono (ok' := fun k_ => some k_ ≠ (.slice Ao84 t185.length co84 : Value).ownBlock) (Kd.R_keptB (HO_6.out) hkp (fun k_ hk_ hs_ => (hk_) hs_)) (fun k_ hk_ => hk_.1)); replace HO_10 := Aside0.mk (Kd.R_reok rfl hy0 (fun k_ e_ => HO_10.out.1 k_ e_)); replace HB := Aside0.mk hb; (try clear hb); (try clear hkp); (try clear hg_); (try clear hp_); (try clear hy0)) | ((with_reducible refine gate_callee (f := 18) rfl ?_); refine goesL_ (some 86) rfl rfl Try.func18 (by kernel_rfl) rfl #[.slice Ao84 t204.length co84, .int .i64 1] rfl (by (try simp only [List.map_toArray, List.map_cons, List.map_nil]); first | done | (rw [show t204.length = t185.length from (Kd.R_reads' HO_10.out).1.symm] <;> rfl) | rfl | (simp only [List.length_drop, List.length_take]; rfl)) ?_; (with_reducible refine (laws_heldByteS.calls kj39 _ _ t204 1 t205 _ ?side1 ?side2 A58.out).mono ?_); (case side1 => exact cU (Kd.R_reads' HO_10.out).2.2); (case side2 => rw [show t204.length = t185.length from (Kd.R_reads' HO_10.out).1.symm]; exact (Kd.R_reads' HO_10.out).2.1); rintro e w' ⟨rfl, ⟨nd, rfl⟩⟩; refine ⟨_, rfl, ?_⟩))
             go_ret
             exact ⟨eE, lU⟩
       ·replace c37 := Bool.eq_false_iff.mpr c37
        subst c37
        have H1 : (some false) = some r := by rw [if_neg (show ¬ (false = true) by decide)] at H; exact H
        clear H
        have H := H1
        clear H1
        obtain rfl := Option.some.inj H
        go_wp2_with (first | ((with_reducible refine gate_callee (f := 7) rfl ?_); refine goesL_ (some 54) rfl rfl Try.func7 (by kernel_rfl) rfl #[.slice A0 l0.length c0] rfl aE ?_; (with_reducible refine (laws_toByteS.calls kj12 _ _ l0 t190 _ ?side1 ?side2 A32.out).mono ?_); (case side1 => exact cU (Kd.C_below HR0.out HB.out)); (case side2 => exact HC0.out); rintro e w86 ⟨v191, rfl, ho0, hb⟩; refine ⟨_, rfl, ?_⟩; replace HO_9 := Aside0.mk (Kd.S_elder' (by (with_reducible repeat (first | apply Kd.S_alloc | apply Kd.S_drewN | apply Kd.S_drew)); exact HO_9.out) (Kd.R_base ho0) hb); have HO192 := Aside0.mk (Kd.R_lower (Kd.R_new' (Kd.R_new' (Kd.R_new' ho0 (Kd.R_lt (rU HO_6.out))) (Kd.R_lt (rU HO_8.out))) (Kd.R_lt (rU HO_10.out))) (below_size (lU))); replace HO_6 := Aside0.mk (Kd.R_elder' (rU HO_6.out) (Kd.R_base ho0) hb); replace HO_8 := Aside0.mk (Kd.R_elder' (rU HO_8.out) (Kd.R_base ho0) hb); replace HO_10 := Aside0.mk (Kd.R_elder' (rU HO_10.out) (Kd.R_base ho0) hb); replace HB := bH (lU) hb; (try clear hb); (try clear ho0); obtain ⟨Ao87, co87, eo87⟩ := Kd.R_slice HO192.out; subst eo87) | ((with_reducible refine gate_callee (f := 10) rfl ?_); refine goesL_ (some 55) rfl rfl Try.func10 (by kernel_rfl) rfl #[.slice Ao22 t179.length co22, .slice Ao87 t190.length co87] rfl aE ?_; (with_reducible refine (laws_eqByteS.calls kj12 _ _ t179 _ _ t190 true _ ?side1 ?side2 ?side3 ?side4 A33.out).mono ?_); (case side1 => exact cU (Kd.R_reads' HO_8.out).2.2); (case side2 => exact (Kd.R_reads' HO_8.out).2.1); (case side3 => exact cU (Kd.R_reads' HO192.out).2.2); (case side4 => exact (Kd.R_reads' HO192.out).2.1); rintro e w' ⟨rfl, ⟨nd, rfl⟩⟩; refine ⟨_, rfl, ?_⟩) | ((with_reducible refine gate_callee (f := 16) rfl ?_); refine goesL_ (some 59) rfl rfl Try.func16 (by kernel_rfl) rfl #[.slice A1 l1.length c1] rfl aE ?_; (with_reducible refine (laws_toChunkS.calls kj12 _ _ l1 t194 _ ?side1 ?side2 A35.out).mono ?_); (case side1 => exact cU (Kd.C_below HR1.out (lU))); (case side2 => exact HC1.out); rintro e w88 ⟨v195, rfl, ho0, hb⟩; refine ⟨_, rfl, ?_⟩; have HO196 := Aside0.mk (Kd.S_lower (Kd.S_new' (Kd.S_new' (Kd.S_new' (Kd.S_new' (Kd.S_new' ho0 (Kd.R_lt (rU HO_6.out))) (Kd.R_lt (rU HO_8.out))) (Kd.S_lt (by (with_reducible repeat (first | apply Kd.S_alloc | apply Kd.S_drewN | apply Kd.S_drew)); exact HO_9.out))) (Kd.R_lt (rU HO_10.out))) (Kd.R_lt (rU HO192.out))) (below_size (lU))); replace HO_6 := Aside0.mk (Kd.R_below (rU HO_6.out) hb); replace HO_8 := Aside0.mk (Kd.R_below (rU HO_8.out) hb); replace HO_9 := Aside0.mk (Kd.S_elder' (by (with_reducible repeat (first | apply Kd.S_alloc | apply Kd.S_drewN | apply Kd.S_drew)); exact HO_9.out) (Kd.S_base ho0) hb); replace HO_10 := Aside0.mk (Kd.R_below (rU HO_10.out) hb); replace HO192 := Aside0.mk (Kd.R_below (rU HO192.out) hb); replace HB := bH (lU) hb; (try clear hb); (try clear ho0); obtain ⟨Ao89, co89, eo89⟩ := Kd.S_slice HO196.out; subst eo89) | ((with_reducible refine gate_callee (f := 9) rfl ?_); refine goesL_ (some 60) rfl rfl Try.func9 (by kernel_rfl) rfl #[.slice Ao23 t182.length co23, .slice Ao89 t194.length co89] rfl aE ?_; (with_reducible refine (laws_eqChunkS.calls kj12 _ _ t182 _ _ t194 false _ ?side1 ?side2 ?side3 ?side4 A36.out).mono ?_); (case side1 => exact cU (Kd.S_reads' HO_9.out).2.2); (case side2 => exact (Kd.S_reads' HO_9.out).2.1); (case side3 => exact cU (Kd.S_reads' HO196.out).2.2); (case side4 => exact (Kd.S_reads' HO196.out).2.1); rintro e w90 ⟨rfl, hb⟩; refine ⟨_, rfl, ?_⟩; replace HO_6 := Aside0.mk (Kd.R_below (rU HO_6.out) hb); replace HO_8 := Aside0.mk (Kd.R_below (rU HO_8.out) hb); replace HO_9 := Aside0.mk (Kd.S_below (by (with_reducible repeat (first | apply Kd.S_alloc | apply Kd.S_drewN | apply Kd.S_drew)); exact HO_9.out) hb); replace HO_10 := Aside0.mk (Kd.R_below (rU HO_10.out) hb); replace HO192 := Aside0.mk (Kd.R_below (rU HO192.out) hb); replace HO196 := Aside0.mk (Kd.S_below (by (with_reducible repeat (first | apply Kd.S_alloc | apply Kd.S_drewN | apply Kd.S_drew)); exact HO196.out) hb); replace HB := bH (lU) hb; (try clear hb)))
        go_ret
        exact ⟨eE, lU⟩
      ·replace c34 := Bool.eq_false_iff.mpr c34
       subst c34
       have H1 : (some false) = some r := by rw [if_neg (show ¬ (false = true) by decide)] at H; exact H
       clear H
       have H := H1
       clear H1
       obtain rfl := Option.some.inj H
       go_wp2_with (first | ((with_reducible refine gate_callee (f := 7) rfl ?_); refine goesL_ (some 54) rfl rfl Try.func7 (by kernel_rfl) rfl #[.slice A0 l0.length c0] rfl aE ?_; (with_reducible refine (laws_toByteS.calls kj12 _ _ l0 t190 _ ?side1 ?side2 A32.out).mono ?_); (case side1 => exact cU (Kd.C_below HR0.out HB.out)); (case side2 => exact HC0.out); rintro e w91 ⟨v191, rfl, ho0, hb⟩; refine ⟨_, rfl, ?_⟩; replace HO_9 := Aside0.mk (Kd.S_elder' (by (with_reducible repeat (first | apply Kd.S_alloc | apply Kd.S_drewN | apply Kd.S_drew)); exact HO_9.out) (Kd.R_base ho0) hb); have HO192 := Aside0.mk (Kd.R_lower (Kd.R_new' (Kd.R_new' (Kd.R_new' ho0 (Kd.R_lt (rU HO_6.out))) (Kd.R_lt (rU HO_8.out))) (Kd.R_lt (rU HO_10.out))) (below_size (lU))); replace HO_6 := Aside0.mk (Kd.R_elder' (rU HO_6.out) (Kd.R_base ho0) hb); replace HO_8 := Aside0.mk (Kd.R_elder' (rU HO_8.out) (Kd.R_base ho0) hb); replace HO_10 := Aside0.mk (Kd.R_elder' (rU HO_10.out) (Kd.R_base ho0) hb); replace HB := bH (lU) hb; (try clear hb); (try clear ho0); obtain ⟨Ao92, co92, eo92⟩ := Kd.R_slice HO192.out; subst eo92) | ((with_reducible refine gate_callee (f := 10) rfl ?_); refine goesL_ (some 55) rfl rfl Try.func10 (by kernel_rfl) rfl #[.slice Ao22 t179.length co22, .slice Ao92 t190.length co92] rfl aE ?_; (with_reducible refine (laws_eqByteS.calls kj12 _ _ t179 _ _ t190 false _ ?side1 ?side2 ?side3 ?side4 A33.out).mono ?_); (case side1 => exact cU (Kd.R_reads' HO_8.out).2.2); (case side2 => exact (Kd.R_reads' HO_8.out).2.1); (case side3 => exact cU (Kd.R_reads' HO192.out).2.2); (case side4 => exact (Kd.R_reads' HO192.out).2.1); rintro e w' ⟨rfl, ⟨nd, rfl⟩⟩; refine ⟨_, rfl, ?_⟩))
       go_ret
       exact ⟨eE, lU⟩
end Go.Proofs.Ytcpodjegdpbalaa.PFnExactApplyPatch
namespace Go.Proofs.YtcpodjegdpbalaaO
open Go.ChangeShapes Go.WideShapes Go.Proofs.YtcpodjegdpbalaaW.PrintWords Go.RowKit
def In64 (n : Int) : Prop := -9223372036854775808 ≤ n ∧ n ≤ 9223372036854775807
def InU8 (n : Int) : Prop := 0 ≤ n ∧ n ≤ 255
def Opens {α : Type} (P : Program) (t : TypeId) (d : Kd α) (g : α → Prop) : Prop :=
  ∀ {H : Type} (enc : TypeId × Value → H) (w : World) (fuel : Nat) (cs : List Value) (y : DataW H) (ps : List MemPlace),
    DataW.trod enc P w 0 (fun _ => true) true fuel t cs = some (y, ps) → (∀ n ∈ y.weights P t, n ≤ reachBytes) → ∃ x, d.K w x cs ∧ g x
theorem Opens.imp {α : Type} {P : Program} {t : TypeId} {d : Kd α} {g g' : α → Prop} (h : Opens P t d g) (k : ∀ x, g x → g' x) : Opens P t d g' := by
  intro H enc w fuel cs y ps ht hw
  obtain ⟨x, hx, hg⟩ := h enc w fuel cs y ps ht hw
  exact ⟨x, hx, k x hg⟩
theorem opens_int {P : Program} {t : TypeId} {k : IntKind} (ht : P.underlying t = some (.int k)) : Opens P t (Kd.int k) (fun n => (Lit.int k n).wf = true) := by
  intro H enc w fuel cs y ps h _
  obtain ⟨n, rfl, _, hw⟩ := DataW.trod_int ht h
  exact ⟨n, rfl, hw⟩
theorem wf_i64 {n : Int} (h : (Lit.int .i64 n).wf = true) : In64 n := bounds_i64 h
theorem wf_u8 {n : Int} (h : (Lit.int .u8 n).wf = true) : InU8 n := bounds_u8 h
theorem opens_i64 {P : Program} {t : TypeId} (ht : P.underlying t = some (.int .i64)) : Opens P t (Kd.int .i64) In64 := Opens.imp (opens_int ht) fun _ h => wf_i64 h
theorem opens_u8 {P : Program} {t : TypeId} (ht : P.underlying t = some (.int .u8)) : Opens P t (Kd.int .u8) InU8 := Opens.imp (opens_int ht) fun _ h => wf_u8 h
theorem exists_list {α : Type} (p : Nat → α → Prop) : ∀ n : Nat, (∀ i, i < n → ∃ x, p i x) → ∃ xs : List α, xs.length = n ∧ ∀ i x, xs[i]? = some x → p i x
  | 0, _ => ⟨[], rfl, fun i x h => by simp at h⟩
  | n + 1, h => by
    obtain ⟨xs, hl, hx⟩ := exists_list p n (fun i hi => h i (by omega))
    obtain ⟨x, hp⟩ := h n (by omega)
    refine ⟨xs ++ [x], by simp [hl], fun i y hy => ?_⟩
    rcases Nat.lt_or_ge i xs.length with hi | hi
    · rw [List.getElem?_append_left hi] at hy
      exact hx i y hy
    · have : i = n := by
        have := (List.getElem?_eq_some_iff.1 hy).1
        rw [List.length_append, List.length_singleton] at this
        omega
      subst this
      rw [List.getElem?_append_right hi] at hy
      rw [hl] at hy
      simp at hy
      subst hy
      exact hp
theorem add_add (ad : Addr) (i j : Nat) : (ad.add i).add j = ad.add (i + j) := by
  unfold Addr.add
  by_cases h1 : i = 0 <;> by_cases h2 : j = 0 <;> simp [h1, h2, Nat.add_assoc]
theorem weightsAll_mem {H : Type} {P : Program} {e : TypeId} : ∀ {l : List (DataW H)} {d : DataW H}, d ∈ l → ∀ n ∈ d.weights P e, n ∈ DataW.weightsAll P e l
  | [], d, h, _, _ => by simp at h
  | x :: r, d, h, n, hn => by
    simp only [DataW.weightsAll, List.mem_append]
    rcases List.mem_cons.1 h with rfl | h
    · exact .inl hn
    · exact .inr (weightsAll_mem h n hn)
theorem opens_slice {α : Type} {P : Program} {t e : TypeId} {d : Kd α} {g : α → Prop} {B : Nat} (ht : P.underlying t = some (.slice e)) (hs : P.cellsOf e = d.sz) (hB : P.bytesOf e = B) (h : Opens P e d g) :
    Opens P t (Kd.slice e d) (fun xs => xs.length * B ≤ 140737488351232 ∧ ∀ x ∈ xs, g x) := by
  intro H enc w fuel cs y ps hy hw
  rcases DataW.trod_slice ht hy with ⟨rfl, _⟩ | ⟨a, len, cap, elems, rest, n, rfl, rfl, hx, _, hlc, hcm, hel, hget, _, _⟩
  · exact ⟨[], ⟨none, 0, rfl, Nat.le_refl _, Kd.C_nil d w⟩, by simp⟩
  · obtain ⟨rfl, _⟩ := Prod.mk.inj hx
    simp only [DataW.weights, ht] at hw
    have hlen : len * B ≤ 140737488351232 := by
      have := hw _ List.mem_cons_self
      simp only [List.length_map, hB] at this
      have h2 : len * B ≤ (elems.length + rest.length) * B := Nat.mul_le_mul_right _ (by omega)
      exact Nat.le_trans h2 this
    have key : ∀ i, i < len → ∃ x, (∃ c, c.length = d.sz ∧ d.K w x c ∧ ∀ j u, c[j]? = some u → w.cell? (a.add (i * d.sz + j)) = some u) ∧ g x := by
      intro i hi
      have hg := hget i hi
      rw [List.getElem?_eq_getElem (by omega), Option.bind_eq_some_iff] at hg
      obtain ⟨c, hc, hd⟩ := hg
      obtain ⟨_, hcl, hcell⟩ := World.cells?_some hc
      obtain ⟨x, hK, hgx⟩ := h enc w n c _ _ hd (fun m hm => hw m (List.mem_cons_of_mem _ (List.mem_append_left _ (weightsAll_mem (List.mem_map_of_mem (List.getElem_mem _)) m hm))))
      refine ⟨x, ⟨c, hcl.trans hs, hK, fun j u hj => ?_⟩, hgx⟩
      have hjl : j < P.cellsOf e := by
        have := (List.getElem?_eq_some_iff.1 hj).1
        omega
      have := hcell j hjl
      rw [add_add, hj, hs] at this
      exact this
    obtain ⟨xs, hxl, hxs⟩ := exists_list _ len key
    refine ⟨xs, ⟨some a, cap, by rw [hxl], by omega, hxl ▸ ⟨hxl, by simp only [maxLen] at hcm; omega, fun _ => ⟨a, rfl, fun j p hp => (hxs j p hp).1⟩⟩⟩, by rw [hxl]; exact hlen, fun x hx => ?_⟩
    obtain ⟨i, hi, rfl⟩ := List.getElem_of_mem hx
    exact (hxs i _ (List.getElem?_eq_getElem hi)).2
theorem opens_iso {α β : Type} {P : Program} {t : TypeId} {d : Kd α} {g : α → Prop} (f : β → α) (inv : α → β) (hi : ∀ x, f (inv x) = x) (h : Opens P t d g) : Opens P t (Kd.iso d f) (fun x => g (f x)) := by
  intro H enc w fuel cs y ps hy hw
  obtain ⟨x, hK, hg⟩ := h enc w fuel cs y ps hy hw
  refine ⟨inv x, ?_, ?_⟩
  · show d.K w (f (inv x)) cs
    rw [hi]; exact hK
  · show g (f (inv x))
    rw [hi]; exact hg
def OpensL {α : Type} (P : Program) (fs : List Field) (off : Nat) (d : Kd α) (g : α → Prop) : Prop :=
  ∀ {H : Type} (enc : TypeId × Value → H) (w : World) (n : Nat) (cs : List Value) (ys : List (DataW H × List MemPlace)), ys.length = fs.length →
    (∀ (i : Nat) (f : Field), fs[i]? = some f → DataW.trod enc P w 0 (fun _ => true) true n f.type ((cs.drop f.offset).take (P.cellsOf f.type)) = ys[i]?) →
    (∀ m ∈ DataW.weightsEach P (fs.map (·.type)) (ys.map (·.1)), m ≤ reachBytes) → ∃ x, d.K w x ((cs.drop off).take d.sz) ∧ g x
theorem opensL_one {α : Type} {P : Program} {f : Field} {off : Nat} {d : Kd α} {g : α → Prop} (ho : f.offset = off) (hs : P.cellsOf f.type = d.sz) (h : Opens P f.type d g) : OpensL P [f] off d g := by
  intro H enc w n cs ys hl hf hw
  match ys, hl with
  | [y], _ =>
    have h0 := hf 0 f rfl
    rw [ho, hs] at h0
    exact h enc w n _ y.1 y.2 h0 (fun m hm => hw m (by simp only [List.map_cons, DataW.weightsEach, List.mem_append]; exact .inl hm))
theorem opensL_cons {α β : Type} {P : Program} {f : Field} {fs : List Field} {off : Nat} {a : Kd α} {b : Kd β} {ga : α → Prop} {gb : β → Prop} (ho : f.offset = off) (hs : P.cellsOf f.type = a.sz) (h : Opens P f.type a ga) (hr : OpensL P fs (off + a.sz) b gb) :
    OpensL P (f :: fs) off (Kd.pair a b) (fun x => ga x.1 ∧ gb x.2) := by
  intro H enc w n cs ys hl hf hw
  match ys, hl with
  | y :: ys, hl =>
    have h0 := hf 0 f rfl
    rw [ho, hs] at h0
    obtain ⟨x, hx, hgx⟩ := h enc w n _ y.1 y.2 h0 (fun m hm => hw m (by simp only [List.map_cons, DataW.weightsEach, List.mem_append]; exact .inl hm))
    obtain ⟨x', hx', hgx'⟩ := hr enc w n cs ys (by simpa using hl) (fun i f' hf' => by have := hf (i + 1) f' (by simpa using hf'); simpa using this) (fun m hm => hw m (by simp only [List.map_cons, DataW.weightsEach, List.mem_append]; exact .inr hm))
    refine ⟨(x, x'), ⟨_, _, ?_, hx, hx'⟩, hgx, hgx'⟩
    show (cs.drop off).take (a.sz + b.sz) = _
    rw [List.take_add, List.drop_drop]
theorem opens_struct {α : Type} {P : Program} {t : TypeId} {fs : Array Field} {d : Kd α} {g : α → Prop} (ht : P.underlying t = some (.struct fs)) (hs : P.cellsOf t = d.sz) (h : OpensL P fs.toList 0 d g) : Opens P t d g := by
  intro H enc w fuel cs y ps hy hw
  obtain ⟨xs, n, rfl, hx, hl, hxl, hget⟩ := DataW.trod_struct ht hy
  obtain ⟨rfl, _⟩ := Prod.mk.inj hx
  simp only [DataW.weights, ht] at hw
  obtain ⟨x, hK, hg⟩ := h enc w n cs xs (by simpa using hxl) (fun i f hf => hget i f (by simpa using hf)) (by simpa using hw)
  rw [List.drop_zero, List.take_of_length_le (by omega)] at hK
  exact ⟨x, hK, hg⟩
theorem weights_of {H : Type} {P : Program} {ts : List TypeId} {ds : List (DataW H)} {j : Nat} {t : TypeId} {d : DataW H} (hsz : (DataW.weightsEach P ts ds).all (· ≤ reachBytes) = true) (ht : ts[j]? = some t) (hd : ds[j]? = some d) : ∀ n ∈ d.weights P t, n ≤ reachBytes := by
  intro n hn
  have := List.all_eq_true.1 hsz n (DataW.weights_mem_each ht hd n hn)
  simpa using this
theorem open_slice {α H : Type} {enc : TypeId × Value → H} {P : Program} {W : World} {t e : TypeId} {d : Kd α} {g : List α → Prop} {a : Option Addr} {len cap : Nat} {y : DataW H} {ps : List MemPlace} (h : Opens P t (Kd.slice e d) g)
    (hy : DataW.Trod enc P W 0 (fun _ => true) true t (.slice a len cap) y ps) (hw : ∀ n ∈ y.weights P t, n ≤ reachBytes) : ∃ xs : List α, len = xs.length ∧ xs.length ≤ cap ∧ d.C W a xs.length xs ∧ g xs := by
  obtain ⟨fuel, hf⟩ := hy
  obtain ⟨xs, ⟨A, c, he, hl, hC⟩, hg⟩ := h enc W fuel _ y ps hf hw
  have he' : Value.slice a len cap = .slice A xs.length c := by simpa [Value.cells] using he
  injection he' with h1 h2 h3
  subst h1 h2 h3
  exact ⟨xs, rfl, hl, hC, hg⟩
end Go.Proofs.YtcpodjegdpbalaaO
namespace Go.Proofs.Ytcpodjegdpbalaa.OFnExactApplyPatch
open Go.RowKit Go.Proofs.Ytcpodjegdpbalaa.PFnExactApplyPatch Go.Proofs.YtcpodjegdpbalaaW.PrintWords Go.Proofs.YtcpodjegdpbalaaO
def Ok68 (x : S68) : Prop := (In64 x.f0) ∧ (In64 x.f1) ∧ (x.f2.length * 1 ≤ 140737488351232 ∧ ∀ y ∈ x.f2, InU8 y)
theorem opens68 : Opens Try.prog 68 k68 Ok68 :=
  Opens.imp (opens_iso _ (fun x => (⟨x.1, x.2.1, x.2.2⟩ : S68)) (fun _ => rfl) (opens_struct Try.underlying68 (by kernel_rfl) (opensL_cons rfl (by kernel_rfl) (opens_i64 Try.underlying3) (opensL_cons rfl (by kernel_rfl) (opens_i64 Try.underlying3) (opensL_one rfl (by kernel_rfl) (opens_slice Try.underlying22 (by kernel_rfl) (B := 1) (by kernel_rfl) (opens_u8 Try.underlying5))))))) fun x h => by
    obtain ⟨h0, h1, h2⟩ := h
    exact ⟨h0, h1, h2⟩
end Go.Proofs.Ytcpodjegdpbalaa.OFnExactApplyPatch
namespace Go.Proofs.YtcpodjegdpbalaaO
open Go.RowKit Go.Proofs.YtcpodjegdpbalaaW.PrintWords Go.Proofs.YtcpodjegdpbalaaW.PrintLast Go.Proofs.YtcpodjegdpbalaaW.PrintMore
theorem w64 {n : Int} (h : -9223372036854775808 ≤ n) (k : n ≤ 9223372036854775807) : wrap64 n = n := by unfold wrap64; omega
theorem w64s (i : Nat) (h : i < 4611686018427387904) : wrap64 ((i : Int) + 1) = ((i + 1 : Nat) : Int) := by unfold wrap64; omega
theorem ev_some {α : Type} {x r : α} (h : x = r) : Ev (fun _ => some x) r := ⟨0, fun _ _ => by rw [h]⟩
theorem ev_pos {α : Type} {c : Prop} [Decidable c] {f g : Nat → Option α} {r : α} (h : c) (k : Ev f r) : Ev (fun n => if c then f n else g n) r := by
  obtain ⟨K, hK⟩ := k
  exact ⟨K, fun n hn => (if_pos h).trans (hK n hn)⟩
theorem ev_neg {α : Type} {c : Prop} [Decidable c] {f g : Nat → Option α} {r : α} (h : ¬ c) (k : Ev g r) : Ev (fun n => if c then f n else g n) r := by
  obtain ⟨K, hK⟩ := k
  exact ⟨K, fun n hn => (if_neg h).trans (hK n hn)⟩
theorem ev_ite {α : Type} {c : Prop} [Decidable c] {f g : Nat → Option α} {r : α} (h : c → Ev f r) (k : ¬ c → Ev g r) : Ev (fun n => if c then f n else g n) r := by
  by_cases hc : c
  · exact ev_pos hc (h hc)
  · exact ev_neg hc (k hc)
theorem ev_bindc {α β : Type} {x : Option α} {f : Nat → α → Option β} {a : α} {r : β} (h : x = some a) (k : Ev (fun n => f n a) r) : Ev (fun n => x.bind (f n)) r := by
  subst h; exact k
theorem ev_for {σ ρ : Type} (n : Nat) (L : Nat → Nat → σ → Option ρ) (I : Nat → σ → Prop) (Q : ρ → Prop)
    (hend : ∀ s, I n s → ∃ r, Ev (fun k => L k n s) r ∧ Q r)
    (hstep : ∀ i s, i < n → I i s → (∃ r, Ev (fun k => L k i s) r ∧ Q r) ∨ ∃ s', I (i + 1) s' ∧ ∀ r, Ev (fun k => L k (i + 1) s') r → Ev (fun k => L k i s) r) :
    ∀ i s, i ≤ n → I i s → ∃ r, Ev (fun k => L k i s) r ∧ Q r := by
  have key : ∀ d i s, i + d = n → I i s → ∃ r, Ev (fun k => L k i s) r ∧ Q r := by
    intro d
    induction d with
    | zero => intro i s hi h; obtain rfl : i = n := by omega
              exact hend s h
    | succ d ih =>
      intro i s hi h
      rcases hstep i s (by omega) h with h' | ⟨s', hI, hr⟩
      · exact h'
      · obtain ⟨r, hr', hQ⟩ := ih (i + 1) s' (by omega) hI
        exact ⟨r, hr r hr', hQ⟩
  intro i s hi h
  exact key (n - i) i s (by omega) h
theorem ev_for1 {σ ρ : Type} (n : Nat) (L : Nat → Nat → σ → Option ρ) (I : Nat → σ → Prop) (a : ρ)
    (hend : ∀ s, I n s → Ev (fun k => L k n s) a)
    (hstep : ∀ i s, i < n → I i s → Ev (fun k => L k i s) a ∨ ∃ s', I (i + 1) s' ∧ ∀ r, Ev (fun k => L k (i + 1) s') r → Ev (fun k => L k i s) r) :
    ∀ i s, i ≤ n → I i s → Ev (fun k => L k i s) a := by
  intro i s hi h
  obtain ⟨r, hr, rfl⟩ := ev_for n L I (fun r => r = a) (fun s hs => ⟨a, hend s hs, rfl⟩) (fun i s hi hs => (hstep i s hi hs).imp (fun h => ⟨a, h, rfl⟩) id) i s hi h
  exact hr
theorem rd_get {xs : List Int} {i : Nat} (h : i < xs.length) : rd xs (i : Int) = xs[i] := by simp [rd, List.getD_eq_getElem?_getD, h]
theorem getD_get {α : Type} {d : α} {xs : List α} {i : Nat} (h : i < xs.length) : xs.getD (i : Int).toNat d = xs[i] := by simp [List.getD_eq_getElem?_getD, h]
theorem ev_copy {α β : Type} (L : Nat → List α → List β → Int → Option (List β)) (e : Nat → List α → Int → Option β) (g : α → β)
    (hL : ∀ k xs ys i, L (k + 1) xs ys i = if i < (xs.length : Int) then (if 0 ≤ i then (if i < (ys.length : Int) then ((e k xs i).bind fun v => L k xs (ys.set (i : Int).toNat v) (wrap64 (i + 1))) else none) else none) else some ys)
    (xs : List α) (hx : xs.length < 4611686018427387904) (he : ∀ i : Nat, ∀ h : i < xs.length, Ev (fun k => e k xs (i : Int)) (g xs[i])) (ys : List β) (hy : ys.length = xs.length) :
    Ev (fun k => L k xs ys 0) (xs.map g) := by
  refine ev_for1 xs.length (fun k i ys => L k xs ys (i : Int)) (fun i ys => ys.length = xs.length ∧ ∀ j, j < i → ys[j]? = (xs.map g)[j]?) (xs.map g) ?_ ?_ 0 ys (Nat.zero_le _) ⟨hy, fun j hj => by omega⟩
  · intro ys ⟨hl, h⟩
    refine Ev.step (fun k => hL k xs ys _) (ev_neg (by omega) (ev_some ?_))
    apply List.ext_getElem?
    intro j
    rcases Nat.lt_or_ge j xs.length with hj | hj
    · exact h j hj
    · rw [List.getElem?_eq_none (by omega), List.getElem?_eq_none (by simpa using hj)]
  · intro i ys hi ⟨hl, h⟩
    refine .inr ⟨ys.set i (g xs[i]), ⟨by simpa using hl, fun j hj => ?_⟩, fun r hr => ?_⟩
    · rcases Nat.lt_or_ge j i with hji | hji
      · rw [List.getElem?_set_ne (by omega)]
        exact h j hji
      · obtain rfl : j = i := by omega
        rw [List.getElem?_set_self (by omega), List.getElem?_map, List.getElem?_eq_getElem hi]
        rfl
    · refine Ev.step (fun k => hL k xs ys _) (ev_pos (by omega) (ev_pos (by omega) (ev_pos (by omega) (Ev.bind (he i hi) ?_))))
      rw [w64s i (by omega)]
      exact hr
theorem ev_alike {α β : Type} (L : Nat → List α → List β → Int → Option Bool) (e : Nat → List α → List β → Int → Option Bool) (g : α → β → Bool)
    (hL : ∀ k xs ys i, L (k + 1) xs ys i = if i < (xs.length : Int) then (if 0 ≤ i then (if i < (ys.length : Int) then ((e k xs ys i).bind fun v => if v = true then L k xs ys (wrap64 (i + 1)) else some false) else none) else none) else some true)
    (xs : List α) (ys : List β) (hx : xs.length < 4611686018427387904) (hy : ys.length = xs.length) (he : ∀ i : Nat, ∀ (h : i < xs.length) (h' : i < ys.length), Ev (fun k => e k xs ys (i : Int)) (g xs[i] ys[i]))
    (b : Bool) (hb : b = true ↔ ∀ i : Nat, ∀ (h : i < xs.length) (h' : i < ys.length), g xs[i] ys[i] = true) :
    Ev (fun k => L k xs ys 0) b := by
  refine ev_for1 xs.length (fun k i (_ : Unit) => L k xs ys (i : Int)) (fun i _ => ∀ j, j < i → ∀ (h : j < xs.length) (h' : j < ys.length), g xs[j] ys[j] = true) b ?_ ?_ 0 () (Nat.zero_le _) (fun j hj => by omega)
  · intro _ h
    refine Ev.step (fun k => hL k xs ys _) (ev_neg (by omega) (ev_some ?_))
    exact (hb.2 fun i hi hi' => h i hi hi hi').symm
  · intro i _ hi h
    have hi' : i < ys.length := by omega
    by_cases hg : g xs[i] ys[i] = true
    · refine .inr ⟨(), fun j hj h1 h2 => ?_, fun r hr => ?_⟩
      · rcases Nat.lt_or_ge j i with hji | hji
        · exact h j hji h1 h2
        · obtain rfl : j = i := by omega
          exact hg
      · refine Ev.step (fun k => hL k xs ys _) (ev_pos (by omega) (ev_pos (by omega) (ev_pos (by omega) (Ev.bind (he i hi hi') (ev_pos hg ?_)))))
        rw [w64s i (by omega)]
        exact hr
    · refine .inl (Ev.step (fun k => hL k xs ys _) (ev_pos (by omega) (ev_pos (by omega) (ev_pos (by omega) (Ev.bind (he i hi hi') (ev_neg hg (ev_some ?_)))))))
      cases b with
      | false => rfl
      | true => exact absurd (hb.1 rfl i hi hi') hg
theorem ev_alike_self {α : Type} (L : Nat → List α → List α → Int → Option Bool) (e : Nat → List α → List α → Int → Option Bool)
    (hL : ∀ k xs ys i, L (k + 1) xs ys i = if i < (xs.length : Int) then (if 0 ≤ i then (if i < (ys.length : Int) then ((e k xs ys i).bind fun v => if v = true then L k xs ys (wrap64 (i + 1)) else some false) else none) else none) else some true)
    (xs : List α) (hx : xs.length < 4611686018427387904) (he : ∀ i : Nat, ∀ (_ : i < xs.length), Ev (fun k => e k xs xs (i : Int)) true) :
    Ev (fun k => L k xs xs 0) true :=
  ev_alike L e (fun _ _ => true) hL xs xs hx rfl (fun i h _ => he i h) true ⟨fun _ _ _ _ => rfl, fun _ => rfl⟩
def Chain {α : Type} (E : α → Int → Int → Prop) : List α → Int → Int → Prop
  | [], c, d => c = d
  | x :: r, c, d => ∃ m, E x c m ∧ Chain E r m d
theorem Chain.snoc {α : Type} {E : α → Int → Int → Prop} : ∀ {l : List α} {c m d : Int} {x : α}, Chain E l c m → E x m d → Chain E (l ++ [x]) c d
  | [], _, _, _, _, h, k => by cases h; exact ⟨_, k, rfl⟩
  | _ :: _, _, _, _, _, ⟨q, h1, h2⟩, k => ⟨q, h1, Chain.snoc h2 k⟩
theorem Chain.le {α : Type} {E : α → Int → Int → Prop} (hm : ∀ x c d, E x c d → c ≤ d) : ∀ {l : List α} {c d : Int}, Chain E l c d → c ≤ d
  | [], _, _, h => Int.le_of_eq h
  | _ :: _, _, _, ⟨_, h1, h2⟩ => Int.le_trans (hm _ _ _ h1) (Chain.le hm h2)
theorem ev_mark {α : Type} (L : Nat → List α → Int → Nat → Option (Int × List α)) (E : α → Int → Int → Prop) (G : α → Prop) (W : Int) (hW : 0 ≤ W) (hW' : W ≤ 1099511627776)
    (hend : ∀ zs c, Ev (fun k => L k zs c zs.length) (c, zs))
    (hstep : ∀ zs c i, ∀ hi : i < zs.length, i < 1048576 → G zs[i] → 0 ≤ c → c ≤ 2305843009213693952 → ∃ x' c', E x' c c' ∧ c ≤ c' ∧ c' ≤ c + W ∧ ∀ r, Ev (fun k => L k (zs.set i x') c' (i + 1)) r → Ev (fun k => L k zs c i) r)
    (xs : List α) (hG : ∀ x ∈ xs, G x) (hl : xs.length ≤ 1048576) (c : Int) (hc0 : 0 ≤ c) (hc1 : c ≤ 1152921504606846976) :
    ∃ ys d, Chain E ys c d ∧ c ≤ d ∧ d ≤ c + W * xs.length ∧ ys.length = xs.length ∧ Ev (fun k => L k xs c 0) (d, ys) := by
  have key : ∀ n i : Nat, ∀ zs : List α, ∀ m : Int, i + n = xs.length → zs.length = xs.length → zs.drop i = xs.drop i → Chain E (zs.take i) c m → c ≤ m → m ≤ c + W * i →
      ∃ ys d, Chain E ys c d ∧ c ≤ d ∧ d ≤ c + W * xs.length ∧ ys.length = xs.length ∧ Ev (fun k => L k zs m i) (d, ys) := by
    intro n
    induction n with
    | zero =>
      intro i zs m hi hz hd hch h1 h2
      obtain rfl : i = zs.length := by omega
      rw [List.take_length] at hch
      rw [← hz]
      exact ⟨zs, m, hch, h1, h2, rfl, hend zs m⟩
    | succ n ih =>
      intro i zs m hi hz hd hch h1 h2
      have hlt : i < zs.length := by omega
      have hx : i < xs.length := by omega
      have hget : zs[i] = xs[i] := by
        have e1 := List.drop_eq_getElem_cons hlt
        have e2 := List.drop_eq_getElem_cons hx
        rw [hd, e2] at e1
        exact (List.cons.inj e1).1.symm
      have hWi : W * (i : Int) ≤ 1099511627776 * 1048576 := Int.mul_le_mul hW' (by omega) (by omega) (by omega)
      obtain ⟨x', c', hE, hc, hcW, hr⟩ := hstep zs m i hlt (by omega) (by rw [hget]; exact hG _ (List.getElem_mem hx)) (by omega) (by omega)
      obtain ⟨ys, d, g1, g2, g3, g4, g5⟩ := ih (i + 1) (zs.set i x') c' (by omega) (by simpa using hz) (by
          rw [List.drop_set_of_lt (by omega)]
          have e1 := List.drop_eq_getElem_cons hlt
          have e2 := List.drop_eq_getElem_cons hx
          rw [hd, e2] at e1
          exact (List.cons.inj e1).2.symm) (by
          rw [List.take_succ_eq_append_getElem (by simpa using hlt), List.take_set_of_le (Nat.le_refl i), List.getElem_set_self]
          exact Chain.snoc hch hE) (by omega) (by
          have : W * ((i + 1 : Nat) : Int) = W * i + W := by rw [Int.natCast_add, Int.mul_add]; simp
          omega)
      exact ⟨ys, d, g1, g2, g3, g4, hr _ g5⟩
  have := key xs.length 0 xs c (by omega) rfl rfl (by simp [Chain]) (Int.le_refl _) (by simp)
  exact this
theorem ev_held {α : Type} (H : Nat → List α → Int → Nat → Option Int) (E : α → Int → Int → Prop) (hm : ∀ x c d, E x c d → c ≤ d)
    (hend : ∀ ys c, Ev (fun k => H k ys c ys.length) c)
    (hstep : ∀ ys c c' i, ∀ hi : i < ys.length, i < 1048576 → E ys[i] c c' → 0 ≤ c → c' ≤ 2305843009213693952 → ∀ r, Ev (fun k => H k ys c' (i + 1)) r → Ev (fun k => H k ys c i) r)
    (ys : List α) (hl : ys.length ≤ 1048576) (c d : Int) (hc0 : 0 ≤ c) (hd : d ≤ 2305843009213693952) (h : Chain E ys c d) : Ev (fun k => H k ys c 0) d := by
  have key : ∀ n i : Nat, ∀ m : Int, i + n = ys.length → 0 ≤ m → Chain E (ys.drop i) m d → Ev (fun k => H k ys m i) d := by
    intro n
    induction n with
    | zero =>
      intro i m hi h0 hch
      obtain rfl : i = ys.length := by omega
      rw [List.drop_length] at hch
      obtain rfl : m = d := hch
      exact hend ys m
    | succ n ih =>
      intro i m hi h0 hch
      have hlt : i < ys.length := by omega
      rw [List.drop_eq_getElem_cons hlt] at hch
      obtain ⟨m', hE, hch⟩ := hch
      have h1 := hm _ _ _ hE
      exact hstep ys m m' i hlt (by omega) hE h0 (by have := Chain.le hm hch; omega) d (ih (i + 1) m' (by omega) (by omega) hch)
  exact key ys.length 0 c (by omega) hc0 h
theorem exev_bind {α β : Type} {g : Nat → Option α} {f : Nat → α → Option β} {a : α} {Q : β → Prop} (h : Ev g a) (k : ∃ r, Ev (fun n => f n a) r ∧ Q r) : ∃ r, Ev (fun n => (g n).bind (f n)) r ∧ Q r := by
  obtain ⟨r, hr, hq⟩ := k
  exact ⟨r, Ev.bind h hr, hq⟩
theorem exev_pos {α : Type} {c : Prop} [Decidable c] {f g : Nat → Option α} {Q : α → Prop} (h : c) (k : ∃ r, Ev f r ∧ Q r) : ∃ r, Ev (fun n => if c then f n else g n) r ∧ Q r := by
  obtain ⟨r, hr, hq⟩ := k
  exact ⟨r, ev_pos h hr, hq⟩
theorem exev_neg {α : Type} {c : Prop} [Decidable c] {f g : Nat → Option α} {Q : α → Prop} (h : ¬ c) (k : ∃ r, Ev g r ∧ Q r) : ∃ r, Ev (fun n => if c then f n else g n) r ∧ Q r := by
  obtain ⟨r, hr, hq⟩ := k
  exact ⟨r, ev_neg h hr, hq⟩
theorem exev_ite {α : Type} {c : Prop} [Decidable c] {f g : Nat → Option α} {Q : α → Prop} (h : c → ∃ r, Ev f r ∧ Q r) (k : ¬ c → ∃ r, Ev g r ∧ Q r) : ∃ r, Ev (fun n => if c then f n else g n) r ∧ Q r := by
  by_cases hc : c
  · exact exev_pos hc (h hc)
  · exact exev_neg hc (k hc)
theorem exev_some {α : Type} {x : α} {Q : α → Prop} (h : Q x) : ∃ r, Ev (fun _ => some x) r ∧ Q r := ⟨x, ev_some rfl, h⟩
theorem ev_copy2 {α β τ : Type} (L : Nat → List α → List β → Int → Option (List β)) (e : Nat → List α → Int → Option τ) (mk : τ → β) (g : α → β)
    (hL : ∀ k xs ys i, L (k + 1) xs ys i = if i < (xs.length : Int) then (if 0 ≤ i then ((e k xs i).bind fun v => if i < (ys.length : Int) then L k xs (ys.set (i : Int).toNat (mk v)) (wrap64 (i + 1)) else none) else none) else some ys)
    (xs : List α) (hx : xs.length < 4611686018427387904) (he : ∀ i : Nat, ∀ h : i < xs.length, ∃ t, Ev (fun k => e k xs (i : Int)) t ∧ mk t = g xs[i]) (ys : List β) (hy : ys.length = xs.length) :
    Ev (fun k => L k xs ys 0) (xs.map g) := by
  refine ev_for1 xs.length (fun k i ys => L k xs ys (i : Int)) (fun i ys => ys.length = xs.length ∧ ∀ j, j < i → ys[j]? = (xs.map g)[j]?) (xs.map g) ?_ ?_ 0 ys (Nat.zero_le _) ⟨hy, fun j hj => by omega⟩
  · intro ys ⟨hl, h⟩
    refine Ev.step (fun k => hL k xs ys _) (ev_neg (by omega) (ev_some ?_))
    apply List.ext_getElem?
    intro j
    rcases Nat.lt_or_ge j xs.length with hj | hj
    · exact h j hj
    · rw [List.getElem?_eq_none (by omega), List.getElem?_eq_none (by simpa using hj)]
  · intro i ys hi ⟨hl, h⟩
    obtain ⟨t, ht, hmk⟩ := he i hi
    refine .inr ⟨ys.set i (g xs[i]), ⟨by simpa using hl, fun j hj => ?_⟩, fun r hr => ?_⟩
    · rcases Nat.lt_or_ge j i with hji | hji
      · rw [List.getElem?_set_ne (by omega)]
        exact h j hji
      · obtain rfl : j = i := by omega
        rw [List.getElem?_set_self (by omega), List.getElem?_map, List.getElem?_eq_getElem hi]
        rfl
    · refine Ev.step (fun k => hL k xs ys _) (ev_pos (by omega) (ev_pos (by omega) (Ev.bind ht (ev_pos (by omega) ?_))))
      rw [w64s i (by omega), hmk]
      exact hr
theorem ev_size {α : Type} (L : Nat → List α → Int → Int → Option Int) (e : Nat → List α → Int → Int → Option Int) (C : α → Prop)
    (hL : ∀ k xs c i, L (k + 1) xs c i = if i < (xs.length : Int) then (if 0 ≤ i then ((e k xs c i).bind fun t => if t < 0 then some (-1) else L k xs t (wrap64 (i + 1))) else none) else some c)
    (xs : List α) (hx : xs.length < 4611686018427387904) (left : Int) (h0 : 0 ≤ left)
    (he : ∀ i : Nat, ∀ h : i < xs.length, ∀ c, 0 ≤ c → c ≤ left → ∃ r, Ev (fun k => e k xs c (i : Int)) r ∧ (r < 0 ∨ 0 ≤ r ∧ r ≤ c ∧ C xs[i])) :
    ∃ r, Ev (fun k => L k xs left 0) r ∧ (r < 0 ∨ 0 ≤ r ∧ r ≤ left ∧ ∀ x ∈ xs, C x) := by
  refine ev_for xs.length (fun k i c => L k xs c (i : Int)) (fun i c => 0 ≤ c ∧ c ≤ left ∧ ∀ j, ∀ h : j < xs.length, j < i → C xs[j]) (fun r => r < 0 ∨ 0 ≤ r ∧ r ≤ left ∧ ∀ x ∈ xs, C x) ?_ ?_ 0 left (Nat.zero_le _) ⟨h0, Int.le_refl _, fun j _ hj => by omega⟩
  · intro c ⟨hc0, hc1, h⟩
    refine ⟨c, Ev.step (fun k => hL k xs c _) (ev_neg (by omega) (ev_some rfl)), .inr ⟨hc0, hc1, fun x hx => ?_⟩⟩
    obtain ⟨j, hj, rfl⟩ := List.getElem_of_mem hx
    exact h j hj hj
  · intro i c hi ⟨hc0, hc1, h⟩
    obtain ⟨r, hr, hq⟩ := he i hi c hc0 hc1
    rcases hq with hq | ⟨q0, q1, q2⟩
    · exact .inl ⟨-1, Ev.step (fun k => hL k xs c _) (ev_pos (by omega) (ev_pos (by omega) (Ev.bind hr (ev_pos hq (ev_some rfl))))), .inl (by omega)⟩
    · refine .inr ⟨r, ⟨q0, by omega, fun j hj hji => ?_⟩, fun r' hr' => Ev.step (fun k => hL k xs c _) (ev_pos (by omega) (ev_pos (by omega) (Ev.bind hr (ev_neg (by omega) ?_))))⟩
      · rcases Nat.lt_or_ge j i with h1 | h1
        · exact h j hj h1
        · obtain rfl : j = i := by omega
          exact q2
      · rw [w64s i (by omega)]
        exact hr'
end Go.Proofs.YtcpodjegdpbalaaO
namespace Go.Proofs.Ytcpodjegdpbalaa.Pure
open Go.RowKit Go.Proofs.Ytcpodjegdpbalaa.PFnExactApplyPatch Go.Proofs.Ytcpodjegdpbalaa.OFnExactApplyPatch Go.Proofs.YtcpodjegdpbalaaW.PrintWords Go.Proofs.YtcpodjegdpbalaaW.PrintLast Go.Proofs.YtcpodjegdpbalaaW.PrintMore Go.Proofs.YtcpodjegdpbalaaO
set_option linter.unusedVariables false
set_option linter.unusedSimpArgs false
theorem st_laws_markChunkS_l0 {r : (Int × (List (S62)))} {x0 : List (S62)} {x1 : Int} {x5 : Int} (h : Ev (fun k => if x5 < (x0.length : Int) then (if 0 ≤ x5 then ((some (x0.set (x5 : Int).toNat (⟨x1, (rd_T62 x0 x5).f1, (rd_T62 x0 x5).f2⟩ : S62) : List (S62))).bind fun y115 => ((some (y115.set (x5 : Int).toNat (⟨(rd_T62 y115 x5).f0, wrap64 (x1 + 1), (rd_T62 y115 x5).f2⟩ : S62) : List (S62))).bind fun y116 => ((laws_markByteS.f k ((rd_T62 y116 x5).f2) (wrap64 ((wrap64 (x1 + 1)) + 1))).bind fun bt118 => (laws_markChunkS.l0 k (y116.set (x5 : Int).toNat (⟨(rd_T62 y116 x5).f0, (rd_T62 y116 x5).f1, bt118.2⟩ : S62)) bt118.1 (wrap64 (x5 + 1)))))) else (none)) else (some (x1, x0))) r) : Ev (fun k => laws_markChunkS.l0 k x0 x1 x5) r := Ev.step (fun k => by rw [laws_markChunkS.l0]) h
theorem st_spec_ApplyPatch_j0 {r : (List Int × Bool)} {x0 : List Int} {x1 : List (S62)} {x16 : Bool} (h : Ev (fun k => if x16 = true then (some (([] : List Int), false)) else (spec_ApplyPatch.l0 k x0 ([] : List Int) x1 (x1.length : Int) 0)) r) : Ev (fun k => spec_ApplyPatch.j0 k x0 x1 x16) r := Ev.step (fun k => by rw [spec_ApplyPatch.j0]) h
theorem st_spec_ApplyPatch_l0 {r : (List Int × Bool)} {x0 : List Int} {x6 : List Int} {x17 : List (S62)} {x18 : Int} {x19 : Int} (h : Ev (fun k => if x19 < x18 then (if 0 ≤ x19 then (if x19 < (x17.length : Int) then (if (((rd_T62 x17 x19).f2).length : Int) > 0 then (if ((rd_T62 x17 x19).f0) = 0 then (spec_ApplyPatch.j2 k x0 x6 x17 x18 x19 (((rd_T62 x17 x19).f1) != 0) ((rd_T62 x17 x19).f0) ((rd_T62 x17 x19).f1) ((rd_T62 x17 x19).f2)) else (spec_ApplyPatch.j2 k x0 x6 x17 x18 x19 true ((rd_T62 x17 x19).f0) ((rd_T62 x17 x19).f1) ((rd_T62 x17 x19).f2))) else (if ((rd_T62 x17 x19).f0) < 0 then (spec_ApplyPatch.j3 k x0 x6 x17 x18 x19 true ((rd_T62 x17 x19).f0) ((rd_T62 x17 x19).f1) ((rd_T62 x17 x19).f2)) else (if ((rd_T62 x17 x19).f1) < 1 then (spec_ApplyPatch.j3 k x0 x6 x17 x18 x19 true ((rd_T62 x17 x19).f0) ((rd_T62 x17 x19).f1) ((rd_T62 x17 x19).f2)) else (if ((rd_T62 x17 x19).f1) > (x0.length : Int) then (spec_ApplyPatch.j3 k x0 x6 x17 x18 x19 true ((rd_T62 x17 x19).f0) ((rd_T62 x17 x19).f1) ((rd_T62 x17 x19).f2)) else (spec_ApplyPatch.j3 k x0 x6 x17 x18 x19 (decide (((rd_T62 x17 x19).f0) > (wrap64 ((x0.length : Int) - ((rd_T62 x17 x19).f1))))) ((rd_T62 x17 x19).f0) ((rd_T62 x17 x19).f1) ((rd_T62 x17 x19).f2)))))) else (none)) else (none)) else (some (x6, true))) r) : Ev (fun k => spec_ApplyPatch.l0 k x0 x6 x17 x18 x19) r := Ev.step (fun k => by rw [spec_ApplyPatch.l0]) h
theorem st_spec_ApplyPatch_j2 {r : (List Int × Bool)} {x0 : List Int} {x6 : List Int} {x17 : List (S62)} {x18 : Int} {x19 : Int} {x34 : Bool} {x127000 : Int} {x127001 : Int} {x127002 : List Int} (h : Ev (fun k => if x34 = true then (some (([] : List Int), false)) else (if x6.length + x127002.length < 140737488355328 then ((some (x6 ++ x127002 : List Int)).bind fun y127 => (if (y127.length : Int) > 400 then (some (([] : List Int), false)) else (spec_ApplyPatch.l0 k x0 y127 x17 x18 (wrap64 (x19 + 1))))) else (none))) r) : Ev (fun k => spec_ApplyPatch.j2 k x0 x6 x17 x18 x19 x34 x127000 x127001 x127002) r := Ev.step (fun k => by rw [spec_ApplyPatch.j2]) h
theorem st_spec_ApplyPatch_j3 {r : (List Int × Bool)} {x0 : List Int} {x6 : List Int} {x17 : List (S62)} {x18 : Int} {x19 : Int} {x63 : Bool} {x127000 : Int} {x127001 : Int} {x127002 : List Int} (h : Ev (fun k => if x63 = true then (some (([] : List Int), false)) else (if 0 ≤ x127000 then (if x127000 ≤ (wrap64 (x127000 + x127001)) then (if (wrap64 (x127000 + x127001)) ≤ (x0.length : Int) then (if x6.length + ((x0.take ((wrap64 (x127000 + x127001)) : Int).toNat).drop (x127000 : Int).toNat).length < 140737488355328 then ((some (x6 ++ ((x0.take ((wrap64 (x127000 + x127001)) : Int).toNat).drop (x127000 : Int).toNat) : List Int)).bind fun y131 => (if (y131.length : Int) > 400 then (some (([] : List Int), false)) else (spec_ApplyPatch.l0 k x0 y131 x17 x18 (wrap64 (x19 + 1))))) else (none)) else (none)) else (none)) else (none))) r) : Ev (fun k => spec_ApplyPatch.j3 k x0 x6 x17 x18 x19 x63 x127000 x127001 x127002) r := Ev.step (fun k => by rw [spec_ApplyPatch.j3]) h
theorem st_impl_ApplyPatch_j0 {r : (List Int × Bool)} {x0 : List Int} {x1 : List (S62)} {x16 : Bool} (h : Ev (fun k => if x16 = true then (some (([] : List Int), false)) else (impl_ApplyPatch.l0 k x0 (([] : List Int)) x1 (x1.length : Int) 0)) r) : Ev (fun k => impl_ApplyPatch.j0 k x0 x1 x16) r := Ev.step (fun k => by rw [impl_ApplyPatch.j0]) h
theorem st_impl_ApplyPatch_l0 {r : (List Int × Bool)} {x0 : List Int} {x6 : List Int} {x18 : List (S62)} {x19 : Int} {x20 : Int} (h : Ev (fun k => if x20 < x19 then (if 0 ≤ x20 then (if x20 < (x18.length : Int) then (if (((rd_T62 x18 x20).f2).length : Int) > 0 then (if ((rd_T62 x18 x20).f0) = 0 then (impl_ApplyPatch.j2 k x0 x6 x18 x19 x20 (((rd_T62 x18 x20).f1) == 0) ((rd_T62 x18 x20).f0) ((rd_T62 x18 x20).f1) ((rd_T62 x18 x20).f2)) else (impl_ApplyPatch.j2 k x0 x6 x18 x19 x20 false ((rd_T62 x18 x20).f0) ((rd_T62 x18 x20).f1) ((rd_T62 x18 x20).f2))) else (impl_ApplyPatch.j2 k x0 x6 x18 x19 x20 false ((rd_T62 x18 x20).f0) ((rd_T62 x18 x20).f1) ((rd_T62 x18 x20).f2))) else (none)) else (none)) else ((bytes_Clone.f x6).bind fun t153 => (some (t153, true)))) r) : Ev (fun k => impl_ApplyPatch.l0 k x0 x6 x18 x19 x20) r := Ev.step (fun k => by rw [impl_ApplyPatch.l0]) h
theorem st_impl_ApplyPatch_j2 {r : (List Int × Bool)} {x0 : List Int} {x6 : List Int} {x18 : List (S62)} {x19 : Int} {x20 : Int} {x24 : Bool} {x158000 : Int} {x158001 : Int} {x158002 : List Int} (h : Ev (fun k => if x24 = true then (if x6.length + x158002.length < 140737488355328 then ((some (x6 ++ x158002 : List Int)).bind fun y158 => (if (y158.length : Int) > 400 then (some (([] : List Int), false)) else (impl_ApplyPatch.l0 k x0 y158 x18 x19 (wrap64 (x20 + 1))))) else (none)) else (if (x158002.length : Int) = 0 then ((impl_inRange.f x158000 0 (x0.length : Int)).bind fun t161 => (if t161 = true then ((impl_inRange.f x158001 1 (wrap64 ((x0.length : Int) - x158000))).bind fun t162 => (impl_ApplyPatch.j3 k x0 x6 x18 x19 x20 t162 x158000 x158001 x158002)) else (impl_ApplyPatch.j3 k x0 x6 x18 x19 x20 false x158000 x158001 x158002))) else (impl_ApplyPatch.j3 k x0 x6 x18 x19 x20 false x158000 x158001 x158002))) r) : Ev (fun k => impl_ApplyPatch.j2 k x0 x6 x18 x19 x20 x24 x158000 x158001 x158002) r := Ev.step (fun k => by rw [impl_ApplyPatch.j2]) h
theorem st_impl_ApplyPatch_j3 {r : (List Int × Bool)} {x0 : List Int} {x6 : List Int} {x18 : List (S62)} {x19 : Int} {x20 : Int} {x43 : Bool} {x158000 : Int} {x158001 : Int} {x158002 : List Int} (h : Ev (fun k => if x43 = true then (if 0 ≤ x158000 then (if x158000 ≤ (wrap64 (x158000 + x158001)) then (if (wrap64 (x158000 + x158001)) ≤ (x0.length : Int) then (if x6.length + ((x0.take ((wrap64 (x158000 + x158001)) : Int).toNat).drop (x158000 : Int).toNat).length < 140737488355328 then ((some (x6 ++ ((x0.take ((wrap64 (x158000 + x158001)) : Int).toNat).drop (x158000 : Int).toNat) : List Int)).bind fun y164 => (if (y164.length : Int) > 400 then (some (([] : List Int), false)) else (impl_ApplyPatch.l0 k x0 y164 x18 x19 (wrap64 (x20 + 1))))) else (none)) else (none)) else (none)) else (none)) else (some (([] : List Int), false))) r) : Ev (fun k => impl_ApplyPatch.j3 k x0 x6 x18 x19 x20 x43 x158000 x158001 x158002) r := Ev.step (fun k => by rw [impl_ApplyPatch.j3]) h
theorem st_laws_FnExactApplyPatch_j0 {r : (Bool)} {x0 : List Int} {x1 : List (S68)} {x6 : List Int} {x7 : Bool} {x8 : List Int} {x9 : List (S62)} {x10 : List Int} {x11 : Bool} {x51 : Bool} (h : Ev (fun k => if x51 = true then (some false) else ((laws_toByteS.f k x0).bind fun t190 => ((laws_eqByteS.f k x8 t190).bind fun t193 => (if t193 = true then ((laws_toChunkS.f k x1).bind fun t194 => ((laws_eqChunkS.f k x9 t194).bind fun t197 => (if t197 = true then ((laws_markByteS.f k x8 1).bind fun bt198 => ((laws_markChunkS.f k x9 bt198.1).bind fun bt200 => (if bt200.1 < 0 then (laws_FnExactApplyPatch.j1 k x0 x1 x6 x7 x10 true) else ((laws_eqByteS.f k x10 x6).bind fun t202 => (if t202 = true then (laws_FnExactApplyPatch.j1 k x0 x1 x6 x7 x10 (x11 != x7)) else (laws_FnExactApplyPatch.j1 k x0 x1 x6 x7 x10 true)))))) else (some false)))) else (some false))))) r) : Ev (fun k => laws_FnExactApplyPatch.j0 k x0 x1 x6 x7 x8 x9 x10 x11 x51) r := Ev.step (fun k => by rw [laws_FnExactApplyPatch.j0]) h
theorem st_laws_FnExactApplyPatch_j1 {r : (Bool)} {x0 : List Int} {x1 : List (S68)} {x6 : List Int} {x7 : Bool} {x10 : List Int} {x80 : Bool} (h : Ev (fun k => if x80 = true then (some false) else ((laws_markByteS.f k x10 1).bind fun bt203 => ((laws_heldByteS.f k bt203.2 1).bind fun t205 => (if t205 < 0 then (some false) else (if t205 = bt203.1 then ((laws_toByteS.f k x0).bind fun t206 => ((laws_toChunkS.f k x1).bind fun t209 => ((impl_ApplyPatch.f k t206 t209).bind fun bt212 => ((laws_eqByteS.f k bt212.1 x6).bind fun t216 => (if t216 = true then (laws_FnExactApplyPatch.j2 k bt203.2 bt203.1 (bt212.2 != x7)) else (laws_FnExactApplyPatch.j2 k bt203.2 bt203.1 true)))))) else (some false)))))) r) : Ev (fun k => laws_FnExactApplyPatch.j1 k x0 x1 x6 x7 x10 x80) r := Ev.step (fun k => by rw [laws_FnExactApplyPatch.j1]) h
theorem st_laws_FnExactApplyPatch_j2 {r : (Bool)} {x10 : List Int} {x13 : Int} {x108 : Bool} (h : Ev (fun k => if x108 = true then (some false) else ((laws_heldByteS.f k x10 1).bind fun t217 => (if t217 < 0 then (some false) else (if t217 = x13 then (some true) else (some false))))) r) : Ev (fun k => laws_FnExactApplyPatch.j2 k x10 x13 x108) r := Ev.step (fun k => by rw [laws_FnExactApplyPatch.j2]) h
theorem toByteS_ev (xs : List Int) (h : xs.length ≤ 1048576) : Ev (fun k => laws_toByteS.f k xs) xs := by
  refine ev_pos (by omega) (ev_pos (by omega) ?_)
  have := ev_copy laws_toByteS.l0 (fun _ xs i => some (rd xs i)) id (fun _ _ _ _ => rfl) xs (by omega) (fun i hi => ev_some (rd_get hi)) (List.replicate (((xs.length : Int) : Int).toNat) 0) (by simp)
  rwa [List.map_id] at this
theorem eqByteS_ev (xs : List Int) (h : xs.length ≤ 1048576) : Ev (fun k => laws_eqByteS.f k xs xs) true := by
  refine ev_pos rfl ?_
  refine ev_for1 xs.length (fun k i (_ : Unit) => laws_eqByteS.l0 k xs xs (i : Int)) (fun _ _ => True) true ?_ ?_ 0 () (Nat.zero_le _) trivial
  · intro _ _
    exact Ev.step (fun _ => rfl) (ev_neg (by omega) (ev_some rfl))
  · intro i _ hi _
    refine .inr ⟨(), trivial, fun r hr => Ev.step (fun _ => rfl) (ev_pos (by omega) (ev_pos (by omega) (ev_pos (by omega) ?_)))⟩
    rw [w64s i (by have := h; omega)]
    exact ev_pos rfl hr
def Fit62 (x : S62) : Prop := (x.f2.length ≤ 1048576)
theorem eqChunk_ev (a0 : Int) (a1 : Int) (l2 : List Int) (hl2 : l2.length ≤ 1048576) : Ev (fun k => laws_eqChunk.f k a0 a1 l2 a0 a1 l2) true := by
  unfold laws_eqChunk.f
  repeat (first | exact ev_some rfl | refine Ev.bind (eqByteS_ev l2 hl2) ?_ | refine ev_pos rfl ?_ | refine ev_neg (by simp) ?_)
theorem eqChunkS_ev (xs : List S62) (h : (xs.length ≤ 1048576 ∧ ∀ y ∈ xs, Fit62 y)) : Ev (fun k => laws_eqChunkS.f k xs xs) true := by
  refine ev_pos rfl (ev_alike_self laws_eqChunkS.l0 (fun k xs ys i => laws_eqChunk.f k ((rd_T62 xs i).f0) ((rd_T62 xs i).f1) ((rd_T62 xs i).f2) ((rd_T62 ys i).f0) ((rd_T62 ys i).f1) ((rd_T62 ys i).f2)) (fun _ _ _ _ => rfl) xs (by have := h.1; omega) (fun i hi => ?_))
  · have e : rd_T62 xs (i : Int) = xs[i] := getD_get hi
    rw [e]
    obtain hf0 := h.2 _ (List.getElem_mem hi)
    exact eqChunk_ev _ _ _ hf0
def MarkByteS (x : Int) (c d : Int) : Prop := x = (c) % 256 ∧ d = c + 1
theorem markByteS_ev (xs : List Int) (hl : xs.length ≤ 1048576) (c : Int) (hc0 : 0 ≤ c) (hc1 : c ≤ 1152921504606846976) :
    ∃ ys d, Chain MarkByteS ys c d ∧ c ≤ d ∧ d ≤ c + 1 * xs.length ∧ ys.length = xs.length ∧ Ev (fun k => laws_markByteS.f k xs c) (d, ys) := by
  refine ev_mark (fun k zs c i => laws_markByteS.l0 k zs c (i : Int)) MarkByteS (fun _ => True) 1 (by omega) (by omega) ?_ ?_ xs (fun _ _ => trivial) hl c hc0 hc1
  · intro zs c
    exact Ev.step (fun _ => rfl) (ev_neg (by omega) (ev_some rfl))
  · intro zs c i hi h20 _ h0 h1
    refine ⟨_, _, ⟨rfl, rfl⟩, by omega, by omega, fun r hr => Ev.step (fun _ => rfl) (ev_pos (by omega) (ev_pos (by omega) ?_))⟩
    simp only [Int.toNat_natCast, w64s i (by omega), w64 (n := c + 1) (by omega) (by omega)]
    exact hr
theorem szByteS_some (xs : List Int) (g : xs.length * 1 ≤ 140737488351232 ∧ ∀ y ∈ xs, InU8 y) (left : Int) (h0 : 0 ≤ left) (h1 : left ≤ 1048576) : ∃ r, Ev (fun _ => laws_szByteS.f xs left) r ∧ (r < 0 ∨ 0 ≤ r ∧ r ≤ left ∧ xs.length ≤ 1048576) := by
  have g1 := g.1
  unfold laws_szByteS.f
  rw [w64 (n := left - (xs.length : Int)) (by omega) (by omega)]
  refine exev_ite (fun _ => exev_some (.inl (by omega))) fun hc => ?_
  exact exev_some (.inr ⟨by omega, by omega, by omega⟩)
def Fit68 (x : S68) : Prop := (x.f2.length ≤ 1048576)
theorem szChunk_some (a0 : Int) (a1 : Int) (l2 : List Int) (ga0 : In64 a0) (ga1 : In64 a1) (gl2 : l2.length * 1 ≤ 140737488351232 ∧ ∀ y ∈ l2, InU8 y) (left : Int) (h0 : 0 ≤ left) (h1 : left ≤ 1048576) : ∃ r, Ev (fun _ => laws_szChunk.f a0 a1 l2 left) r ∧ (r < 0 ∨ 0 ≤ r ∧ r ≤ left ∧ (l2.length ≤ 1048576)) := by
  unfold laws_szChunk.f
  obtain ⟨r0, hr0, hq0⟩ := szByteS_some l2 gl2 (left) (by omega) (by omega)
  refine exev_bind hr0 (exev_ite (fun _ => exev_some (.inl (by omega))) fun c0 => ?_)
  rcases hq0 with hq0 | ⟨u0, v0, w0⟩
  · omega
  exact exev_some (.inr ⟨by omega, by omega, w0⟩)
theorem szChunkS_some (xs : List S68) (g : xs.length * 40 ≤ 140737488351232 ∧ ∀ y ∈ xs, Ok68 y) (left : Int) (h0 : 0 ≤ left) (h1 : left ≤ 1048576) : ∃ r, Ev (fun k => laws_szChunkS.f k xs left) r ∧ (r < 0 ∨ 0 ≤ r ∧ r ≤ left ∧ (xs.length ≤ 1048576 ∧ ∀ y ∈ xs, Fit68 y)) := by
  have g1 := g.1
  unfold laws_szChunkS.f
  rw [w64 (n := left - (xs.length : Int)) (by omega) (by omega)]
  refine exev_ite (fun _ => exev_some (.inl (by omega))) fun hc => ?_
  have he : ∀ i : Nat, ∀ hi : i < xs.length, ∀ c : Int, 0 ≤ c → c ≤ left - (xs.length : Int) → ∃ r, Ev (fun k => laws_szChunk.f ((rd_T68 xs (i : Int)).f0) ((rd_T68 xs (i : Int)).f1) ((rd_T68 xs (i : Int)).f2) c) r ∧ (r < 0 ∨ 0 ≤ r ∧ r ≤ c ∧ Fit68 xs[i]) := by
    intro i hi c h0 h1
    have e : rd_T68 xs (i : Int) = xs[i] := getD_get hi
    rw [e]
    have gx := g.2 _ (List.getElem_mem hi)
    obtain ⟨r, hr, hq⟩ := szChunk_some _ _ _ (gx.1) (gx.2.1) (gx.2.2) c h0 (by omega)
    exact ⟨r, hr, hq⟩
  obtain ⟨r, hr, hq⟩ := ev_size laws_szChunkS.l0 (fun _ xs c i => laws_szChunk.f ((rd_T68 xs i).f0) ((rd_T68 xs i).f1) ((rd_T68 xs i).f2) c) (fun y => Fit68 y) (fun _ _ _ _ => rfl) xs (by omega) (left - (xs.length : Int)) (by omega) he
  refine ⟨r, hr, ?_⟩
  rcases hq with hq | ⟨q0, q1, q2⟩
  · exact .inl hq
  · exact .inr ⟨q0, by omega, by omega, q2⟩
def cv68 (x : S68) : S62 := ⟨x.f0, x.f1, x.f2⟩
theorem fit_cv68 {x : S68} (h : Fit68 x) : Fit62 (cv68 x) := by
  have h0 := h
  exact h0
theorem toChunk_ev (a0 : Int) (a1 : Int) (l2 : List Int) (hl2 : l2.length ≤ 1048576) : Ev (fun k => laws_toChunk.f k a0 a1 l2) (a0, a1, l2) := by
  unfold laws_toChunk.f
  repeat (first | exact ev_some rfl | refine Ev.bind (toByteS_ev _ hl2) ?_ | refine ev_bindc rfl ?_)
theorem toChunkS_ev (xs : List S68) (h : (xs.length ≤ 1048576 ∧ ∀ y ∈ xs, Fit68 y)) : Ev (fun k => laws_toChunkS.f k xs) (xs.map cv68) := by
  refine ev_pos (by omega) (ev_pos (by have := h.1; omega) ?_)
  refine ev_copy2 laws_toChunkS.l0 (fun k xs i => laws_toChunk.f k ((rd_T68 xs i).f0) ((rd_T68 xs i).f1) ((rd_T68 xs i).f2)) (fun t => (⟨t.1, t.2.1, t.2.2⟩ : S62)) cv68 (fun _ _ _ _ => rfl) xs (by have := h.1; omega) (fun i hi => ?_) _ (by simp)
  · have e : rd_T68 xs (i : Int) = xs[i] := getD_get hi
    rw [e]
    obtain hf0 := h.2 _ (List.getElem_mem hi)
    exact ⟨_, toChunk_ev _ _ _ hf0, rfl⟩
theorem heldByteS_ev (ys : List Int) (hl : ys.length ≤ 1048576) (c d : Int) (hc : 0 ≤ c) (hd : d ≤ 2305843009213693952) (h : Chain MarkByteS ys c d) : Ev (fun k => laws_heldByteS.f k ys c) d := by
  refine ev_held (fun k zs c i => laws_heldByteS.l0 k zs c (i : Int)) MarkByteS (fun x c d h => by have := h.2; omega) ?_ ?_ ys hl c d hc hd h
  · intro zs c
    exact Ev.step (fun _ => rfl) (ev_neg (by omega) (ev_some rfl))
  · intro zs c c' i hi h20 hE h0 h1 r hr
    obtain ⟨hx, rfl⟩ := hE
    have hg : rd zs (i : Int) = (c) % 256 := (rd_get hi).trans hx
    refine Ev.step (fun _ => rfl) (ev_pos (by omega) (ev_pos (by omega) ?_))
    rw [hg]
    simp only [w64s i (by omega), w64 (n := c + 1) (by omega) (by omega)]
    exact ev_pos (by trivial) (hr)
theorem range_ev (a lo hi : Int) : impl_inRange.f a lo hi = some (decide (lo ≤ a ∧ a ≤ hi)) := by
  unfold impl_inRange.f
  by_cases h : lo ≤ a
  · rw [if_pos h]; simp [h]
  · rw [if_neg h]; simp [h]
theorem patch_loop (old : List Int) (ho : old.length ≤ 400) (l : List S62) (hl : l.length ≤ 400) (hx : ∀ y ∈ l, y.f2.length ≤ 1048576) :
    ∀ n i out, i + n = l.length → out.length ≤ 400 → ∃ res b, Ev (fun k => spec_ApplyPatch.l0 k old out l (l.length : Int) (i : Int)) (res, b) ∧ Ev (fun k => impl_ApplyPatch.l0 k old out l (l.length : Int) (i : Int)) (res, b) ∧ res.length ≤ 400 := by
  intro n
  induction n with
  | zero =>
    intro i out hi hu
    obtain rfl : i = l.length := by omega
    exact ⟨out, true, st_spec_ApplyPatch_l0 (ev_neg (by omega) (ev_some rfl)), st_impl_ApplyPatch_l0 (ev_neg (by omega) (ev_bindc (a := out) (if_pos (by omega)) (ev_some rfl))), hu⟩
  | succ n ih =>
    intro i out hi hu
    have hil : i < l.length := by omega
    have hd : (rd_T62 l (i : Int)).f2.length ≤ 1048576 := by
      have e : rd_T62 l (i : Int) = l[i] := getD_get hil
      rw [e]
      exact hx _ (List.getElem_mem _)
    obtain ⟨f, m, d, hc⟩ : ∃ f m d, rd_T62 l (i : Int) = ⟨f, m, d⟩ := ⟨_, _, _, rfl⟩
    rw [hc] at hd
    have hd : d.length ≤ 1048576 := hd
    have next : ∀ y : List Int, y.length ≤ 400 → ∃ res b, Ev (fun k => spec_ApplyPatch.l0 k old y l (l.length : Int) (wrap64 ((i : Int) + 1))) (res, b) ∧ Ev (fun k => impl_ApplyPatch.l0 k old y l (l.length : Int) (wrap64 ((i : Int) + 1))) (res, b) ∧ res.length ≤ 400 := by
      intro y hy
      rw [w64s i (by omega)]
      exact ih (i + 1) y (by omega) hy
    have fin : ∀ y : List Int, ∃ res b, Ev (fun k => if (y.length : Int) > 400 then some (([] : List Int), false) else spec_ApplyPatch.l0 k old y l (l.length : Int) (wrap64 ((i : Int) + 1))) (res, b) ∧ Ev (fun k => if (y.length : Int) > 400 then some (([] : List Int), false) else impl_ApplyPatch.l0 k old y l (l.length : Int) (wrap64 ((i : Int) + 1))) (res, b) ∧ res.length ≤ 400 := by
      intro y
      by_cases h : (y.length : Int) > 400
      · exact ⟨[], false, ev_pos h (ev_some rfl), ev_pos h (ev_some rfl), by simp⟩
      · obtain ⟨res, b, h1, h2, h3⟩ := next y (by omega)
        exact ⟨res, b, ev_neg h h1, ev_neg h h2, h3⟩
    have s0 : ∀ r, Ev (fun k => (if ((d.length : Nat) : Int) > 0 then (if f = 0 then (spec_ApplyPatch.j2 k old out l (l.length : Int) (i : Int) (m != 0) f m d) else (spec_ApplyPatch.j2 k old out l (l.length : Int) (i : Int) true f m d)) else (if f < 0 then (spec_ApplyPatch.j3 k old out l (l.length : Int) (i : Int) true f m d) else (if m < 1 then (spec_ApplyPatch.j3 k old out l (l.length : Int) (i : Int) true f m d) else (if m > (old.length : Int) then (spec_ApplyPatch.j3 k old out l (l.length : Int) (i : Int) true f m d) else (spec_ApplyPatch.j3 k old out l (l.length : Int) (i : Int) (decide (f > (wrap64 ((old.length : Int) - m)))) f m d)))))) r → Ev (fun k => spec_ApplyPatch.l0 k old out l (l.length : Int) (i : Int)) r := by
      intro r h
      refine st_spec_ApplyPatch_l0 (ev_pos (by omega) (ev_pos (by omega) (ev_pos (by omega) ?_)))
      simp only [hc]
      exact h
    have i0 : ∀ r, Ev (fun k => (if ((d.length : Nat) : Int) > 0 then (if f = 0 then (impl_ApplyPatch.j2 k old out l (l.length : Int) (i : Int) (m == 0) f m d) else (impl_ApplyPatch.j2 k old out l (l.length : Int) (i : Int) false f m d)) else (impl_ApplyPatch.j2 k old out l (l.length : Int) (i : Int) false f m d))) r → Ev (fun k => impl_ApplyPatch.l0 k old out l (l.length : Int) (i : Int)) r := by
      intro r h
      refine st_impl_ApplyPatch_l0 (ev_pos (by omega) (ev_pos (by omega) (ev_pos (by omega) ?_)))
      simp only [hc]
      exact h
    have sno2 : Ev (fun k => spec_ApplyPatch.j2 k old out l (l.length : Int) (i : Int) true f m d) ([], false) := st_spec_ApplyPatch_j2 (ev_pos rfl (ev_some rfl))
    have sno3 : Ev (fun k => spec_ApplyPatch.j3 k old out l (l.length : Int) (i : Int) true f m d) ([], false) := st_spec_ApplyPatch_j3 (ev_pos rfl (ev_some rfl))
    have ino3 : Ev (fun k => impl_ApplyPatch.j3 k old out l (l.length : Int) (i : Int) false f m d) ([], false) := st_impl_ApplyPatch_j3 (ev_neg (by decide) (ev_some rfl))
    by_cases hp : ((d.length : Nat) : Int) > 0
    · have ino2 : Ev (fun k => impl_ApplyPatch.j2 k old out l (l.length : Int) (i : Int) false f m d) ([], false) := st_impl_ApplyPatch_j2 (ev_neg (by decide) (ev_neg (by omega) ino3))
      by_cases hf : f = 0
      · by_cases hm : m = 0
        · have e1 : (m != 0) = false := by simp [hm]
          have e2 : (m == 0) = true := by simp [hm]
          obtain ⟨res, b, h1, h2, h3⟩ := fin (out ++ d)
          refine ⟨res, b, s0 _ (ev_pos hp (ev_pos hf ?_)), i0 _ (ev_pos hp (ev_pos hf ?_)), h3⟩
          · rw [e1]; exact st_spec_ApplyPatch_j2 (ev_neg (by decide) (ev_pos (by omega) (ev_bindc rfl h1)))
          · rw [e2]; exact st_impl_ApplyPatch_j2 (ev_pos rfl (ev_pos (by omega) (ev_bindc rfl h2)))
        · have e1 : (m != 0) = true := by simp [hm]
          have e2 : (m == 0) = false := by simp [hm]
          refine ⟨[], false, s0 _ (ev_pos hp (ev_pos hf ?_)), i0 _ (ev_pos hp (ev_pos hf ?_)), by simp⟩
          · rw [e1]; exact sno2
          · rw [e2]; exact ino2
      · exact ⟨[], false, s0 _ (ev_pos hp (ev_neg hf sno2)), i0 _ (ev_pos hp (ev_neg hf ino2)), by simp⟩
    · have hz : ((d.length : Nat) : Int) = 0 := by omega
      by_cases g : 0 ≤ f ∧ 1 ≤ m ∧ f + m ≤ (old.length : Int)
      · obtain ⟨g0, g1, g2⟩ := g
        have ew : wrap64 (f + m) = f + m := w64 (by omega) (by omega)
        have ew2 : wrap64 ((old.length : Int) - m) = (old.length : Int) - m := w64 (by omega) (by omega)
        have ew3 : wrap64 ((old.length : Int) - f) = (old.length : Int) - f := w64 (by omega) (by omega)
        obtain ⟨cut, hcut⟩ : ∃ cut, cut = ((old.take ((wrap64 (f + m)) : Int).toNat).drop (f : Int).toNat) := ⟨_, rfl⟩
        have hcl : cut.length ≤ 400 := by rw [hcut, List.length_drop, List.length_take]; omega
        obtain ⟨res, b, h1, h2, h3⟩ := fin (out ++ cut)
        refine ⟨res, b, s0 _ (ev_neg hp (ev_neg (by omega) (ev_neg (by omega) (ev_neg (by omega) ?_)))), i0 _ (ev_neg hp (st_impl_ApplyPatch_j2 (ev_neg (by decide) (ev_pos hz (ev_bindc (range_ev _ _ _) (ev_pos (decide_eq_true (by omega)) (ev_bindc (range_ev _ _ _) ?_))))))), h3⟩
        · rw [show decide (f > wrap64 ((old.length : Int) - m)) = false from decide_eq_false (by omega)]
          refine st_spec_ApplyPatch_j3 (ev_neg (by decide) (ev_pos g0 (ev_pos (by omega) (ev_pos (by omega) ?_))))
          rw [← hcut]
          exact ev_pos (by omega) (ev_bindc rfl h1)
        · rw [show decide (1 ≤ m ∧ m ≤ wrap64 ((old.length : Int) - f)) = true from decide_eq_true (by omega)]
          refine st_impl_ApplyPatch_j3 (ev_pos rfl (ev_pos g0 (ev_pos (by omega) (ev_pos (by omega) ?_))))
          rw [← hcut]
          exact ev_pos (by omega) (ev_bindc rfl h2)
      · refine ⟨[], false, s0 _ (ev_neg hp (ev_ite (fun _ => sno3) fun h1 => ev_ite (fun _ => sno3) fun h2 => ev_ite (fun _ => sno3) fun h3 => ?_)), i0 _ (ev_neg hp (st_impl_ApplyPatch_j2 (ev_neg (by decide) (ev_pos hz (ev_bindc (range_ev _ _ _) (ev_ite (fun h1 => ev_bindc (range_ev _ _ _) ?_) fun _ => ino3)))))), by simp⟩
        · have ew2 : wrap64 ((old.length : Int) - m) = (old.length : Int) - m := w64 (by omega) (by omega)
          rw [show decide (f > wrap64 ((old.length : Int) - m)) = true from decide_eq_true (by omega)]
          exact sno3
        · have h1 := of_decide_eq_true h1
          have ew3 : wrap64 ((old.length : Int) - f) = (old.length : Int) - f := w64 (by omega) (by omega)
          rw [show decide (1 ≤ m ∧ m ≤ wrap64 ((old.length : Int) - f)) = false from decide_eq_false (by omega)]
          exact ino3
theorem patch_same (old : List Int) (l : List S62) (hx : ∀ y ∈ l, y.f2.length ≤ 1048576) :
    ∃ res b, Ev (fun k => spec_ApplyPatch.f k old l) (res, b) ∧ Ev (fun k => impl_ApplyPatch.f k old l) (res, b) ∧ res.length ≤ 400 := by
  by_cases h : (old.length : Int) > 400
  · exact ⟨[], false, ev_pos h (st_spec_ApplyPatch_j0 (ev_pos rfl (ev_some rfl))), ev_pos h (st_impl_ApplyPatch_j0 (ev_pos rfl (ev_some rfl))), by simp⟩
  · by_cases h2 : (l.length : Int) > 400
    · refine ⟨[], false, ev_neg h ?_, ev_neg h ?_, by simp⟩
      · rw [decide_eq_true h2]; exact st_spec_ApplyPatch_j0 (ev_pos rfl (ev_some rfl))
      · rw [decide_eq_true h2]; exact st_impl_ApplyPatch_j0 (ev_pos rfl (ev_some rfl))
    · obtain ⟨res, b, h3, h4, h5⟩ := patch_loop old (by omega) l (by omega) hx l.length 0 [] (by omega) (by simp)
      refine ⟨res, b, ev_neg h ?_, ev_neg h ?_, h5⟩
      · rw [decide_eq_false h2]; exact st_spec_ApplyPatch_j0 (ev_neg (by decide) h3)
      · rw [decide_eq_false h2]; exact st_impl_ApplyPatch_j0 (ev_neg (by decide) h4)
theorem rd_set_self (l : List S62) (i : Nat) (v : S62) (h : i < l.length) : rd_T62 (l.set ((i : Int)).toNat v) (i : Int) = v := by
  simp [rd_T62, List.getD_eq_getElem?_getD, List.getElem?_set_self, h]
theorem markChunkS_ev (l : List S62) (hx : l.length ≤ 1048576 ∧ ∀ y ∈ l, Fit62 y) (c0 : Int) (hc0 : 0 ≤ c0) (hc1 : c0 ≤ 2097152) : ∃ p, Ev (fun k => laws_markChunkS.f k l c0) p ∧ 0 ≤ p.1 := by
  refine ev_for l.length (fun k i (s : List S62 × Int) => laws_markChunkS.l0 k s.1 s.2 (i : Int)) (fun i s => s.1.length = l.length ∧ (∀ j, i ≤ j → j < l.length → s.1[j]? = l[j]?) ∧ 0 ≤ s.2 ∧ s.2 ≤ c0 + 2097152 * (i : Int)) (fun p => 0 ≤ p.1) ?_ ?_ 0 (l, c0) (Nat.zero_le _) ⟨rfl, fun _ _ _ => rfl, hc0, by show c0 ≤ _; omega⟩
  · rintro ⟨zs, c⟩ ⟨h1, _, h3, _⟩
    exact ⟨_, st_laws_markChunkS_l0 (ev_neg (by show ¬ (l.length : Int) < (zs.length : Int); have : zs.length = l.length := h1; omega) (ev_some rfl)), h3⟩
  · rintro i ⟨zs, c⟩ hi ⟨h1, h2, h3, h4⟩
    have h1 : zs.length = l.length := h1
    have h3 : 0 ≤ c := h3
    have h4 : c ≤ c0 + 2097152 * (i : Int) := h4
    have hl := hx.1
    have hz : rd_T62 zs (i : Int) = l[i] := by
      have e : rd_T62 zs (i : Int) = zs[i] := getD_get (by omega)
      have h5 := h2 i (Nat.le_refl _) hi
      rw [List.getElem?_eq_getElem (by omega), List.getElem?_eq_getElem hi] at h5
      rw [e]; exact Option.some.inj h5
    have f2 : l[i].f2.length ≤ 1048576 := hx.2 _ (List.getElem_mem hi)
    obtain ⟨ys2, d2, _, q1, q2, q3, q4⟩ := markByteS_ev l[i].f2 f2 (c + 2) (by omega) (by omega)
    refine .inr ⟨(((zs.set ((i : Int)).toNat ⟨c, l[i].f1, l[i].f2⟩).set ((i : Int)).toNat ⟨c, c + 1, l[i].f2⟩).set ((i : Int)).toNat ⟨c, c + 1, ys2⟩, d2), ⟨by simp; exact h1, fun j hj hj2 => ?_, by show 0 ≤ d2; omega, by show d2 ≤ _; omega⟩, fun r hr => ?_⟩
    · have hj' : i ≠ j := by omega
      simp only [Int.toNat_natCast]
      rw [List.getElem?_set_ne hj', List.getElem?_set_ne hj', List.getElem?_set_ne hj']
      exact h2 j (by omega) hj2
    · refine st_laws_markChunkS_l0 (ev_pos (by omega) (ev_pos (by omega) (ev_bindc rfl (ev_bindc rfl ?_))))
      have ew : wrap64 (c + 1) = c + 1 := w64 (by omega) (by omega)
      have ew2 : wrap64 (c + 1 + 1) = c + 2 := by rw [show c + 1 + 1 = c + 2 by omega]; exact w64 (by omega) (by omega)
      have e1 : ∀ v, rd_T62 (zs.set ((i : Int)).toNat v) (i : Int) = v := fun v => rd_set_self zs i v (by omega)
      have e2 : ∀ v v', rd_T62 ((zs.set ((i : Int)).toNat v).set ((i : Int)).toNat v') (i : Int) = v' := fun v v' => rd_set_self _ i v' (by rw [List.length_set]; omega)
      simp only [hz, e1, e2, ew, ew2]
      refine Ev.bind q4 ?_
      rw [w64s i (by omega)]
      exact hr
theorem FnExactApplyPatch : ∀ (l0 : List (Int)) (l1 : List (S68)), (l0.length * 1 ≤ 140737488351232 ∧ ∀ y ∈ l0, InU8 y) → (l1.length * 40 ≤ 140737488351232 ∧ ∀ y ∈ l1, Ok68 y) → ∃ k, laws_FnExactApplyPatch.f k l0 l1 = some true := by
  intro old xs _ gl
  refine Ev.rounds (g := fun k => laws_FnExactApplyPatch.f k old xs) ?_
  refine ev_ite (fun _ => ev_some rfl) fun hol => ?_
  have hol : old.length ≤ 1048576 := by omega
  obtain ⟨r, hr, h | ⟨h0, h1, hx⟩⟩ := szChunkS_some xs gl 1048576 (by omega) (by omega)
  · exact Ev.bind hr (ev_pos h (ev_some rfl))
  · have tx := toChunkS_ev xs hx
    have tb := toByteS_ev old hol
    have hx' : (xs.map cv68).length ≤ 1048576 ∧ ∀ y ∈ xs.map cv68, Fit62 y := ⟨by rw [List.length_map]; exact hx.1, fun y hy => by obtain ⟨z, hz, rfl⟩ := List.mem_map.1 hy; exact fit_cv68 (hx.2 z hz)⟩
    obtain ⟨res, b, hs, hi, hl⟩ := patch_same old (xs.map cv68) (fun y hy => hx'.2 y hy)
    have ee := eqByteS_ev res (by omega)
    have eo := eqByteS_ev old hol
    obtain ⟨y1, d1, _, p0, p1, p2, hm0⟩ := markByteS_ev old hol 1 (by omega) (by omega)
    obtain ⟨p, hm1, hp0⟩ := markChunkS_ev (xs.map cv68) hx' d1 (by omega) (by omega)
    obtain ⟨y2, d2, hch, q0, q1, ml, hm2⟩ := markByteS_ev res (by omega) 1 (by omega) (by omega)
    have hh := heldByteS_ev y2 (by omega) 1 d2 (by omega) (by omega) hch
    have eb : (b != b) = false := by simp
    refine Ev.bind hr (ev_neg (by omega) (Ev.bind tb (Ev.bind tx (Ev.bind hs (Ev.bind tb (Ev.bind tx (Ev.bind hi (Ev.bind ee (ev_pos rfl ?_)))))))))
    simp only [eb]
    refine st_laws_FnExactApplyPatch_j0 (ev_neg (by decide) (Ev.bind tb (Ev.bind eo (ev_pos rfl (Ev.bind tx (Ev.bind (eqChunkS_ev _ hx') (ev_pos rfl (Ev.bind hm0 (Ev.bind hm1 (ev_neg (by omega) (Ev.bind ee (ev_pos rfl ?_))))))))))))
    simp only [eb]
    refine st_laws_FnExactApplyPatch_j1 (ev_neg (by decide) (Ev.bind hm2 (Ev.bind hh (ev_neg (by omega) (ev_pos rfl (Ev.bind tb (Ev.bind tx (Ev.bind hi (Ev.bind ee (ev_pos rfl ?_))))))))))
    simp only [eb]
    exact st_laws_FnExactApplyPatch_j2 (ev_neg (by decide) (Ev.bind hh (ev_neg (by omega) (ev_pos rfl (ev_some rfl)))))
end Go.Proofs.Ytcpodjegdpbalaa.Pure
