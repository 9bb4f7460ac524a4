/- Texts of the row of the law FnExactWriteSave, laid together. -/
import Derived.Test.YtadabmnmnjicoaaZFnExactWriteSave1
import Derived.Test.YtadabmnmnjicoaaZFnExactWriteSave2
import Derived.Test.YtadabmnmnjicoaaZFnExactWriteSave0
import Derived.SizedLaws
import Derived.ChangeArms
import Derived.OpenShut
import Derived.WideShapes
import Derived.WalkKit
import Derived.KernelRfl
import Derived.Laws.BitsLemmas
namespace Go.Proofs.Ytadabmnmnjicoaa.PFnExactWriteSave
open Go.RowKit Go.Proofs.YtadabmnmnjicoaaW.PrintWords Go.Proofs.YtadabmnmnjicoaaW.PrintLast Go.Proofs.YtadabmnmnjicoaaW.PrintMore
attribute [local go_sem] max2_int min2_int max_two min_two max_three min_three max_four min_four   -- for this text's walks alone
set_option linter.unusedVariables false
set_option linter.unusedSimpArgs false
mutual
def laws_FnExactWriteSave.j0 : Nat → Int → List (S36) → List Int → Bool → List (S39) → List Int → Bool → Bool → Option (Bool)
 | 0, _, _, _, _, _, _, _, _ => none
 | k + 1, x0, x1, x6, x7, x8, x9, x10, x44 => if x44 = true then (some false) else ((laws_toValueS.f k x1).bind fun t231 => ((laws_eqValueS.f k x8 t231).bind fun t234 => (if t234 = true then ((laws_markValueS.f k x8 1).bind fun bt235 => (if bt235.1 < 0 then (laws_FnExactWriteSave.j1 k x0 x1 x6 x7 x9 true) else ((laws_eqByteS.f k x9 x6).bind fun t237 => (if t237 = true then (laws_FnExactWriteSave.j1 k x0 x1 x6 x7 x9 (x10 != x7)) else (laws_FnExactWriteSave.j1 k x0 x1 x6 x7 x9 true))))) else (some false))))
def laws_FnExactWriteSave.j1 : Nat → Int → List (S36) → List Int → Bool → List Int → Bool → Option (Bool)
 | 0, _, _, _, _, _, _ => none
 | k + 1, x0, x1, x6, x7, x9, x65 => if x65 = true then (some false) else ((laws_markByteS.f k x9 1).bind fun bt238 => ((laws_heldByteS.f k bt238.2 1).bind fun t240 => (if t240 < 0 then (some false) else (if t240 = bt238.1 then ((laws_toValueS.f k x1).bind fun t241 => ((impl_WriteSave.f k x0 t241).bind fun bt244 => ((laws_eqByteS.f k bt244.1 x6).bind fun t248 => (if t248 = true then (laws_FnExactWriteSave.j2 k bt238.2 bt238.1 (bt244.2 != x7)) else (laws_FnExactWriteSave.j2 k bt238.2 bt238.1 true))))) else (some false)))))
def laws_FnExactWriteSave.j2 : Nat → List Int → Int → Bool → Option (Bool)
 | 0, _, _, _ => none
 | k + 1, x9, x12, x92 => if x92 = true then (some false) else ((laws_heldByteS.f k x9 1).bind fun t249 => (if t249 < 0 then (some false) else (if t249 = x12 then (some true) else (some false))))
end
def laws_FnExactWriteSave.f (k : Nat) (a0 : Int) (l1 : List (S36)) : Option (Bool) := (laws_szValueS.f k l1 1048576).bind fun t215 => (if t215 < 0 then (some true) else ((laws_toValueS.f k l1).bind fun t216 => ((spec_WriteSave.f k a0 t216).bind fun bt219 => ((laws_toValueS.f k l1).bind fun t223 => ((impl_WriteSave.f k a0 t223).bind fun bt226 => ((laws_eqByteS.f k bt226.1 bt219.1).bind fun t230 => (if t230 = true then (laws_FnExactWriteSave.j0 k a0 l1 bt219.1 bt219.2 t223 bt226.1 bt226.2 (bt226.2 != bt219.2)) else (laws_FnExactWriteSave.j0 k a0 l1 bt219.1 bt219.2 t223 bt226.1 bt226.2 true))))))))
theorem laws_FnExactWriteSave.mono_l : ∀ k, (∀ y0 y1 y2 y3 y4 y5 y6 y7, LeO (laws_FnExactWriteSave.j0 k y0 y1 y2 y3 y4 y5 y6 y7) (laws_FnExactWriteSave.j0 (k + 1) y0 y1 y2 y3 y4 y5 y6 y7)) ∧ (∀ y0 y1 y2 y3 y4 y5, LeO (laws_FnExactWriteSave.j1 k y0 y1 y2 y3 y4 y5) (laws_FnExactWriteSave.j1 (k + 1) y0 y1 y2 y3 y4 y5)) ∧ (∀ y0 y1 y2, LeO (laws_FnExactWriteSave.j2 k y0 y1 y2) (laws_FnExactWriteSave.j2 (k + 1) y0 y1 y2))
 | 0 => ⟨fun _ _ _ _ _ _ _ _ r h => by simp [laws_FnExactWriteSave.j0] at h, fun _ _ _ _ _ _ r h => by simp [laws_FnExactWriteSave.j1] at h, fun _ _ _ r h => by simp [laws_FnExactWriteSave.j2] at h⟩
 | k + 1 => by
  obtain ⟨ih0, ih1, ih2⟩ := laws_FnExactWriteSave.mono_l k
  refine ⟨?_, ?_, ?_⟩
  ·intro y0 y1 y2 y3 y4 y5 y6 y7
   unfold laws_FnExactWriteSave.j0
   repeat' first
   | (with_reducible exact ih0 _ _ _ _ _ _ _ _)
   | (with_reducible exact ih1 _ _ _ _ _ _)
   | (with_reducible exact ih2 _ _ _)
   | (with_reducible exact impl_WriteSave.mono _ _ _)
   | (with_reducible exact laws_eqByteS.mono _ _ _)
   | (with_reducible exact laws_eqValueS.mono _ _ _)
   | (with_reducible exact laws_heldByteS.mono _ _ _)
   | (with_reducible exact laws_markByteS.mono _ _ _)
   | (with_reducible exact laws_markValueS.mono _ _ _)
   | (with_reducible exact laws_szValueS.mono _ _ _)
   | (with_reducible exact laws_toValueS.mono _ _)
   | (with_reducible exact spec_WriteSave.mono _ _ _)
   | (with_reducible exact LeO.refl _)
   | (with_reducible exact LeO.none _)
   | (with_reducible refine LeO.ite ?_ ?_)
   | (with_reducible refine LeO.bind ?_ (fun _ => ?_))
   | exact ih0 _ _ _ _ _ _ _ _
   | exact ih1 _ _ _ _ _ _
   | exact ih2 _ _ _
   | exact impl_WriteSave.mono _ _ _
   | exact laws_eqByteS.mono _ _ _
   | exact laws_eqValueS.mono _ _ _
   | exact laws_heldByteS.mono _ _ _
   | exact laws_markByteS.mono _ _ _
   | exact laws_markValueS.mono _ _ _
   | exact laws_szValueS.mono _ _ _
   | exact laws_toValueS.mono _ _
   | exact spec_WriteSave.mono _ _ _
   | exact LeO.none _
   | refine LeO.ite ?_ ?_
   | refine LeO.bind ?_ (fun _ => ?_)
  ·intro y0 y1 y2 y3 y4 y5
   unfold laws_FnExactWriteSave.j1
   repeat' first
   | (with_reducible exact ih0 _ _ _ _ _ _ _ _)
   | (with_reducible exact ih1 _ _ _ _ _ _)
   | (with_reducible exact ih2 _ _ _)
   | (with_reducible exact impl_WriteSave.mono _ _ _)
   | (with_reducible exact laws_eqByteS.mono _ _ _)
   | (with_reducible exact laws_eqValueS.mono _ _ _)
   | (with_reducible exact laws_heldByteS.mono _ _ _)
   | (with_reducible exact laws_markByteS.mono _ _ _)
   | (with_reducible exact laws_markValueS.mono _ _ _)
   | (with_reducible exact laws_szValueS.mono _ _ _)
   | (with_reducible exact laws_toValueS.mono _ _)
   | (with_reducible exact spec_WriteSave.mono _ _ _)
   | (with_reducible exact LeO.refl _)
   | (with_reducible exact LeO.none _)
   | (with_reducible refine LeO.ite ?_ ?_)
   | (with_reducible refine LeO.bind ?_ (fun _ => ?_))
   | exact ih0 _ _ _ _ _ _ _ _
   | exact ih1 _ _ _ _ _ _
   | exact ih2 _ _ _
   | exact impl_WriteSave.mono _ _ _
   | exact laws_eqByteS.mono _ _ _
   | exact laws_eqValueS.mono _ _ _
   | exact laws_heldByteS.mono _ _ _
   | exact laws_markByteS.mono _ _ _
   | exact laws_markValueS.mono _ _ _
   | exact laws_szValueS.mono _ _ _
   | exact laws_toValueS.mono _ _
   | exact spec_WriteSave.mono _ _ _
   | exact LeO.none _
   | refine LeO.ite ?_ ?_
   | refine LeO.bind ?_ (fun _ => ?_)
  ·intro y0 y1 y2
   unfold laws_FnExactWriteSave.j2
   repeat' first
   | (with_reducible exact ih0 _ _ _ _ _ _ _ _)
   | (with_reducible exact ih1 _ _ _ _ _ _)
   | (with_reducible exact ih2 _ _ _)
   | (with_reducible exact impl_WriteSave.mono _ _ _)
   | (with_reducible exact laws_eqByteS.mono _ _ _)
   | (with_reducible exact laws_eqValueS.mono _ _ _)
   | (with_reducible exact laws_heldByteS.mono _ _ _)
   | (with_reducible exact laws_markByteS.mono _ _ _)
   | (with_reducible exact laws_markValueS.mono _ _ _)
   | (with_reducible exact laws_szValueS.mono _ _ _)
   | (with_reducible exact laws_toValueS.mono _ _)
   | (with_reducible exact spec_WriteSave.mono _ _ _)
   | (with_reducible exact LeO.refl _)
   | (with_reducible exact LeO.none _)
   | (with_reducible refine LeO.ite ?_ ?_)
   | (with_reducible refine LeO.bind ?_ (fun _ => ?_))
   | exact ih0 _ _ _ _ _ _ _ _
   | exact ih1 _ _ _ _ _ _
   | exact ih2 _ _ _
   | exact impl_WriteSave.mono _ _ _
   | exact laws_eqByteS.mono _ _ _
   | exact laws_eqValueS.mono _ _ _
   | exact laws_heldByteS.mono _ _ _
   | exact laws_markByteS.mono _ _ _
   | exact laws_markValueS.mono _ _ _
   | exact laws_szValueS.mono _ _ _
   | exact laws_toValueS.mono _ _
   | exact spec_WriteSave.mono _ _ _
   | exact LeO.none _
   | refine LeO.ite ?_ ?_
   | refine LeO.bind ?_ (fun _ => ?_)
theorem laws_FnExactWriteSave.mono : ∀ a0 a1 k, LeO (laws_FnExactWriteSave.f k a0 a1) (laws_FnExactWriteSave.f (k + 1) a0 a1) := by
 intro a0 a1 k
 obtain ⟨ih0, ih1, ih2⟩ := laws_FnExactWriteSave.mono_l k
 unfold laws_FnExactWriteSave.f
 repeat' first
   | (with_reducible exact ih0 _ _ _ _ _ _ _ _)
   | (with_reducible exact ih1 _ _ _ _ _ _)
   | (with_reducible exact ih2 _ _ _)
   | (with_reducible exact impl_WriteSave.mono _ _ _)
   | (with_reducible exact laws_eqByteS.mono _ _ _)
   | (with_reducible exact laws_eqValueS.mono _ _ _)
   | (with_reducible exact laws_heldByteS.mono _ _ _)
   | (with_reducible exact laws_markByteS.mono _ _ _)
   | (with_reducible exact laws_markValueS.mono _ _ _)
   | (with_reducible exact laws_szValueS.mono _ _ _)
   | (with_reducible exact laws_toValueS.mono _ _)
   | (with_reducible exact spec_WriteSave.mono _ _ _)
   | (with_reducible exact LeO.refl _)
   | (with_reducible exact LeO.none _)
   | (with_reducible refine LeO.ite ?_ ?_)
   | (with_reducible refine LeO.bind ?_ (fun _ => ?_))
   | exact ih0 _ _ _ _ _ _ _ _
   | exact ih1 _ _ _ _ _ _
   | exact ih2 _ _ _
   | exact impl_WriteSave.mono _ _ _
   | exact laws_eqByteS.mono _ _ _
   | exact laws_eqValueS.mono _ _ _
   | exact laws_heldByteS.mono _ _ _
   | exact laws_markByteS.mono _ _ _
   | exact laws_markValueS.mono _ _ _
   | exact laws_szValueS.mono _ _ _
   | exact laws_toValueS.mono _ _
   | exact spec_WriteSave.mono _ _ _
   | exact LeO.none _
   | refine LeO.ite ?_ ?_
   | refine LeO.bind ?_ (fun _ => ?_)
set_option maxHeartbeats 8000000 in
set_option maxRecDepth 100000 in
theorem laws_FnExactWriteSave.calls (k : Nat) (a0 : Int) (A1 : Option Addr) (c1 : Nat) (l1 : List (S36)) (r : Bool) (w : World) (hr1 : Kd.C k36 w A1 l1.length l1) (hc1 : l1.length ≤ c1) (h : laws_FnExactWriteSave.f k a0 l1 = some r) :
  Calls Try.prog 3 #[.int .i64 a0, .slice A1 l1.length c1] w fun e w' => e = .returned (.bool r) ∧ Below w.heap.size w w' := by
 have HR1 := Aside0.mk hr1
 have HC1 := Aside0.mk hc1
 clear hr1 hc1
 have HB := Aside0.mk (Below.refl w.heap.size w)
 have H : ((laws_szValueS.f k l1 1048576).bind fun t215 => (if t215 < 0 then (some true) else ((laws_toValueS.f k l1).bind fun t216 => ((spec_WriteSave.f k a0 t216).bind fun bt219 => ((laws_toValueS.f k l1).bind fun t223 => ((impl_WriteSave.f k a0 t223).bind fun bt226 => ((laws_eqByteS.f k bt226.1 bt219.1).bind fun t230 => (if t230 = true then (laws_FnExactWriteSave.j0 k a0 l1 bt219.1 bt219.2 t223 bt226.1 bt226.2 (bt226.2 != bt219.2)) else (laws_FnExactWriteSave.j0 k a0 l1 bt219.1 bt219.2 t223 bt226.1 bt226.2 true))))))))) = some r := h
 clear h
 replace H := Option.bind_eq_some_iff.mp H
 obtain ⟨t215, A30, H⟩ := H
 replace H : (if t215 < 0 then (some true) else ((laws_toValueS.f k l1).bind fun t216 => ((spec_WriteSave.f k a0 t216).bind fun bt219 => ((laws_toValueS.f k l1).bind fun t223 => ((impl_WriteSave.f k a0 t223).bind fun bt226 => ((laws_eqByteS.f k bt226.1 bt219.1).bind fun t230 => (if t230 = true then (laws_FnExactWriteSave.j0 k a0 l1 bt219.1 bt219.2 t223 bt226.1 bt226.2 (bt226.2 != bt219.2)) else (laws_FnExactWriteSave.j0 k a0 l1 bt219.1 bt219.2 t223 bt226.1 bt226.2 true)))))))) = some r := H
 have A3 := Aside0.mk A30
 clear A30
 by_cases c4 : t215 < 0
 ·rw [if_pos c4] at H
  have c4b0 : decide (t215 < 0) = true := decide_eq_true c4
  clear c4
  obtain rfl := Option.some.inj H
  go_enter Try.func3, Try.ntmps3
  go_wp2_with (first | ((with_reducible refine gate_callee (f := 4) rfl ?_); refine goesL_ (some 18) rfl rfl Try.func4 (by kernel_rfl) rfl #[.slice A1 l1.length c1, .int .i64 1048576] rfl (by (try simp only [List.map_toArray, List.map_cons, List.map_nil]); first | done | rfl | (simp only [List.length_drop, List.length_take]; rfl)) ?_; (with_reducible refine (laws_szValueS.calls k _ _ l1 1048576 t215 _ ?side1 ?side2 A3.out).mono ?_); (case side1 => repeat (first | exact HR1.out | (with_reducible refine Kd.C_alloc ?_ _) | (with_reducible refine Kd.C_drewN ?_ _) | (with_reducible refine Kd.C_drew ?_))); (case side2 => exact HC1.out); rintro e w5 ⟨rfl, hb⟩; refine ⟨_, rfl, ?_⟩; have n0_ := Aside0.mk (below_step (by repeat (first | (with_reducible first | exact HB.out | apply below_alloc | apply pw_below_drewN | apply below_drew1) | exact HB.out)) hb); clear HB; have HB := n0_; clear n0_; (try clear hb); (try clear hb2); (try clear hk); (try clear hi)))
  go_ret
  exact ⟨by first | rfl | (simp [errW_none, errW_some] <;> rfl) | (simp [*, errW_none, errW_some] <;> rfl), by repeat (first | (with_reducible first | exact HB.out | apply below_alloc | apply pw_below_drewN | apply below_drew1) | exact HB.out)⟩
 ·rw [if_neg c4] at H
  have c4b0 : decide (t215 < 0) = false := decide_eq_false c4
  clear c4
  replace H := Option.bind_eq_some_iff.mp H
  obtain ⟨t216, A60, H⟩ := H
  replace H : ((spec_WriteSave.f k a0 t216).bind fun bt219 => ((laws_toValueS.f k l1).bind fun t223 => ((impl_WriteSave.f k a0 t223).bind fun bt226 => ((laws_eqByteS.f k bt226.1 bt219.1).bind fun t230 => (if t230 = true then (laws_FnExactWriteSave.j0 k a0 l1 bt219.1 bt219.2 t223 bt226.1 bt226.2 (bt226.2 != bt219.2)) else (laws_FnExactWriteSave.j0 k a0 l1 bt219.1 bt219.2 t223 bt226.1 bt226.2 true)))))) = some r := H
  have A6 := Aside0.mk A60
  clear A60
  replace H := Option.bind_eq_some_iff.mp H
  obtain ⟨⟨t219, t220⟩, A70, H⟩ := H
  replace H : ((laws_toValueS.f k l1).bind fun t223 => ((impl_WriteSave.f k a0 t223).bind fun bt226 => ((laws_eqByteS.f k bt226.1 t219).bind fun t230 => (if t230 = true then (laws_FnExactWriteSave.j0 k a0 l1 t219 t220 t223 bt226.1 bt226.2 (bt226.2 != t220)) else (laws_FnExactWriteSave.j0 k a0 l1 t219 t220 t223 bt226.1 bt226.2 true))))) = some r := H
  have A7 := Aside0.mk A70
  clear A70
  replace H := Option.bind_eq_some_iff.mp H
  obtain ⟨t223, A80, H⟩ := H
  replace H : ((impl_WriteSave.f k a0 t223).bind fun bt226 => ((laws_eqByteS.f k bt226.1 t219).bind fun t230 => (if t230 = true then (laws_FnExactWriteSave.j0 k a0 l1 t219 t220 t223 bt226.1 bt226.2 (bt226.2 != t220)) else (laws_FnExactWriteSave.j0 k a0 l1 t219 t220 t223 bt226.1 bt226.2 true)))) = some r := H
  have A8 := Aside0.mk A80
  clear A80
  replace H := Option.bind_eq_some_iff.mp H
  obtain ⟨⟨t226, t227⟩, A90, H⟩ := H
  replace H : ((laws_eqByteS.f k t226 t219).bind fun t230 => (if t230 = true then (laws_FnExactWriteSave.j0 k a0 l1 t219 t220 t223 t226 t227 (t227 != t220)) else (laws_FnExactWriteSave.j0 k a0 l1 t219 t220 t223 t226 t227 true))) = some r := H
  have A9 := Aside0.mk A90
  clear A90
  have HC10 := Aside0.mk H
  clear H
  go_enter Try.func3, Try.ntmps3
  go_upto_region 8 with (first | ((with_reducible refine gate_callee (f := 4) rfl ?_); refine goesL_ (some 18) rfl rfl Try.func4 (by kernel_rfl) rfl #[.slice A1 l1.length c1, .int .i64 1048576] rfl (by (try simp only [List.map_toArray, List.map_cons, List.map_nil]); first | done | rfl | (simp only [List.length_drop, List.length_take]; rfl)) ?_; (with_reducible refine (laws_szValueS.calls k _ _ l1 1048576 t215 _ ?side1 ?side2 A3.out).mono ?_); (case side1 => repeat (first | exact HR1.out | (with_reducible refine Kd.C_alloc ?_ _) | (with_reducible refine Kd.C_drewN ?_ _) | (with_reducible refine Kd.C_drew ?_))); (case side2 => exact HC1.out); rintro e w11 ⟨rfl, hb⟩; refine ⟨_, rfl, ?_⟩; have n0_ := Aside0.mk (below_step (by repeat (first | (with_reducible first | exact HB.out | apply below_alloc | apply pw_below_drewN | apply below_drew1) | exact HB.out)) hb); clear HB; have HB := n0_; clear n0_; (try clear hb); (try clear hb2); (try clear hk); (try clear hi)) | ((with_reducible refine gate_callee (f := 6) rfl ?_); refine goesL_ (some 24) rfl rfl Try.func6 (by kernel_rfl) rfl #[.slice A1 l1.length c1] rfl (by (try simp only [List.map_toArray, List.map_cons, List.map_nil]); first | done | rfl | (simp only [List.length_drop, List.length_take]; rfl)) ?_; (with_reducible refine (laws_toValueS.calls k _ _ l1 t216 _ ?side1 ?side2 A6.out).mono ?_); (case side1 => repeat (first | exact (Kd.C_below HR1.out HB.out) | (with_reducible refine Kd.C_alloc ?_ _) | (with_reducible refine Kd.C_drewN ?_ _) | (with_reducible refine Kd.C_drew ?_))); (case side2 => exact HC1.out); rintro e w12 ⟨v217, rfl, ho0, hb⟩; refine ⟨_, rfl, ?_⟩; have n0_ := Aside0.mk (Kd.R_lower ho0 (below_size (by repeat (first | (with_reducible first | exact HB.out | apply below_alloc | apply pw_below_drewN | apply below_drew1) | exact HB.out)))); have n1_ := Aside0.mk (below_step (by repeat (first | (with_reducible first | exact HB.out | apply below_alloc | apply pw_below_drewN | apply below_drew1) | exact HB.out)) hb); clear HB; have HO218 := n0_; have HB := n1_; clear n0_ n1_; (try clear hb); (try clear hb2); (try clear hk); (try clear hi); (try clear ho0); obtain ⟨Ao13, co13, eo13⟩ := Kd.R_slice HO218.out; subst eo13) | ((with_reducible refine gate_callee (f := 5) rfl ?_); refine goesL_ (some 25) rfl rfl Try.func5 (by kernel_rfl) rfl #[.int .i64 a0, .slice Ao13 t216.length co13] rfl (by (try simp only [List.map_toArray, List.map_cons, List.map_nil]); first | done | rfl | (simp only [List.length_drop, List.length_take]; rfl)) ?_; (with_reducible refine (spec_WriteSave.calls k a0 _ _ t216 t219 t220 _ ?side1 ?side2 A7.out).mono ?_); (case side1 => repeat (first | exact (Kd.R_reads' HO218.out).2.2 | (with_reducible refine Kd.C_alloc ?_ _) | (with_reducible refine Kd.C_drewN ?_ _) | (with_reducible refine Kd.C_drew ?_))); (case side2 => exact (Kd.R_reads' HO218.out).2.1); rintro e w14 ⟨v221, rfl, ho0, hb⟩; refine ⟨_, rfl, ?_⟩; have n0_ := Aside0.mk (Kd.R_below (by (with_reducible repeat (first | apply Kd.R_alloc | apply Kd.R_drewN | apply Kd.R_drew)); exact HO218.out) hb); have n1_ := Aside0.mk (Kd.R_lower ho0 (below_size (by repeat (first | (with_reducible first | exact HB.out | apply below_alloc | apply pw_below_drewN | apply below_drew1) | exact HB.out)))); have n2_ := Aside0.mk (below_step (by repeat (first | (with_reducible first | exact HB.out | apply below_alloc | apply pw_below_drewN | apply below_drew1) | exact HB.out)) hb); clear HO218; clear HB; have HO218 := n0_; have HO222 := n1_; have HB := n2_; clear n0_ n1_ n2_; (try clear hb); (try clear hb2); (try clear hk); (try clear hi); (try clear ho0)) | ((with_reducible refine gate_callee (f := 6) rfl ?_); refine goesL_ (some 29) rfl rfl Try.func6 (by kernel_rfl) rfl #[.slice A1 l1.length c1] rfl (by (try simp only [List.map_toArray, List.map_cons, List.map_nil]); first | done | rfl | (simp only [List.length_drop, List.length_take]; rfl)) ?_; (with_reducible refine (laws_toValueS.calls k _ _ l1 t223 _ ?side1 ?side2 A8.out).mono ?_); (case side1 => repeat (first | exact (Kd.C_below HR1.out HB.out) | (with_reducible refine Kd.C_alloc ?_ _) | (with_reducible refine Kd.C_drewN ?_ _) | (with_reducible refine Kd.C_drew ?_))); (case side2 => exact HC1.out); rintro e w15 ⟨v224, rfl, ho0, hb⟩; refine ⟨_, rfl, ?_⟩; have n0_ := Aside0.mk (Kd.R_elder' (by (with_reducible repeat (first | apply Kd.R_alloc | apply Kd.R_drewN | apply Kd.R_drew)); exact HO218.out) (Kd.R_base ho0) hb); have n1_ := Aside0.mk (Kd.R_below (by (with_reducible repeat (first | apply Kd.R_alloc | apply Kd.R_drewN | apply Kd.R_drew)); exact HO222.out) hb); have n2_ := Aside0.mk (Kd.R_lower (Kd.R_new' ho0 (Kd.R_lt (by (with_reducible repeat (first | apply Kd.R_alloc | apply Kd.R_drewN | apply Kd.R_drew)); exact HO218.out))) (below_size (by repeat (first | (with_reducible first | exact HB.out | apply below_alloc | apply pw_below_drewN | apply below_drew1) | exact HB.out)))); have n3_ := Aside0.mk (below_step (by repeat (first | (with_reducible first | exact HB.out | apply below_alloc | apply pw_below_drewN | apply below_drew1) | exact HB.out)) hb); clear HO218; clear HO222; clear HB; have HO218 := n0_; have HO222 := n1_; have HO225 := n2_; have HB := n3_; clear n0_ n1_ n2_ n3_; (try clear hb); (try clear hb2); (try clear hk); (try clear hi); (try clear ho0); obtain ⟨Ao16, co16, eo16⟩ := Kd.R_slice HO225.out; subst eo16) | ((with_reducible refine gate_callee (f := 7) rfl ?_); refine goesL_ (some 33) rfl rfl Try.func7 (by kernel_rfl) rfl #[.int .i64 a0, .slice Ao16 t223.length co16] rfl (by (try simp only [List.map_toArray, List.map_cons, List.map_nil]); first | done | rfl | (simp only [List.length_drop, List.length_take]; rfl)) ?_; (with_reducible refine (impl_WriteSave.calls k a0 _ _ t223 t226 t227 _ ?side1 ?side2 A9.out).mono ?_); (case side1 => repeat (first | exact (Kd.R_reads' HO225.out).2.2 | (with_reducible refine Kd.C_alloc ?_ _) | (with_reducible refine Kd.C_drewN ?_ _) | (with_reducible refine Kd.C_drew ?_))); (case side2 => exact (Kd.R_reads' HO225.out).2.1); rintro e w17 ⟨v228, rfl, ho0, hb⟩; refine ⟨_, rfl, ?_⟩; have n0_ := Aside0.mk (Kd.R_below (by (with_reducible repeat (first | apply Kd.R_alloc | apply Kd.R_drewN | apply Kd.R_drew)); exact HO218.out) hb); have n1_ := Aside0.mk (Kd.R_elder' (by (with_reducible repeat (first | apply Kd.R_alloc | apply Kd.R_drewN | apply Kd.R_drew)); exact HO222.out) (Kd.R_base ho0) hb); have n2_ := Aside0.mk (Kd.R_below (by (with_reducible repeat (first | apply Kd.R_alloc | apply Kd.R_drewN | apply Kd.R_drew)); exact HO225.out) hb); have n3_ := Aside0.mk (Kd.R_lower (Kd.R_new' ho0 (Kd.R_lt (by (with_reducible repeat (first | apply Kd.R_alloc | apply Kd.R_drewN | apply Kd.R_drew)); exact HO222.out))) (below_size (by repeat (first | (with_reducible first | exact HB.out | apply below_alloc | apply pw_below_drewN | apply below_drew1) | exact HB.out)))); have n4_ := Aside0.mk (below_step (by repeat (first | (with_reducible first | exact HB.out | apply below_alloc | apply pw_below_drewN | apply below_drew1) | exact HB.out)) hb); clear HO218; clear HO222; clear HO225; clear HB; have HO218 := n0_; have HO222 := n1_; have HO225 := n2_; have HO229 := n3_; have HB := n4_; clear n0_ n1_ n2_ n3_ n4_; (try clear hb); (try clear hb2); (try clear hk); (try clear hi); (try clear ho0)))
  (try simp only [Act.put, List.setIfInBounds_toArray, List.set_cons_zero, List.set_cons_succ])
  go_cut [44] (fun v44 wc => ∃ (kq : Nat) (x44_9 : Bool), v44 = .bool x44_9 ∧ Aside0 (laws_FnExactWriteSave.j0 kq a0 l1 t219 t220 t223 t226 t227 x44_9 = some r) ∧ Aside0 (kq ≤ k) ∧ Aside0 (Kd.R (Kd.int .u8) 5 wc w.heap.size (fun k_ => some k_ ≠ (v228 : Value).ownBlock) v221 t219) ∧ Aside0 (Kd.R k39 39 wc w.heap.size (fun _ => True) (.slice Ao16 t223.length co16) t223) ∧ Aside0 (Kd.R (Kd.int .u8) 5 wc w.heap.size (fun k_ => some k_ ≠ (v221 : Value).ownBlock) v228 t226) ∧ Aside0 (Below w.heap.size w wc))
  case first =>
   have H := HC10.out
   clear HC10
   replace H := Option.bind_eq_some_iff.mp H
   obtain ⟨t230, A180, H⟩ := H
   replace H : (if t230 = true then (laws_FnExactWriteSave.j0 k a0 l1 t219 t220 t223 t226 t227 (t227 != t220)) else (laws_FnExactWriteSave.j0 k a0 l1 t219 t220 t223 t226 t227 true)) = some r := H
   have A18 := Aside0.mk A180
   clear A180
   by_cases c19 : t230 = true
   ·subst c19
    have H1 : (laws_FnExactWriteSave.j0 k a0 l1 t219 t220 t223 t226 t227 (t227 != t220)) = some r := by rw [if_pos rfl] at H; exact H
    clear H
    have H := H1
    clear H1
    have H' := Aside0.mk H
    clear H
    obtain ⟨Ao20, co20, eo20⟩ := Kd.R_slice HO229.out
    subst eo20
    obtain ⟨Ao21, co21, eo21⟩ := Kd.R_slice HO222.out
    subst eo21
    go_wp2_with (first | ((with_reducible refine gate_callee (f := 8) rfl ?_); refine goesL_ (some 38) rfl rfl Try.func8 (by kernel_rfl) rfl #[.slice Ao20 t226.length co20, .slice Ao21 t219.length co21] rfl (by (try simp only [List.map_toArray, List.map_cons, List.map_nil]); first | done | rfl | (simp only [List.length_drop, List.length_take]; rfl)) ?_; (with_reducible refine (laws_eqByteS.calls k _ _ t226 _ _ t219 true _ ?side1 ?side2 ?side3 ?side4 A18.out).mono ?_); (case side1 => repeat (first | exact (Kd.R_reads' HO229.out).2.2 | (with_reducible refine Kd.C_alloc ?_ _) | (with_reducible refine Kd.C_drewN ?_ _) | (with_reducible refine Kd.C_drew ?_))); (case side2 => exact (Kd.R_reads' HO229.out).2.1); (case side3 => repeat (first | exact (Kd.R_reads' HO222.out).2.2 | (with_reducible refine Kd.C_alloc ?_ _) | (with_reducible refine Kd.C_drewN ?_ _) | (with_reducible refine Kd.C_drew ?_))); (case side4 => exact (Kd.R_reads' HO222.out).2.1); rintro e w' ⟨rfl, ⟨nd, rfl⟩⟩; refine ⟨_, rfl, ?_⟩))
    go_meet
    case rel => exact ⟨_, ((t227 != t220)), (by first | rfl | (simp; done) | (simp [*]; done) | exact not_isEmpty _ | exact (not_isEmpty _).symm | exact is_empty _ | exact (is_empty _).symm), H', ⟨by first | omega | exact Nat.le_refl _⟩, ⟨by (with_reducible repeat (first | apply Kd.R_alloc | apply Kd.R_drewN | apply Kd.R_drew)); exact Kd.R_mono HO222.out (fun _ hk => hk.2)⟩, ⟨by (with_reducible repeat (first | apply Kd.R_alloc | apply Kd.R_drewN | apply Kd.R_drew)); exact Kd.R_mono HO225.out (fun _ hk => trivial)⟩, ⟨by (with_reducible repeat (first | apply Kd.R_alloc | apply Kd.R_drewN | apply Kd.R_drew)); exact Kd.R_mono HO229.out (fun _ hk => hk.2)⟩, ⟨by repeat (first | (with_reducible first | exact HB.out | apply below_alloc | apply pw_below_drewN | apply below_drew1) | exact HB.out)⟩⟩
   ·replace c19 := Bool.eq_false_iff.mpr c19
    subst c19
    have H1 : (laws_FnExactWriteSave.j0 k a0 l1 t219 t220 t223 t226 t227 true) = some r := by rw [if_neg (show ¬ (false = true) by decide)] at H; exact H
    clear H
    have H := H1
    clear H1
    have H' := Aside0.mk H
    clear H
    obtain ⟨Ao22, co22, eo22⟩ := Kd.R_slice HO229.out
    subst eo22
    obtain ⟨Ao23, co23, eo23⟩ := Kd.R_slice HO222.out
    subst eo23
    go_wp2_with (first | ((with_reducible refine gate_callee (f := 8) rfl ?_); refine goesL_ (some 38) rfl rfl Try.func8 (by kernel_rfl) rfl #[.slice Ao22 t226.length co22, .slice Ao23 t219.length co23] rfl (by (try simp only [List.map_toArray, List.map_cons, List.map_nil]); first | done | rfl | (simp only [List.length_drop, List.length_take]; rfl)) ?_; (with_reducible refine (laws_eqByteS.calls k _ _ t226 _ _ t219 false _ ?side1 ?side2 ?side3 ?side4 A18.out).mono ?_); (case side1 => repeat (first | exact (Kd.R_reads' HO229.out).2.2 | (with_reducible refine Kd.C_alloc ?_ _) | (with_reducible refine Kd.C_drewN ?_ _) | (with_reducible refine Kd.C_drew ?_))); (case side2 => exact (Kd.R_reads' HO229.out).2.1); (case side3 => repeat (first | exact (Kd.R_reads' HO222.out).2.2 | (with_reducible refine Kd.C_alloc ?_ _) | (with_reducible refine Kd.C_drewN ?_ _) | (with_reducible refine Kd.C_drew ?_))); (case side4 => exact (Kd.R_reads' HO222.out).2.1); rintro e w' ⟨rfl, ⟨nd, rfl⟩⟩; refine ⟨_, rfl, ?_⟩))
    go_meet
    case rel => exact ⟨_, (true), (by first | rfl | (simp; done) | (simp [*]; done) | exact not_isEmpty _ | exact (not_isEmpty _).symm | exact is_empty _ | exact (is_empty _).symm), H', ⟨by first | omega | exact Nat.le_refl _⟩, ⟨by (with_reducible repeat (first | apply Kd.R_alloc | apply Kd.R_drewN | apply Kd.R_drew)); exact Kd.R_mono HO222.out (fun _ hk => hk.2)⟩, ⟨by (with_reducible repeat (first | apply Kd.R_alloc | apply Kd.R_drewN | apply Kd.R_drew)); exact Kd.R_mono HO225.out (fun _ hk => trivial)⟩, ⟨by (with_reducible repeat (first | apply Kd.R_alloc | apply Kd.R_drewN | apply Kd.R_drew)); exact Kd.R_mono HO229.out (fun _ hk => hk.2)⟩, ⟨by repeat (first | (with_reducible first | exact HB.out | apply below_alloc | apply pw_below_drewN | apply below_drew1) | exact HB.out)⟩⟩
  case rest =>
   clear HC10
   try clear c1
   try clear p2
   try clear c3
   try clear c4
   try clear c4b0
   try clear c5
   try clear c6
   try clear c7
   try clear c8
   try clear c19
   obtain ⟨kq, x44_9, rfl, HA, HJ9, HO_6, HO_8, HO_9, HB⟩ := hcut
   cases kq with
   | zero => exact absurd HA.out (by simp [laws_FnExactWriteSave.j0])
   | succ kj9 =>
    have H := HA.out
    clear HA
    simp only [laws_FnExactWriteSave.j0] at H
    by_cases c24 : x44_9 = true
    ·subst c24
     have H1 : (some false) = some r := by rw [if_pos rfl] at H; exact H
     clear H
     have H := H1
     clear H1
     obtain rfl := Option.some.inj H
     go_wp2
     go_ret
     exact ⟨by first | rfl | (simp [errW_none, errW_some] <;> rfl) | (simp [*, errW_none, errW_some] <;> rfl), by repeat (first | (with_reducible first | exact HB.out | apply below_alloc | apply pw_below_drewN | apply below_drew1) | exact HB.out)⟩
    ·replace c24 := Bool.eq_false_iff.mpr c24
     subst c24
     have H1 : ((laws_toValueS.f kj9 l1).bind fun t231 => ((laws_eqValueS.f kj9 t223 t231).bind fun t234 => (if t234 = true then ((laws_markValueS.f kj9 t223 1).bind fun bt235 => (if bt235.1 < 0 then (laws_FnExactWriteSave.j1 kj9 a0 l1 t219 t220 t226 true) else ((laws_eqByteS.f kj9 t226 t219).bind fun t237 => (if t237 = true then (laws_FnExactWriteSave.j1 kj9 a0 l1 t219 t220 t226 (t227 != t220)) else (laws_FnExactWriteSave.j1 kj9 a0 l1 t219 t220 t226 true))))) else (some false)))) = some r := by rw [if_neg (show ¬ (false = true) by decide)] at H; exact H
     clear H
     have H := H1
     clear H1
     replace H := Option.bind_eq_some_iff.mp H
     obtain ⟨t231, A250, H⟩ := H
     replace H : ((laws_eqValueS.f kj9 t223 t231).bind fun t234 => (if t234 = true then ((laws_markValueS.f kj9 t223 1).bind fun bt235 => (if bt235.1 < 0 then (laws_FnExactWriteSave.j1 kj9 a0 l1 t219 t220 t226 true) else ((laws_eqByteS.f kj9 t226 t219).bind fun t237 => (if t237 = true then (laws_FnExactWriteSave.j1 kj9 a0 l1 t219 t220 t226 (t227 != t220)) else (laws_FnExactWriteSave.j1 kj9 a0 l1 t219 t220 t226 true))))) else (some false))) = some r := H
     have A25 := Aside0.mk A250
     clear A250
     replace H := Option.bind_eq_some_iff.mp H
     obtain ⟨t234, A260, H⟩ := H
     replace H : (if t234 = true then ((laws_markValueS.f kj9 t223 1).bind fun bt235 => (if bt235.1 < 0 then (laws_FnExactWriteSave.j1 kj9 a0 l1 t219 t220 t226 true) else ((laws_eqByteS.f kj9 t226 t219).bind fun t237 => (if t237 = true then (laws_FnExactWriteSave.j1 kj9 a0 l1 t219 t220 t226 (t227 != t220)) else (laws_FnExactWriteSave.j1 kj9 a0 l1 t219 t220 t226 true))))) else (some false)) = some r := H
     have A26 := Aside0.mk A260
     clear A260
     by_cases c27 : t234 = true
     ·subst c27
      have H1 : ((laws_markValueS.f kj9 t223 1).bind fun bt235 => (if bt235.1 < 0 then (laws_FnExactWriteSave.j1 kj9 a0 l1 t219 t220 t226 true) else ((laws_eqByteS.f kj9 t226 t219).bind fun t237 => (if t237 = true then (laws_FnExactWriteSave.j1 kj9 a0 l1 t219 t220 t226 (t227 != t220)) else (laws_FnExactWriteSave.j1 kj9 a0 l1 t219 t220 t226 true))))) = some r := by rw [if_pos rfl] at H; exact H
      clear H
      have H := H1
      clear H1
      replace H := Option.bind_eq_some_iff.mp H
      obtain ⟨⟨t235, t236⟩, A280, H⟩ := H
      replace H : (if t235 < 0 then (laws_FnExactWriteSave.j1 kj9 a0 l1 t219 t220 t226 true) else ((laws_eqByteS.f kj9 t226 t219).bind fun t237 => (if t237 = true then (laws_FnExactWriteSave.j1 kj9 a0 l1 t219 t220 t226 (t227 != t220)) else (laws_FnExactWriteSave.j1 kj9 a0 l1 t219 t220 t226 true)))) = some r := H
      have A28 := Aside0.mk A280
      clear A280
      have HC29 := Aside0.mk H
      clear H
      go_upto_region 14 with (first | ((with_reducible refine gate_callee (f := 6) rfl ?_); refine goesL_ (some 47) rfl rfl Try.func6 (by kernel_rfl) rfl #[.slice A1 l1.length c1] rfl (by (try simp only [List.map_toArray, List.map_cons, List.map_nil]); first | done | rfl | (simp only [List.length_drop, List.length_take]; rfl)) ?_; (with_reducible refine (laws_toValueS.calls kj9 _ _ l1 t231 _ ?side1 ?side2 A25.out).mono ?_); (case side1 => repeat (first | exact (Kd.C_below HR1.out HB.out) | (with_reducible refine Kd.C_alloc ?_ _) | (with_reducible refine Kd.C_drewN ?_ _) | (with_reducible refine Kd.C_drew ?_))); (case side2 => exact HC1.out); rintro e w30 ⟨v232, rfl, ho0, hb⟩; refine ⟨_, rfl, ?_⟩; have n0_ := Aside0.mk (Kd.R_below (by (with_reducible repeat (first | apply Kd.R_alloc | apply Kd.R_drewN | apply Kd.R_drew)); exact HO_6.out) hb); have n1_ := Aside0.mk (Kd.R_elder' (by (with_reducible repeat (first | apply Kd.R_alloc | apply Kd.R_drewN | apply Kd.R_drew)); exact HO_8.out) (Kd.R_base ho0) hb); have n2_ := Aside0.mk (Kd.R_below (by (with_reducible repeat (first | apply Kd.R_alloc | apply Kd.R_drewN | apply Kd.R_drew)); exact HO_9.out) hb); have n3_ := Aside0.mk (Kd.R_lower (Kd.R_new' ho0 (Kd.R_lt (by (with_reducible repeat (first | apply Kd.R_alloc | apply Kd.R_drewN | apply Kd.R_drew)); exact HO_8.out))) (below_size (by repeat (first | (with_reducible first | exact HB.out | apply below_alloc | apply pw_below_drewN | apply below_drew1) | exact HB.out)))); have n4_ := Aside0.mk (below_step (by repeat (first | (with_reducible first | exact HB.out | apply below_alloc | apply pw_below_drewN | apply below_drew1) | exact HB.out)) hb); clear HO_6; clear HO_8; clear HO_9; clear HB; have HO_6 := n0_; have HO_8 := n1_; have HO_9 := n2_; have HO233 := n3_; have HB := n4_; clear n0_ n1_ n2_ n3_ n4_; (try clear hb); (try clear hb2); (try clear hk); (try clear hi); (try clear ho0); obtain ⟨Ao31, co31, eo31⟩ := Kd.R_slice HO233.out; subst eo31) | ((with_reducible refine gate_callee (f := 9) rfl ?_); refine goesL_ (some 48) rfl rfl Try.func9 (by kernel_rfl) rfl #[.slice Ao16 t223.length co16, .slice Ao31 t231.length co31] rfl (by (try simp only [List.map_toArray, List.map_cons, List.map_nil]); first | done | rfl | (simp only [List.length_drop, List.length_take]; rfl)) ?_; (with_reducible refine (laws_eqValueS.calls kj9 _ _ t223 _ _ t231 true _ ?side1 ?side2 ?side3 ?side4 A26.out).mono ?_); (case side1 => repeat (first | exact (Kd.R_reads' HO_8.out).2.2 | (with_reducible refine Kd.C_alloc ?_ _) | (with_reducible refine Kd.C_drewN ?_ _) | (with_reducible refine Kd.C_drew ?_))); (case side2 => exact (Kd.R_reads' HO_8.out).2.1); (case side3 => repeat (first | exact (Kd.R_reads' HO233.out).2.2 | (with_reducible refine Kd.C_alloc ?_ _) | (with_reducible refine Kd.C_drewN ?_ _) | (with_reducible refine Kd.C_drew ?_))); (case side4 => exact (Kd.R_reads' HO233.out).2.1); rintro e w32 ⟨rfl, hb⟩; refine ⟨_, rfl, ?_⟩; have n0_ := Aside0.mk (Kd.R_below (by (with_reducible repeat (first | apply Kd.R_alloc | apply Kd.R_drewN | apply Kd.R_drew)); exact HO_6.out) hb); have n1_ := Aside0.mk (Kd.R_below (by (with_reducible repeat (first | apply Kd.R_alloc | apply Kd.R_drewN | apply Kd.R_drew)); exact HO_8.out) hb); have n2_ := Aside0.mk (Kd.R_below (by (with_reducible repeat (first | apply Kd.R_alloc | apply Kd.R_drewN | apply Kd.R_drew)); exact HO_9.out) hb); have n3_ := Aside0.mk (Kd.R_below (by (with_reducible repeat (first | apply Kd.R_alloc | apply Kd.R_drewN | apply Kd.R_drew)); exact HO233.out) hb); have n4_ := Aside0.mk (below_step (by repeat (first | (with_reducible first | exact HB.out | apply below_alloc | apply pw_below_drewN | apply below_drew1) | exact HB.out)) hb); clear HO_6; clear HO_8; clear HO_9; clear HO233; clear HB; have HO_6 := n0_; have HO_8 := n1_; have HO_9 := n2_; have HO233 := n3_; have HB := n4_; clear n0_ n1_ n2_ n3_ n4_; (try clear hb); (try clear hb2); (try clear hk); (try clear hi)) | ((with_reducible refine gate_callee (f := 10) rfl ?_); refine goesL_ (some 52) rfl rfl Try.func10 (by kernel_rfl) rfl #[.slice Ao16 t223.length co16, .int .i64 1] rfl (by (try simp only [List.map_toArray, List.map_cons, List.map_nil]); first | done | rfl | (simp only [List.length_drop, List.length_take]; rfl)) ?_; (with_reducible refine (laws_markValueS.calls kj9 (fun k_ => some k_ = (.slice Ao16 t223.length co16 : Value).ownBlock) (.slice Ao16 t223.length co16) t223 1 t235 t236 w _ ?side1 ?side2 A28.out).mono ?_); (case side1 => repeat (first | (with_reducible first | exact HB.out | apply below_alloc | apply pw_below_drewN | apply below_drew1) | exact HB.out)); (case side2 => exact Kd.R_tight rfl HO_8.out); rintro e w33 ⟨rfl, hy0, hb, hkp⟩; refine ⟨_, rfl, ?_⟩; have n0_ := Aside0.mk (Kd.R_mono (ok' := fun k_ => some k_ ≠ (v228 : Value).ownBlock) (Kd.R_keptB ((Kd.R_apart' HO_6.out (Kd.R_typed HO_8.out) (by decide))) hkp (fun k_ hk_ hs_ => (hk_.2) hs_)) (fun k_ hk_ => hk_.1.1)); have n1_ := Aside0.mk (Kd.R_reok rfl hy0 (fun k_ e_ => HO_8.out.1 k_ e_)); have n2_ := Aside0.mk (Kd.R_mono (ok' := fun k_ => some k_ ≠ (v221 : Value).ownBlock) (Kd.R_keptB ((Kd.R_apart' HO_9.out (Kd.R_typed HO_8.out) (by decide))) hkp (fun k_ hk_ hs_ => (hk_.2) hs_)) (fun k_ hk_ => hk_.1.1)); have n3_ := Aside0.mk (Kd.R_mono (ok' := fun k_ => some k_ ≠ (.slice Ao16 t223.length co16 : Value).ownBlock) (Kd.R_keptB (HO233.out) hkp (fun k_ hk_ hs_ => (hk_.2) hs_)) (fun k_ hk_ => hk_.1.2)); have n4_ := Aside0.mk (hb); clear HO_6; clear HO_8; clear HO_9; clear HO233; clear HB; have HO_6 := n0_; have HO_8 := n1_; have HO_9 := n2_; have HO233 := n3_; have HB := n4_; clear n0_ n1_ n2_ n3_ n4_; (try clear hb); (try clear hkp); (try clear hy0)))
      (try simp only [Act.put, List.setIfInBounds_toArray, List.set_cons_zero, List.set_cons_succ])
      go_cut [65] (fun v65 wc => ∃ (kq : Nat) (x65_28 : Bool), v65 = .bool x65_28 ∧ Aside0 (laws_FnExactWriteSave.j1 kq a0 l1 t219 t220 t226 x65_28 = some r) ∧ Aside0 (kq ≤ kj9) ∧ Aside0 (Kd.R (Kd.int .u8) 5 wc w.heap.size (fun k_ => some k_ ≠ (v228 : Value).ownBlock) v221 t219) ∧ Aside0 (Kd.R (Kd.int .u8) 5 wc w.heap.size (fun k_ => some k_ ≠ (v221 : Value).ownBlock) v228 t226) ∧ Aside0 (Below w.heap.size w wc))
      case first =>
       have H := HC29.out
       clear HC29
       by_cases c34 : t235 < 0
       ·rw [if_pos c34] at H
        have c34b0 : decide (t235 < 0) = true := decide_eq_true c34
        clear c34
        (first | rw [c34b0] | (simp only [i64_w, i32_w]; rw [c34b0]) | skip)
        have H' := Aside0.mk H
        clear H
        go_wp2
        go_meet
        case rel => exact ⟨_, (true), (by first | rfl | (simp; done) | (simp [*]; done) | exact not_isEmpty _ | exact (not_isEmpty _).symm | exact is_empty _ | exact (is_empty _).symm), H', ⟨by have := HJ9.out; first | omega | exact Nat.le_refl _⟩, ⟨by (with_reducible repeat (first | apply Kd.R_alloc | apply Kd.R_drewN | apply Kd.R_drew)); exact HO_6.out⟩, ⟨by (with_reducible repeat (first | apply Kd.R_alloc | apply Kd.R_drewN | apply Kd.R_drew)); exact HO_9.out⟩, ⟨by repeat (first | (with_reducible first | exact HB.out | apply below_alloc | apply pw_below_drewN | apply below_drew1) | exact HB.out)⟩⟩
       ·rw [if_neg c34] at H
        have c34b0 : decide (t235 < 0) = false := decide_eq_false c34
        clear c34
        (first | rw [c34b0] | (simp only [i64_w, i32_w]; rw [c34b0]) | skip)
        replace H := Option.bind_eq_some_iff.mp H
        obtain ⟨t237, A350, H⟩ := H
        replace H : (if t237 = true then (laws_FnExactWriteSave.j1 kj9 a0 l1 t219 t220 t226 (t227 != t220)) else (laws_FnExactWriteSave.j1 kj9 a0 l1 t219 t220 t226 true)) = some r := H
        have A35 := Aside0.mk A350
        clear A350
        by_cases c36 : t237 = true
        ·subst c36
         have H1 : (laws_FnExactWriteSave.j1 kj9 a0 l1 t219 t220 t226 (t227 != t220)) = some r := by rw [if_pos rfl] at H; exact H
         clear H
         have H := H1
         clear H1
         have H' := Aside0.mk H
         clear H
         obtain ⟨Ao37, co37, eo37⟩ := Kd.R_slice HO_9.out
         subst eo37
         obtain ⟨Ao38, co38, eo38⟩ := Kd.R_slice HO_6.out
         subst eo38
         go_wp2_with (first | (go_at_call 8; (with_reducible refine (laws_eqByteS.calls kj9 _ _ t226 _ _ t219 true _ ?side1 ?side2 ?side3 ?side4 A35.out).mono ?_); (case side1 => repeat (first | exact (Kd.R_reads' HO_9.out).2.2 | (with_reducible refine Kd.C_alloc ?_ _) | (with_reducible refine Kd.C_drewN ?_ _) | (with_reducible refine Kd.C_drew ?_))); (case side2 => exact (Kd.R_reads' HO_9.out).2.1); (case side3 => repeat (first | exact (Kd.R_reads' HO_6.out).2.2 | (with_reducible refine Kd.C_alloc ?_ _) | (with_reducible refine Kd.C_drewN ?_ _) | (with_reducible refine Kd.C_drew ?_))); (case side4 => exact (Kd.R_reads' HO_6.out).2.1); rintro e w' ⟨rfl, ⟨nd, rfl⟩⟩))
         go_meet
         case rel => exact ⟨_, ((t227 != t220)), (by first | rfl | (simp; done) | (simp [*]; done) | exact not_isEmpty _ | exact (not_isEmpty _).symm | exact is_empty _ | exact (is_empty _).symm), H', ⟨by have := HJ9.out; first | omega | exact Nat.le_refl _⟩, ⟨by (with_reducible repeat (first | apply Kd.R_alloc | apply Kd.R_drewN | apply Kd.R_drew)); exact HO_6.out⟩, ⟨by (with_reducible repeat (first | apply Kd.R_alloc | apply Kd.R_drewN | apply Kd.R_drew)); exact HO_9.out⟩, ⟨by repeat (first | (with_reducible first | exact HB.out | apply below_alloc | apply pw_below_drewN | apply below_drew1) | exact HB.out)⟩⟩
        ·replace c36 := Bool.eq_false_iff.mpr c36
         subst c36
         have H1 : (laws_FnExactWriteSave.j1 kj9 a0 l1 t219 t220 t226 true) = some r := by rw [if_neg (show ¬ (false = true) by decide)] at H; exact H
         clear H
         have H := H1
         clear H1
         have H' := Aside0.mk H
         clear H
         obtain ⟨Ao39, co39, eo39⟩ := Kd.R_slice HO_9.out
         subst eo39
         obtain ⟨Ao40, co40, eo40⟩ := Kd.R_slice HO_6.out
         subst eo40
         go_wp2_with (first | (go_at_call 8; (with_reducible refine (laws_eqByteS.calls kj9 _ _ t226 _ _ t219 false _ ?side1 ?side2 ?side3 ?side4 A35.out).mono ?_); (case side1 => repeat (first | exact (Kd.R_reads' HO_9.out).2.2 | (with_reducible refine Kd.C_alloc ?_ _) | (with_reducible refine Kd.C_drewN ?_ _) | (with_reducible refine Kd.C_drew ?_))); (case side2 => exact (Kd.R_reads' HO_9.out).2.1); (case side3 => repeat (first | exact (Kd.R_reads' HO_6.out).2.2 | (with_reducible refine Kd.C_alloc ?_ _) | (with_reducible refine Kd.C_drewN ?_ _) | (with_reducible refine Kd.C_drew ?_))); (case side4 => exact (Kd.R_reads' HO_6.out).2.1); rintro e w' ⟨rfl, ⟨nd, rfl⟩⟩))
         go_meet
         case rel => exact ⟨_, (true), (by first | rfl | (simp; done) | (simp [*]; done) | exact not_isEmpty _ | exact (not_isEmpty _).symm | exact is_empty _ | exact (is_empty _).symm), H', ⟨by have := HJ9.out; first | omega | exact Nat.le_refl _⟩, ⟨by (with_reducible repeat (first | apply Kd.R_alloc | apply Kd.R_drewN | apply Kd.R_drew)); exact HO_6.out⟩, ⟨by (with_reducible repeat (first | apply Kd.R_alloc | apply Kd.R_drewN | apply Kd.R_drew)); exact HO_9.out⟩, ⟨by repeat (first | (with_reducible first | exact HB.out | apply below_alloc | apply pw_below_drewN | apply below_drew1) | exact HB.out)⟩⟩
      case rest =>
       clear HC29
       try clear c1
       try clear c2
       try clear p2
       try clear c3
       try clear c4
       try clear c4b0
       try clear c5
       try clear c6
       try clear c7
       try clear c8
       try clear c9
       try clear c10
       try clear c19
       try clear c24
       try clear c27
       try clear c34
       try clear c34b0
       try clear c36
       try clear p2
       obtain ⟨kq, x65_28, rfl, HA, HJ28, HO_6, HO_9, HB⟩ := hcut
       cases kq with
       | zero => exact absurd HA.out (by simp [laws_FnExactWriteSave.j1])
       | succ kj28 =>
        have H := HA.out
        clear HA
        simp only [laws_FnExactWriteSave.j1] at H
        by_cases c41 : x65_28 = true
        ·subst c41
         have H1 : (some false) = some r := by rw [if_pos rfl] at H; exact H
         clear H
         have H := H1
         clear H1
         obtain rfl := Option.some.inj H
         go_wp2
         go_ret
         exact ⟨by first | rfl | (simp [errW_none, errW_some] <;> rfl) | (simp [*, errW_none, errW_some] <;> rfl), by repeat (first | (with_reducible first | exact HB.out | apply below_alloc | apply pw_below_drewN | apply below_drew1) | exact HB.out)⟩
        ·replace c41 := Bool.eq_false_iff.mpr c41
         subst c41
         have H1 : ((laws_markByteS.f kj28 t226 1).bind fun bt238 => ((laws_heldByteS.f kj28 bt238.2 1).bind fun t240 => (if t240 < 0 then (some false) else (if t240 = bt238.1 then ((laws_toValueS.f kj28 l1).bind fun t241 => ((impl_WriteSave.f kj28 a0 t241).bind fun bt244 => ((laws_eqByteS.f kj28 bt244.1 t219).bind fun t248 => (if t248 = true then (laws_FnExactWriteSave.j2 kj28 bt238.2 bt238.1 (bt244.2 != t220)) else (laws_FnExactWriteSave.j2 kj28 bt238.2 bt238.1 true))))) else (some false))))) = some r := by rw [if_neg (show ¬ (false = true) by decide)] at H; exact H
         clear H
         have H := H1
         clear H1
         replace H := Option.bind_eq_some_iff.mp H
         obtain ⟨⟨t238, t239⟩, A420, H⟩ := H
         replace H : ((laws_heldByteS.f kj28 t239 1).bind fun t240 => (if t240 < 0 then (some false) else (if t240 = t238 then ((laws_toValueS.f kj28 l1).bind fun t241 => ((impl_WriteSave.f kj28 a0 t241).bind fun bt244 => ((laws_eqByteS.f kj28 bt244.1 t219).bind fun t248 => (if t248 = true then (laws_FnExactWriteSave.j2 kj28 t239 t238 (bt244.2 != t220)) else (laws_FnExactWriteSave.j2 kj28 t239 t238 true))))) else (some false)))) = some r := H
         have A42 := Aside0.mk A420
         clear A420
         replace H := Option.bind_eq_some_iff.mp H
         obtain ⟨t240, A430, H⟩ := H
         replace H : (if t240 < 0 then (some false) else (if t240 = t238 then ((laws_toValueS.f kj28 l1).bind fun t241 => ((impl_WriteSave.f kj28 a0 t241).bind fun bt244 => ((laws_eqByteS.f kj28 bt244.1 t219).bind fun t248 => (if t248 = true then (laws_FnExactWriteSave.j2 kj28 t239 t238 (bt244.2 != t220)) else (laws_FnExactWriteSave.j2 kj28 t239 t238 true))))) else (some false))) = some r := H
         have A43 := Aside0.mk A430
         clear A430
         by_cases c44 : t240 < 0
         ·rw [if_pos c44] at H
          have c44b0 : decide (t240 < 0) = true := decide_eq_true c44
          clear c44
          obtain rfl := Option.some.inj H
          obtain ⟨Ao45, co45, eo45⟩ := Kd.R_slice HO_9.out
          subst eo45
          go_wp2_with (first | ((with_reducible refine gate_callee (f := 11) rfl ?_); refine goesL_ (some 68) rfl rfl Try.func11 (by kernel_rfl) rfl #[.slice Ao45 t226.length co45, .int .i64 1] rfl (by (try simp only [List.map_toArray, List.map_cons, List.map_nil]); first | done | rfl | (simp only [List.length_drop, List.length_take]; rfl)) ?_; (with_reducible refine (laws_markByteS.calls kj28 (fun k_ => some k_ = (.slice Ao45 t226.length co45 : Value).ownBlock) (.slice Ao45 t226.length co45) t226 1 t238 t239 w _ ?side1 ?side2 A42.out).mono ?_); (case side1 => repeat (first | (with_reducible first | exact HB.out | apply below_alloc | apply pw_below_drewN | apply below_drew1) | exact HB.out)); (case side2 => exact Kd.R_tight rfl HO_9.out); rintro e w46 ⟨rfl, hy0, hb, hkp⟩; refine ⟨_, rfl, ?_⟩; have n0_ := Aside0.mk (Kd.R_mono (ok' := fun k_ => some k_ ≠ (.slice Ao45 t226.length co45 : Value).ownBlock) (Kd.R_keptB (HO_6.out) hkp (fun k_ hk_ hs_ => (hk_) hs_)) (fun k_ hk_ => hk_.1)); have n1_ := Aside0.mk (Kd.R_reok rfl hy0 (fun k_ e_ => HO_9.out.1 k_ e_)); have n2_ := Aside0.mk (hb); clear HO_6; clear HO_9; clear HB; have HO_6 := n0_; have HO_9 := n1_; have HB := n2_; clear n0_ n1_ n2_; (try clear hb); (try clear hkp); (try clear hy0)) | ((with_reducible refine gate_callee (f := 12) rfl ?_); refine goesL_ (some 71) rfl rfl Try.func12 (by kernel_rfl) rfl #[.slice Ao45 t239.length co45, .int .i64 1] rfl (by (try simp only [List.map_toArray, List.map_cons, List.map_nil]); first | done | (rw [show t239.length = t226.length from (Kd.R_reads' HO_9.out).1.symm] <;> rfl) | rfl | (simp only [List.length_drop, List.length_take]; rfl)) ?_; (with_reducible refine (laws_heldByteS.calls kj28 _ _ t239 1 t240 _ ?side1 ?side2 A43.out).mono ?_); (case side1 => repeat (first | exact (Kd.R_reads' HO_9.out).2.2 | (with_reducible refine Kd.C_alloc ?_ _) | (with_reducible refine Kd.C_drewN ?_ _) | (with_reducible refine Kd.C_drew ?_))); (case side2 => rw [show t239.length = t226.length from (Kd.R_reads' HO_9.out).1.symm]; exact (Kd.R_reads' HO_9.out).2.1); rintro e w' ⟨rfl, ⟨nd, rfl⟩⟩; refine ⟨_, rfl, ?_⟩))
          go_ret
          exact ⟨by first | rfl | (simp [errW_none, errW_some] <;> rfl) | (simp [*, errW_none, errW_some] <;> rfl), by repeat (first | (with_reducible first | exact HB.out | apply below_alloc | apply pw_below_drewN | apply below_drew1) | exact HB.out)⟩
         ·rw [if_neg c44] at H
          have c44b0 : decide (t240 < 0) = false := decide_eq_false c44
          clear c44
          by_cases c47 : t240 = t238
          ·rw [if_pos c47] at H
           have c47b0 : (t240 == t238) = true := beq_iff_eq.mpr c47
           have c47b1 : (t240 != t238) = false := bne_eq_false_iff_eq.mpr c47
           clear c47
           replace H := Option.bind_eq_some_iff.mp H
           obtain ⟨t241, A480, H⟩ := H
           replace H : ((impl_WriteSave.f kj28 a0 t241).bind fun bt244 => ((laws_eqByteS.f kj28 bt244.1 t219).bind fun t248 => (if t248 = true then (laws_FnExactWriteSave.j2 kj28 t239 t238 (bt244.2 != t220)) else (laws_FnExactWriteSave.j2 kj28 t239 t238 true)))) = some r := H
           have A48 := Aside0.mk A480
           clear A480
           replace H := Option.bind_eq_some_iff.mp H
           obtain ⟨⟨t244, t245⟩, A490, H⟩ := H
           replace H : ((laws_eqByteS.f kj28 t244 t219).bind fun t248 => (if t248 = true then (laws_FnExactWriteSave.j2 kj28 t239 t238 (t245 != t220)) else (laws_FnExactWriteSave.j2 kj28 t239 t238 true))) = some r := H
           have A49 := Aside0.mk A490
           clear A490
           have HC50 := Aside0.mk H
           clear H
           obtain ⟨Ao51, co51, eo51⟩ := Kd.R_slice HO_9.out
           subst eo51
           go_upto_region 25 with (first | ((with_reducible refine gate_callee (f := 11) rfl ?_); refine goesL_ (some 68) rfl rfl Try.func11 (by kernel_rfl) rfl #[.slice Ao51 t226.length co51, .int .i64 1] rfl (by (try simp only [List.map_toArray, List.map_cons, List.map_nil]); first | done | rfl | (simp only [List.length_drop, List.length_take]; rfl)) ?_; (with_reducible refine (laws_markByteS.calls kj28 (fun k_ => some k_ = (.slice Ao51 t226.length co51 : Value).ownBlock) (.slice Ao51 t226.length co51) t226 1 t238 t239 w _ ?side1 ?side2 A42.out).mono ?_); (case side1 => repeat (first | (with_reducible first | exact HB.out | apply below_alloc | apply pw_below_drewN | apply below_drew1) | exact HB.out)); (case side2 => exact Kd.R_tight rfl HO_9.out); rintro e w52 ⟨rfl, hy0, hb, hkp⟩; refine ⟨_, rfl, ?_⟩; have n0_ := Aside0.mk (Kd.R_mono (ok' := fun k_ => some k_ ≠ (.slice Ao51 t226.length co51 : Value).ownBlock) (Kd.R_keptB (HO_6.out) hkp (fun k_ hk_ hs_ => (hk_) hs_)) (fun k_ hk_ => hk_.1)); have n1_ := Aside0.mk (Kd.R_reok rfl hy0 (fun k_ e_ => HO_9.out.1 k_ e_)); have n2_ := Aside0.mk (hb); clear HO_6; clear HO_9; clear HB; have HO_6 := n0_; have HO_9 := n1_; have HB := n2_; clear n0_ n1_ n2_; (try clear hb); (try clear hkp); (try clear hy0)) | ((with_reducible refine gate_callee (f := 12) rfl ?_); refine goesL_ (some 71) rfl rfl Try.func12 (by kernel_rfl) rfl #[.slice Ao51 t239.length co51, .int .i64 1] rfl (by (try simp only [List.map_toArray, List.map_cons, List.map_nil]); first | done | (rw [show t239.length = t226.length from (Kd.R_reads' HO_9.out).1.symm] <;> rfl) | rfl | (simp only [List.length_drop, List.length_take]; rfl)) ?_; (with_reducible refine (laws_heldByteS.calls kj28 _ _ t239 1 t240 _ ?side1 ?side2 A43.out).mono ?_); (case side1 => repeat (first | exact (Kd.R_reads' HO_9.out).2.2 | (with_reducible refine Kd.C_alloc ?_ _) | (with_reducible refine Kd.C_drewN ?_ _) | (with_reducible refine Kd.C_drew ?_))); (case side2 => rw [show t239.length = t226.length from (Kd.R_reads' HO_9.out).1.symm]; exact (Kd.R_reads' HO_9.out).2.1); rintro e w' ⟨rfl, ⟨nd, rfl⟩⟩; refine ⟨_, rfl, ?_⟩) | ((with_reducible refine gate_callee (f := 6) rfl ?_); refine goesL_ (some 80) rfl rfl Try.func6 (by kernel_rfl) rfl #[.slice A1 l1.length c1] rfl (by (try simp only [List.map_toArray, List.map_cons, List.map_nil]); first | done | rfl | (simp only [List.length_drop, List.length_take]; rfl)) ?_; (with_reducible refine (laws_toValueS.calls kj28 _ _ l1 t241 _ ?side1 ?side2 A48.out).mono ?_); (case side1 => repeat (first | exact (Kd.C_below HR1.out (by repeat (first | (with_reducible first | exact HB.out | apply below_alloc | apply pw_below_drewN | apply below_drew1) | exact HB.out))) | (with_reducible refine Kd.C_alloc ?_ _) | (with_reducible refine Kd.C_drewN ?_ _) | (with_reducible refine Kd.C_drew ?_))); (case side2 => exact HC1.out); rintro e w53 ⟨v242, rfl, ho0, hb⟩; refine ⟨_, rfl, ?_⟩; have n0_ := Aside0.mk (Kd.R_below (by (with_reducible repeat (first | apply Kd.R_alloc | apply Kd.R_drewN | apply Kd.R_drew)); exact HO_6.out) hb); have n1_ := Aside0.mk (Kd.R_below (by (with_reducible repeat (first | apply Kd.R_alloc | apply Kd.R_drewN | apply Kd.R_drew)); exact HO_9.out) hb); have n2_ := Aside0.mk (Kd.R_lower ho0 (below_size (by repeat (first | (with_reducible first | exact HB.out | apply below_alloc | apply pw_below_drewN | apply below_drew1) | exact HB.out)))); have n3_ := Aside0.mk (below_step (by repeat (first | (with_reducible first | exact HB.out | apply below_alloc | apply pw_below_drewN | apply below_drew1) | exact HB.out)) hb); clear HO_6; clear HO_9; clear HB; have HO_6 := n0_; have HO_9 := n1_; have HO243 := n2_; have HB := n3_; clear n0_ n1_ n2_ n3_; (try clear hb); (try clear hb2); (try clear hk); (try clear hi); (try clear ho0); obtain ⟨Ao54, co54, eo54⟩ := Kd.R_slice HO243.out; subst eo54) | ((with_reducible refine gate_callee (f := 7) rfl ?_); refine goesL_ (some 81) rfl rfl Try.func7 (by kernel_rfl) rfl #[.int .i64 a0, .slice Ao54 t241.length co54] rfl (by (try simp only [List.map_toArray, List.map_cons, List.map_nil]); first | done | rfl | (simp only [List.length_drop, List.length_take]; rfl)) ?_; (with_reducible refine (impl_WriteSave.calls kj28 a0 _ _ t241 t244 t245 _ ?side1 ?side2 A49.out).mono ?_); (case side1 => repeat (first | exact (Kd.R_reads' HO243.out).2.2 | (with_reducible refine Kd.C_alloc ?_ _) | (with_reducible refine Kd.C_drewN ?_ _) | (with_reducible refine Kd.C_drew ?_))); (case side2 => exact (Kd.R_reads' HO243.out).2.1); rintro e w55 ⟨v246, rfl, ho0, hb⟩; refine ⟨_, rfl, ?_⟩; have n0_ := Aside0.mk (Kd.R_elder' (by (with_reducible repeat (first | apply Kd.R_alloc | apply Kd.R_drewN | apply Kd.R_drew)); exact HO_6.out) (Kd.R_base ho0) hb); have n1_ := Aside0.mk (Kd.R_elder' (by (with_reducible repeat (first | apply Kd.R_alloc | apply Kd.R_drewN | apply Kd.R_drew)); exact HO_9.out) (Kd.R_base ho0) hb); have n2_ := Aside0.mk (Kd.R_below (by (with_reducible repeat (first | apply Kd.R_alloc | apply Kd.R_drewN | apply Kd.R_drew)); exact HO243.out) hb); have n3_ := Aside0.mk (Kd.R_lower (Kd.R_new' (Kd.R_new' ho0 (Kd.R_lt (by (with_reducible repeat (first | apply Kd.R_alloc | apply Kd.R_drewN | apply Kd.R_drew)); exact HO_6.out))) (Kd.R_lt (by (with_reducible repeat (first | apply Kd.R_alloc | apply Kd.R_drewN | apply Kd.R_drew)); exact HO_9.out))) (below_size (by repeat (first | (with_reducible first | exact HB.out | apply below_alloc | apply pw_below_drewN | apply below_drew1) | exact HB.out)))); have n4_ := Aside0.mk (below_step (by repeat (first | (with_reducible first | exact HB.out | apply below_alloc | apply pw_below_drewN | apply below_drew1) | exact HB.out)) hb); clear HO_6; clear HO_9; clear HO243; clear HB; have HO_6 := n0_; have HO_9 := n1_; have HO243 := n2_; have HO247 := n3_; have HB := n4_; clear n0_ n1_ n2_ n3_ n4_; (try clear hb); (try clear hb2); (try clear hk); (try clear hi); (try clear ho0)))
           (try simp only [Act.put, List.setIfInBounds_toArray, List.set_cons_zero, List.set_cons_succ])
           go_cut [92] (fun v92 wc => ∃ (kq : Nat) (x92_49 : Bool), v92 = .bool x92_49 ∧ Aside0 (laws_FnExactWriteSave.j2 kq t239 t238 x92_49 = some r) ∧ Aside0 (kq ≤ kj28) ∧ Aside0 (Kd.R (Kd.int .u8) 5 wc w.heap.size (fun _ => True) (.slice Ao51 t226.length co51) t239) ∧ Aside0 (Below w.heap.size w wc))
           case first =>
            have H := HC50.out
            clear HC50
            replace H := Option.bind_eq_some_iff.mp H
            obtain ⟨t248, A560, H⟩ := H
            replace H : (if t248 = true then (laws_FnExactWriteSave.j2 kj28 t239 t238 (t245 != t220)) else (laws_FnExactWriteSave.j2 kj28 t239 t238 true)) = some r := H
            have A56 := Aside0.mk A560
            clear A560
            by_cases c57 : t248 = true
            ·subst c57
             have H1 : (laws_FnExactWriteSave.j2 kj28 t239 t238 (t245 != t220)) = some r := by rw [if_pos rfl] at H; exact H
             clear H
             have H := H1
             clear H1
             have H' := Aside0.mk H
             clear H
             obtain ⟨Ao58, co58, eo58⟩ := Kd.R_slice HO247.out
             subst eo58
             obtain ⟨Ao59, co59, eo59⟩ := Kd.R_slice HO_6.out
             subst eo59
             go_wp2_with (first | ((with_reducible refine gate_callee (f := 8) rfl ?_); refine goesL_ (some 86) rfl rfl Try.func8 (by kernel_rfl) rfl #[.slice Ao58 t244.length co58, .slice Ao59 t219.length co59] rfl (by (try simp only [List.map_toArray, List.map_cons, List.map_nil]); first | done | rfl | (simp only [List.length_drop, List.length_take]; rfl)) ?_; (with_reducible refine (laws_eqByteS.calls kj28 _ _ t244 _ _ t219 true _ ?side1 ?side2 ?side3 ?side4 A56.out).mono ?_); (case side1 => repeat (first | exact (Kd.R_reads' HO247.out).2.2 | (with_reducible refine Kd.C_alloc ?_ _) | (with_reducible refine Kd.C_drewN ?_ _) | (with_reducible refine Kd.C_drew ?_))); (case side2 => exact (Kd.R_reads' HO247.out).2.1); (case side3 => repeat (first | exact (Kd.R_reads' HO_6.out).2.2 | (with_reducible refine Kd.C_alloc ?_ _) | (with_reducible refine Kd.C_drewN ?_ _) | (with_reducible refine Kd.C_drew ?_))); (case side4 => exact (Kd.R_reads' HO_6.out).2.1); rintro e w' ⟨rfl, ⟨nd, rfl⟩⟩; refine ⟨_, rfl, ?_⟩))
             go_meet
             case rel => exact ⟨_, ((t245 != t220)), (by first | rfl | (simp; done) | (simp [*]; done) | exact not_isEmpty _ | exact (not_isEmpty _).symm | exact is_empty _ | exact (is_empty _).symm), H', ⟨by have := HJ9.out; have := HJ28.out; first | omega | exact Nat.le_refl _⟩, ⟨by (with_reducible repeat (first | apply Kd.R_alloc | apply Kd.R_drewN | apply Kd.R_drew)); exact Kd.R_mono HO_9.out (fun _ hk => trivial)⟩, ⟨by repeat (first | (with_reducible first | exact HB.out | apply below_alloc | apply pw_below_drewN | apply below_drew1) | exact HB.out)⟩⟩
            ·replace c57 := Bool.eq_false_iff.mpr c57
             subst c57
             have H1 : (laws_FnExactWriteSave.j2 kj28 t239 t238 true) = some r := by rw [if_neg (show ¬ (false = true) by decide)] at H; exact H
             clear H
             have H := H1
             clear H1
             have H' := Aside0.mk H
             clear H
             obtain ⟨Ao60, co60, eo60⟩ := Kd.R_slice HO247.out
             subst eo60
             obtain ⟨Ao61, co61, eo61⟩ := Kd.R_slice HO_6.out
             subst eo61
             go_wp2_with (first | ((with_reducible refine gate_callee (f := 8) rfl ?_); refine goesL_ (some 86) rfl rfl Try.func8 (by kernel_rfl) rfl #[.slice Ao60 t244.length co60, .slice Ao61 t219.length co61] rfl (by (try simp only [List.map_toArray, List.map_cons, List.map_nil]); first | done | rfl | (simp only [List.length_drop, List.length_take]; rfl)) ?_; (with_reducible refine (laws_eqByteS.calls kj28 _ _ t244 _ _ t219 false _ ?side1 ?side2 ?side3 ?side4 A56.out).mono ?_); (case side1 => repeat (first | exact (Kd.R_reads' HO247.out).2.2 | (with_reducible refine Kd.C_alloc ?_ _) | (with_reducible refine Kd.C_drewN ?_ _) | (with_reducible refine Kd.C_drew ?_))); (case side2 => exact (Kd.R_reads' HO247.out).2.1); (case side3 => repeat (first | exact (Kd.R_reads' HO_6.out).2.2 | (with_reducible refine Kd.C_alloc ?_ _) | (with_reducible refine Kd.C_drewN ?_ _) | (with_reducible refine Kd.C_drew ?_))); (case side4 => exact (Kd.R_reads' HO_6.out).2.1); rintro e w' ⟨rfl, ⟨nd, rfl⟩⟩; refine ⟨_, rfl, ?_⟩))
             go_meet
             case rel => exact ⟨_, (true), (by first | rfl | (simp; done) | (simp [*]; done) | exact not_isEmpty _ | exact (not_isEmpty _).symm | exact is_empty _ | exact (is_empty _).symm), H', ⟨by have := HJ9.out; have := HJ28.out; first | omega | exact Nat.le_refl _⟩, ⟨by (with_reducible repeat (first | apply Kd.R_alloc | apply Kd.R_drewN | apply Kd.R_drew)); exact Kd.R_mono HO_9.out (fun _ hk => trivial)⟩, ⟨by repeat (first | (with_reducible first | exact HB.out | apply below_alloc | apply pw_below_drewN | apply below_drew1) | exact HB.out)⟩⟩
           case rest =>
            clear HC50
            try clear c1
            try clear c2
            try clear p2
            try clear c3
            try clear c4
            try clear c4b0
            try clear c5
            try clear c6
            try clear c7
            try clear c8
            try clear c9
            try clear c10
            try clear c11
            try clear c12
            try clear c19
            try clear c24
            try clear c27
            try clear c34
            try clear c34b0
            try clear c36
            try clear c41
            try clear c44
            try clear c44b0
            try clear c47
            try clear c47b0
            try clear c47b1
            try clear c57
            try clear p2
            obtain ⟨kq, x92_49, rfl, HA, HJ49, HO_9, HB⟩ := hcut
            have hl9_49 := (Kd.R_reads' HO_9.out).1
            rw [hl9_49] at HO_9
            (try simp only [hl9_49])
            cases kq with
            | zero => exact absurd HA.out (by simp [laws_FnExactWriteSave.j2])
            | succ kj49 =>
             have H := HA.out
             clear HA
             simp only [laws_FnExactWriteSave.j2] at H
             by_cases c62 : x92_49 = true
             ·subst c62
              have H1 : (some false) = some r := by rw [if_pos rfl] at H; exact H
              clear H
              have H := H1
              clear H1
              obtain rfl := Option.some.inj H
              go_wp2
              go_ret
              exact ⟨by first | rfl | (simp [errW_none, errW_some] <;> rfl) | (simp [*, errW_none, errW_some] <;> rfl), by repeat (first | (with_reducible first | exact HB.out | apply below_alloc | apply pw_below_drewN | apply below_drew1) | exact HB.out)⟩
             ·replace c62 := Bool.eq_false_iff.mpr c62
              subst c62
              have H1 : ((laws_heldByteS.f kj49 t239 1).bind fun t249 => (if t249 < 0 then (some false) else (if t249 = t238 then (some true) else (some false)))) = some r := by rw [if_neg (show ¬ (false = true) by decide)] at H; exact H
              clear H
              have H := H1
              clear H1
              replace H := Option.bind_eq_some_iff.mp H
              obtain ⟨t249, A630, H⟩ := H
              replace H : (if t249 < 0 then (some false) else (if t249 = t238 then (some true) else (some false))) = some r := H
              have A63 := Aside0.mk A630
              clear A630
              by_cases c64 : t249 < 0
              ·rw [if_pos c64] at H
               have c64b0 : decide (t249 < 0) = true := decide_eq_true c64
               clear c64
               obtain rfl := Option.some.inj H
               go_wp2_with (first | ((with_reducible refine gate_callee (f := 12) rfl ?_); refine goesL_ (some 95) rfl rfl Try.func12 (by kernel_rfl) rfl #[.slice Ao51 t239.length co51, .int .i64 1] rfl (by (try simp only [List.map_toArray, List.map_cons, List.map_nil]); first | done | rfl | (simp only [List.length_drop, List.length_take]; rfl)) ?_; (with_reducible refine (laws_heldByteS.calls kj49 _ _ t239 1 t249 _ ?side1 ?side2 A63.out).mono ?_); (case side1 => repeat (first | exact (Kd.R_reads' HO_9.out).2.2 | (with_reducible refine Kd.C_alloc ?_ _) | (with_reducible refine Kd.C_drewN ?_ _) | (with_reducible refine Kd.C_drew ?_))); (case side2 => exact (Kd.R_reads' HO_9.out).2.1); rintro e w' ⟨rfl, ⟨nd, rfl⟩⟩; refine ⟨_, rfl, ?_⟩))
               go_ret
               exact ⟨by first | rfl | (simp [errW_none, errW_some] <;> rfl) | (simp [*, errW_none, errW_some] <;> rfl), by repeat (first | (with_reducible first | exact HB.out | apply below_alloc | apply pw_below_drewN | apply below_drew1) | exact HB.out)⟩
              ·rw [if_neg c64] at H
               have c64b0 : decide (t249 < 0) = false := decide_eq_false c64
               clear c64
               by_cases c65 : t249 = t238
               ·rw [if_pos c65] at H
                have c65b0 : (t249 == t238) = true := beq_iff_eq.mpr c65
                have c65b1 : (t249 != t238) = false := bne_eq_false_iff_eq.mpr c65
                clear c65
                obtain rfl := Option.some.inj H
                go_wp2_with (first | ((with_reducible refine gate_callee (f := 12) rfl ?_); refine goesL_ (some 95) rfl rfl Try.func12 (by kernel_rfl) rfl #[.slice Ao51 t239.length co51, .int .i64 1] rfl (by (try simp only [List.map_toArray, List.map_cons, List.map_nil]); first | done | rfl | (simp only [List.length_drop, List.length_take]; rfl)) ?_; (with_reducible refine (laws_heldByteS.calls kj49 _ _ t239 1 t249 _ ?side1 ?side2 A63.out).mono ?_); (case side1 => repeat (first | exact (Kd.R_reads' HO_9.out).2.2 | (with_reducible refine Kd.C_alloc ?_ _) | (with_reducible refine Kd.C_drewN ?_ _) | (with_reducible refine Kd.C_drew ?_))); (case side2 => exact (Kd.R_reads' HO_9.out).2.1); rintro e w' ⟨rfl, ⟨nd, rfl⟩⟩; refine ⟨_, rfl, ?_⟩))
                go_ret
                exact ⟨by first | rfl | (simp [errW_none, errW_some] <;> rfl) | (simp [*, errW_none, errW_some] <;> rfl), by repeat (first | (with_reducible first | exact HB.out | apply below_alloc | apply pw_below_drewN | apply below_drew1) | exact HB.out)⟩
               ·rw [if_neg c65] at H
                have c65b0 : (t249 == t238) = false := beq_eq_false_iff_ne.mpr c65
                have c65b1 : (t249 != t238) = true := bne_iff_ne.mpr c65
                obtain rfl := Option.some.inj H
                go_wp2_with (first | ((with_reducible refine gate_callee (f := 12) rfl ?_); refine goesL_ (some 95) rfl rfl Try.func12 (by kernel_rfl) rfl #[.slice Ao51 t239.length co51, .int .i64 1] rfl (by (try simp only [List.map_toArray, List.map_cons, List.map_nil]); first | done | rfl | (simp only [List.length_drop, List.length_take]; rfl)) ?_; (with_reducible refine (laws_heldByteS.calls kj49 _ _ t239 1 t249 _ ?side1 ?side2 A63.out).mono ?_); (case side1 => repeat (first | exact (Kd.R_reads' HO_9.out).2.2 | (with_reducible refine Kd.C_alloc ?_ _) | (with_reducible refine Kd.C_drewN ?_ _) | (with_reducible refine Kd.C_drew ?_))); (case side2 => exact (Kd.R_reads' HO_9.out).2.1); rintro e w' ⟨rfl, ⟨nd, rfl⟩⟩; refine ⟨_, rfl, ?_⟩))
                go_ret
                exact ⟨by first | rfl | (simp [errW_none, errW_some] <;> rfl) | (simp [*, errW_none, errW_some] <;> rfl), by repeat (first | (with_reducible first | exact HB.out | apply below_alloc | apply pw_below_drewN | apply below_drew1) | exact HB.out)⟩
          ·rw [if_neg c47] at H
           have c47b0 : (t240 == t238) = false := beq_eq_false_iff_ne.mpr c47
           have c47b1 : (t240 != t238) = true := bne_iff_ne.mpr c47
           obtain rfl := Option.some.inj H
           obtain ⟨Ao66, co66, eo66⟩ := Kd.R_slice HO_9.out
           subst eo66
           go_wp2_with (first | ((with_reducible refine gate_callee (f := 11) rfl ?_); refine goesL_ (some 68) rfl rfl Try.func11 (by kernel_rfl) rfl #[.slice Ao66 t226.length co66, .int .i64 1] rfl (by (try simp only [List.map_toArray, List.map_cons, List.map_nil]); first | done | rfl | (simp only [List.length_drop, List.length_take]; rfl)) ?_; (with_reducible refine (laws_markByteS.calls kj28 (fun k_ => some k_ = (.slice Ao66 t226.length co66 : Value).ownBlock) (.slice Ao66 t226.length co66) t226 1 t238 t239 w _ ?side1 ?side2 A42.out).mono ?_); (case side1 => repeat (first | (with_reducible first | exact HB.out | apply below_alloc | apply pw_below_drewN | apply below_drew1) | exact HB.out)); (case side2 => exact Kd.R_tight rfl HO_9.out); rintro e w67 ⟨rfl, hy0, hb, hkp⟩; refine ⟨_, rfl, ?_⟩; have n0_ := Aside0.mk (Kd.R_mono (ok' := fun k_ => some k_ ≠ (.slice Ao66 t226.length co66 : Value).ownBlock) (Kd.R_keptB (HO_6.out) hkp (fun k_ hk_ hs_ => (hk_) hs_)) (fun k_ hk_ => hk_.1)); have n1_ := Aside0.mk (Kd.R_reok rfl hy0 (fun k_ e_ => HO_9.out.1 k_ e_)); have n2_ := Aside0.mk (hb); clear HO_6; clear HO_9; clear HB; have HO_6 := n0_; have HO_9 := n1_; have HB := n2_; clear n0_ n1_ n2_; (try clear hb); (try clear hkp); (try clear hy0)) | ((with_reducible refine gate_callee (f := 12) rfl ?_); refine goesL_ (some 71) rfl rfl Try.func12 (by kernel_rfl) rfl #[.slice Ao66 t239.length co66, .int .i64 1] rfl (by (try simp only [List.map_toArray, List.map_cons, List.map_nil]); first | done | (rw [show t239.length = t226.length from (Kd.R_reads' HO_9.out).1.symm] <;> rfl) | rfl | (simp only [List.length_drop, List.length_take]; rfl)) ?_; (with_reducible refine (laws_heldByteS.calls kj28 _ _ t239 1 t240 _ ?side1 ?side2 A43.out).mono ?_); (case side1 => repeat (first | exact (Kd.R_reads' HO_9.out).2.2 | (with_reducible refine Kd.C_alloc ?_ _) | (with_reducible refine Kd.C_drewN ?_ _) | (with_reducible refine Kd.C_drew ?_))); (case side2 => rw [show t239.length = t226.length from (Kd.R_reads' HO_9.out).1.symm]; exact (Kd.R_reads' HO_9.out).2.1); rintro e w' ⟨rfl, ⟨nd, rfl⟩⟩; refine ⟨_, rfl, ?_⟩))
           go_ret
           exact ⟨by first | rfl | (simp [errW_none, errW_some] <;> rfl) | (simp [*, errW_none, errW_some] <;> rfl), by repeat (first | (with_reducible first | exact HB.out | apply below_alloc | apply pw_below_drewN | apply below_drew1) | exact HB.out)⟩
     ·replace c27 := Bool.eq_false_iff.mpr c27
      subst c27
      have H1 : (some false) = some r := by rw [if_neg (show ¬ (false = true) by decide)] at H; exact H
      clear H
      have H := H1
      clear H1
      obtain rfl := Option.some.inj H
      go_wp2_with (first | ((with_reducible refine gate_callee (f := 6) rfl ?_); refine goesL_ (some 47) rfl rfl Try.func6 (by kernel_rfl) rfl #[.slice A1 l1.length c1] rfl (by (try simp only [List.map_toArray, List.map_cons, List.map_nil]); first | done | rfl | (simp only [List.length_drop, List.length_take]; rfl)) ?_; (with_reducible refine (laws_toValueS.calls kj9 _ _ l1 t231 _ ?side1 ?side2 A25.out).mono ?_); (case side1 => repeat (first | exact (Kd.C_below HR1.out HB.out) | (with_reducible refine Kd.C_alloc ?_ _) | (with_reducible refine Kd.C_drewN ?_ _) | (with_reducible refine Kd.C_drew ?_))); (case side2 => exact HC1.out); rintro e w68 ⟨v232, rfl, ho0, hb⟩; refine ⟨_, rfl, ?_⟩; have n0_ := Aside0.mk (Kd.R_below (by (with_reducible repeat (first | apply Kd.R_alloc | apply Kd.R_drewN | apply Kd.R_drew)); exact HO_6.out) hb); have n1_ := Aside0.mk (Kd.R_elder' (by (with_reducible repeat (first | apply Kd.R_alloc | apply Kd.R_drewN | apply Kd.R_drew)); exact HO_8.out) (Kd.R_base ho0) hb); have n2_ := Aside0.mk (Kd.R_below (by (with_reducible repeat (first | apply Kd.R_alloc | apply Kd.R_drewN | apply Kd.R_drew)); exact HO_9.out) hb); have n3_ := Aside0.mk (Kd.R_lower (Kd.R_new' ho0 (Kd.R_lt (by (with_reducible repeat (first | apply Kd.R_alloc | apply Kd.R_drewN | apply Kd.R_drew)); exact HO_8.out))) (below_size (by repeat (first | (with_reducible first | exact HB.out | apply below_alloc | apply pw_below_drewN | apply below_drew1) | exact HB.out)))); have n4_ := Aside0.mk (below_step (by repeat (first | (with_reducible first | exact HB.out | apply below_alloc | apply pw_below_drewN | apply below_drew1) | exact HB.out)) hb); clear HO_6; clear HO_8; clear HO_9; clear HB; have HO_6 := n0_; have HO_8 := n1_; have HO_9 := n2_; have HO233 := n3_; have HB := n4_; clear n0_ n1_ n2_ n3_ n4_; (try clear hb); (try clear hb2); (try clear hk); (try clear hi); (try clear ho0); obtain ⟨Ao69, co69, eo69⟩ := Kd.R_slice HO233.out; subst eo69) | ((with_reducible refine gate_callee (f := 9) rfl ?_); refine goesL_ (some 48) rfl rfl Try.func9 (by kernel_rfl) rfl #[.slice Ao16 t223.length co16, .slice Ao69 t231.length co69] rfl (by (try simp only [List.map_toArray, List.map_cons, List.map_nil]); first | done | rfl | (simp only [List.length_drop, List.length_take]; rfl)) ?_; (with_reducible refine (laws_eqValueS.calls kj9 _ _ t223 _ _ t231 false _ ?side1 ?side2 ?side3 ?side4 A26.out).mono ?_); (case side1 => repeat (first | exact (Kd.R_reads' HO_8.out).2.2 | (with_reducible refine Kd.C_alloc ?_ _) | (with_reducible refine Kd.C_drewN ?_ _) | (with_reducible refine Kd.C_drew ?_))); (case side2 => exact (Kd.R_reads' HO_8.out).2.1); (case side3 => repeat (first | exact (Kd.R_reads' HO233.out).2.2 | (with_reducible refine Kd.C_alloc ?_ _) | (with_reducible refine Kd.C_drewN ?_ _) | (with_reducible refine Kd.C_drew ?_))); (case side4 => exact (Kd.R_reads' HO233.out).2.1); rintro e w70 ⟨rfl, hb⟩; refine ⟨_, rfl, ?_⟩; have n0_ := Aside0.mk (Kd.R_below (by (with_reducible repeat (first | apply Kd.R_alloc | apply Kd.R_drewN | apply Kd.R_drew)); exact HO_6.out) hb); have n1_ := Aside0.mk (Kd.R_below (by (with_reducible repeat (first | apply Kd.R_alloc | apply Kd.R_drewN | apply Kd.R_drew)); exact HO_8.out) hb); have n2_ := Aside0.mk (Kd.R_below (by (with_reducible repeat (first | apply Kd.R_alloc | apply Kd.R_drewN | apply Kd.R_drew)); exact HO_9.out) hb); have n3_ := Aside0.mk (Kd.R_below (by (with_reducible repeat (first | apply Kd.R_alloc | apply Kd.R_drewN | apply Kd.R_drew)); exact HO233.out) hb); have n4_ := Aside0.mk (below_step (by repeat (first | (with_reducible first | exact HB.out | apply below_alloc | apply pw_below_drewN | apply below_drew1) | exact HB.out)) hb); clear HO_6; clear HO_8; clear HO_9; clear HO233; clear HB; have HO_6 := n0_; have HO_8 := n1_; have HO_9 := n2_; have HO233 := n3_; have HB := n4_; clear n0_ n1_ n2_ n3_ n4_; (try clear hb); (try clear hb2); (try clear hk); (try clear hi)))
      go_ret
      exact ⟨by first | rfl | (simp [errW_none, errW_some] <;> rfl) | (simp [*, errW_none, errW_some] <;> rfl), by repeat (first | (with_reducible first | exact HB.out | apply below_alloc | apply pw_below_drewN | apply below_drew1) | exact HB.out)⟩
end Go.Proofs.Ytadabmnmnjicoaa.PFnExactWriteSave
namespace Go.Proofs.YtadabmnmnjicoaaO
open Go.ChangeShapes Go.WideShapes Go.Proofs.YtadabmnmnjicoaaW.PrintWords Go.RowKit
def In64 (n : Int) : Prop := -9223372036854775808 ≤ n ∧ n ≤ 9223372036854775807
def Opens {α : Type} (P : Program) (t : TypeId) (d : Kd α) (g : α → Prop) : Prop :=
  ∀ {H : Type} (enc : TypeId × Value → H) (w : World) (fuel : Nat) (cs : List Value) (y : DataW H) (ps : List MemPlace),
    DataW.trod enc P w 0 (fun _ => true) true fuel t cs = some (y, ps) → (∀ n ∈ y.weights P t, n ≤ reachBytes) → ∃ x, d.K w x cs ∧ g x
theorem Opens.imp {α : Type} {P : Program} {t : TypeId} {d : Kd α} {g g' : α → Prop} (h : Opens P t d g) (k : ∀ x, g x → g' x) : Opens P t d g' := by
  intro H enc w fuel cs y ps ht hw
  obtain ⟨x, hx, hg⟩ := h enc w fuel cs y ps ht hw
  exact ⟨x, hx, k x hg⟩
theorem opens_int {P : Program} {t : TypeId} {k : IntKind} (ht : P.underlying t = some (.int k)) : Opens P t (Kd.int k) (fun n => (Lit.int k n).wf = true) := by
  intro H enc w fuel cs y ps h _
  obtain ⟨n, rfl, _, hw⟩ := DataW.trod_int ht h
  exact ⟨n, rfl, hw⟩
theorem wf_i64 {n : Int} (h : (Lit.int .i64 n).wf = true) : In64 n := bounds_i64 h
theorem opens_i64 {P : Program} {t : TypeId} (ht : P.underlying t = some (.int .i64)) : Opens P t (Kd.int .i64) In64 := Opens.imp (opens_int ht) fun _ h => wf_i64 h
theorem opens_string {P : Program} {t : TypeId} (ht : P.underlying t = some .string) : Opens P t Kd.string (fun s => s.size ≤ 140737488351232) := by
  intro H enc w fuel cs y ps h hw
  obtain ⟨s, rfl, hx, _⟩ := DataW.trod_string ht h
  obtain ⟨rfl, _⟩ := Prod.mk.inj hx
  refine ⟨s, rfl, ?_⟩
  have := hw s.data.toList.length (by simp [DataW.weights])
  rw [Array.length_toList] at this
  exact this
theorem exists_list {α : Type} (p : Nat → α → Prop) : ∀ n : Nat, (∀ i, i < n → ∃ x, p i x) → ∃ xs : List α, xs.length = n ∧ ∀ i x, xs[i]? = some x → p i x
  | 0, _ => ⟨[], rfl, fun i x h => by simp at h⟩
  | n + 1, h => by
    obtain ⟨xs, hl, hx⟩ := exists_list p n (fun i hi => h i (by omega))
    obtain ⟨x, hp⟩ := h n (by omega)
    refine ⟨xs ++ [x], by simp [hl], fun i y hy => ?_⟩
    rcases Nat.lt_or_ge i xs.length with hi | hi
    · rw [List.getElem?_append_left hi] at hy
      exact hx i y hy
    · have : i = n := by
        have := (List.getElem?_eq_some_iff.1 hy).1
        rw [List.length_append, List.length_singleton] at this
        omega
      subst this
      rw [List.getElem?_append_right hi] at hy
      rw [hl] at hy
      simp at hy
      subst hy
      exact hp
theorem add_add (ad : Addr) (i j : Nat) : (ad.add i).add j = ad.add (i + j) := by
  unfold Addr.add
  by_cases h1 : i = 0 <;> by_cases h2 : j = 0 <;> simp [h1, h2, Nat.add_assoc]
theorem weightsAll_mem {H : Type} {P : Program} {e : TypeId} : ∀ {l : List (DataW H)} {d : DataW H}, d ∈ l → ∀ n ∈ d.weights P e, n ∈ DataW.weightsAll P e l
  | [], d, h, _, _ => by simp at h
  | x :: r, d, h, n, hn => by
    simp only [DataW.weightsAll, List.mem_append]
    rcases List.mem_cons.1 h with rfl | h
    · exact .inl hn
    · exact .inr (weightsAll_mem h n hn)
theorem opens_slice {α : Type} {P : Program} {t e : TypeId} {d : Kd α} {g : α → Prop} {B : Nat} (ht : P.underlying t = some (.slice e)) (hs : P.cellsOf e = d.sz) (hB : P.bytesOf e = B) (h : Opens P e d g) :
    Opens P t (Kd.slice e d) (fun xs => xs.length * B ≤ 140737488351232 ∧ ∀ x ∈ xs, g x) := by
  intro H enc w fuel cs y ps hy hw
  rcases DataW.trod_slice ht hy with ⟨rfl, _⟩ | ⟨a, len, cap, elems, rest, n, rfl, rfl, hx, _, hlc, hcm, hel, hget, _, _⟩
  · exact ⟨[], ⟨none, 0, rfl, Nat.le_refl _, Kd.C_nil d w⟩, by simp⟩
  · obtain ⟨rfl, _⟩ := Prod.mk.inj hx
    simp only [DataW.weights, ht] at hw
    have hlen : len * B ≤ 140737488351232 := by
      have := hw _ List.mem_cons_self
      simp only [List.length_map, hB] at this
      have h2 : len * B ≤ (elems.length + rest.length) * B := Nat.mul_le_mul_right _ (by omega)
      exact Nat.le_trans h2 this
    have key : ∀ i, i < len → ∃ x, (∃ c, c.length = d.sz ∧ d.K w x c ∧ ∀ j u, c[j]? = some u → w.cell? (a.add (i * d.sz + j)) = some u) ∧ g x := by
      intro i hi
      have hg := hget i hi
      rw [List.getElem?_eq_getElem (by omega), Option.bind_eq_some_iff] at hg
      obtain ⟨c, hc, hd⟩ := hg
      obtain ⟨_, hcl, hcell⟩ := World.cells?_some hc
      obtain ⟨x, hK, hgx⟩ := h enc w n c _ _ hd (fun m hm => hw m (List.mem_cons_of_mem _ (List.mem_append_left _ (weightsAll_mem (List.mem_map_of_mem (List.getElem_mem _)) m hm))))
      refine ⟨x, ⟨c, hcl.trans hs, hK, fun j u hj => ?_⟩, hgx⟩
      have hjl : j < P.cellsOf e := by
        have := (List.getElem?_eq_some_iff.1 hj).1
        omega
      have := hcell j hjl
      rw [add_add, hj, hs] at this
      exact this
    obtain ⟨xs, hxl, hxs⟩ := exists_list _ len key
    refine ⟨xs, ⟨some a, cap, by rw [hxl], by omega, hxl ▸ ⟨hxl, by simp only [maxLen] at hcm; omega, fun _ => ⟨a, rfl, fun j p hp => (hxs j p hp).1⟩⟩⟩, by rw [hxl]; exact hlen, fun x hx => ?_⟩
    obtain ⟨i, hi, rfl⟩ := List.getElem_of_mem hx
    exact (hxs i _ (List.getElem?_eq_getElem hi)).2
theorem opens_iso {α β : Type} {P : Program} {t : TypeId} {d : Kd α} {g : α → Prop} (f : β → α) (inv : α → β) (hi : ∀ x, f (inv x) = x) (h : Opens P t d g) : Opens P t (Kd.iso d f) (fun x => g (f x)) := by
  intro H enc w fuel cs y ps hy hw
  obtain ⟨x, hK, hg⟩ := h enc w fuel cs y ps hy hw
  refine ⟨inv x, ?_, ?_⟩
  · show d.K w (f (inv x)) cs
    rw [hi]; exact hK
  · show g (f (inv x))
    rw [hi]; exact hg
def OpensL {α : Type} (P : Program) (fs : List Field) (off : Nat) (d : Kd α) (g : α → Prop) : Prop :=
  ∀ {H : Type} (enc : TypeId × Value → H) (w : World) (n : Nat) (cs : List Value) (ys : List (DataW H × List MemPlace)), ys.length = fs.length →
    (∀ (i : Nat) (f : Field), fs[i]? = some f → DataW.trod enc P w 0 (fun _ => true) true n f.type ((cs.drop f.offset).take (P.cellsOf f.type)) = ys[i]?) →
    (∀ m ∈ DataW.weightsEach P (fs.map (·.type)) (ys.map (·.1)), m ≤ reachBytes) → ∃ x, d.K w x ((cs.drop off).take d.sz) ∧ g x
theorem opensL_one {α : Type} {P : Program} {f : Field} {off : Nat} {d : Kd α} {g : α → Prop} (ho : f.offset = off) (hs : P.cellsOf f.type = d.sz) (h : Opens P f.type d g) : OpensL P [f] off d g := by
  intro H enc w n cs ys hl hf hw
  match ys, hl with
  | [y], _ =>
    have h0 := hf 0 f rfl
    rw [ho, hs] at h0
    exact h enc w n _ y.1 y.2 h0 (fun m hm => hw m (by simp only [List.map_cons, DataW.weightsEach, List.mem_append]; exact .inl hm))
theorem opensL_cons {α β : Type} {P : Program} {f : Field} {fs : List Field} {off : Nat} {a : Kd α} {b : Kd β} {ga : α → Prop} {gb : β → Prop} (ho : f.offset = off) (hs : P.cellsOf f.type = a.sz) (h : Opens P f.type a ga) (hr : OpensL P fs (off + a.sz) b gb) :
    OpensL P (f :: fs) off (Kd.pair a b) (fun x => ga x.1 ∧ gb x.2) := by
  intro H enc w n cs ys hl hf hw
  match ys, hl with
  | y :: ys, hl =>
    have h0 := hf 0 f rfl
    rw [ho, hs] at h0
    obtain ⟨x, hx, hgx⟩ := h enc w n _ y.1 y.2 h0 (fun m hm => hw m (by simp only [List.map_cons, DataW.weightsEach, List.mem_append]; exact .inl hm))
    obtain ⟨x', hx', hgx'⟩ := hr enc w n cs ys (by simpa using hl) (fun i f' hf' => by have := hf (i + 1) f' (by simpa using hf'); simpa using this) (fun m hm => hw m (by simp only [List.map_cons, DataW.weightsEach, List.mem_append]; exact .inr hm))
    refine ⟨(x, x'), ⟨_, _, ?_, hx, hx'⟩, hgx, hgx'⟩
    show (cs.drop off).take (a.sz + b.sz) = _
    rw [List.take_add, List.drop_drop]
theorem opens_struct {α : Type} {P : Program} {t : TypeId} {fs : Array Field} {d : Kd α} {g : α → Prop} (ht : P.underlying t = some (.struct fs)) (hs : P.cellsOf t = d.sz) (h : OpensL P fs.toList 0 d g) : Opens P t d g := by
  intro H enc w fuel cs y ps hy hw
  obtain ⟨xs, n, rfl, hx, hl, hxl, hget⟩ := DataW.trod_struct ht hy
  obtain ⟨rfl, _⟩ := Prod.mk.inj hx
  simp only [DataW.weights, ht] at hw
  obtain ⟨x, hK, hg⟩ := h enc w n cs xs (by simpa using hxl) (fun i f hf => hget i f (by simpa using hf)) (by simpa using hw)
  rw [List.drop_zero, List.take_of_length_le (by omega)] at hK
  exact ⟨x, hK, hg⟩
theorem weights_of {H : Type} {P : Program} {ts : List TypeId} {ds : List (DataW H)} {j : Nat} {t : TypeId} {d : DataW H} (hsz : (DataW.weightsEach P ts ds).all (· ≤ reachBytes) = true) (ht : ts[j]? = some t) (hd : ds[j]? = some d) : ∀ n ∈ d.weights P t, n ≤ reachBytes := by
  intro n hn
  have := List.all_eq_true.1 hsz n (DataW.weights_mem_each ht hd n hn)
  simpa using this
theorem open_slice {α H : Type} {enc : TypeId × Value → H} {P : Program} {W : World} {t e : TypeId} {d : Kd α} {g : List α → Prop} {a : Option Addr} {len cap : Nat} {y : DataW H} {ps : List MemPlace} (h : Opens P t (Kd.slice e d) g)
    (hy : DataW.Trod enc P W 0 (fun _ => true) true t (.slice a len cap) y ps) (hw : ∀ n ∈ y.weights P t, n ≤ reachBytes) : ∃ xs : List α, len = xs.length ∧ xs.length ≤ cap ∧ d.C W a xs.length xs ∧ g xs := by
  obtain ⟨fuel, hf⟩ := hy
  obtain ⟨xs, ⟨A, c, he, hl, hC⟩, hg⟩ := h enc W fuel _ y ps hf hw
  have he' : Value.slice a len cap = .slice A xs.length c := by simpa [Value.cells] using he
  injection he' with h1 h2 h3
  subst h1 h2 h3
  exact ⟨xs, rfl, hl, hC, hg⟩
end Go.Proofs.YtadabmnmnjicoaaO
namespace Go.Proofs.Ytadabmnmnjicoaa.OFnExactWriteSave
open Go.RowKit Go.Proofs.Ytadabmnmnjicoaa.PFnExactWriteSave Go.Proofs.YtadabmnmnjicoaaW.PrintWords Go.Proofs.YtadabmnmnjicoaaO
def Ok36 (x : S36) : Prop := (x.f0.size ≤ 140737488351232) ∧ (In64 x.f1) ∧ (x.f2.size ≤ 140737488351232)
theorem opens36 : Opens Try.prog 36 k36 Ok36 :=
  Opens.imp (opens_iso _ (fun x => (⟨x.1, x.2.1, x.2.2⟩ : S36)) (fun _ => rfl) (opens_struct Try.underlying36 (by kernel_rfl) (opensL_cons rfl (by kernel_rfl) (opens_string Try.underlying9) (opensL_cons rfl (by kernel_rfl) (opens_i64 Try.underlying3) (opensL_one rfl (by kernel_rfl) (opens_string Try.underlying9)))))) fun x h => by
    obtain ⟨h0, h1, h2⟩ := h
    exact ⟨h0, h1, h2⟩
end Go.Proofs.Ytadabmnmnjicoaa.OFnExactWriteSave
namespace Go.Proofs.YtadabmnmnjicoaaO
open Go.RowKit Go.Proofs.YtadabmnmnjicoaaW.PrintWords Go.Proofs.YtadabmnmnjicoaaW.PrintLast Go.Proofs.YtadabmnmnjicoaaW.PrintMore
theorem w64 {n : Int} (h : -9223372036854775808 ≤ n) (k : n ≤ 9223372036854775807) : wrap64 n = n := by unfold wrap64; omega
theorem w64s (i : Nat) (h : i < 4611686018427387904) : wrap64 ((i : Int) + 1) = ((i + 1 : Nat) : Int) := by unfold wrap64; omega
theorem ev_eq {α : Type} {x : Option α} {r : α} (h : x = some r) : Ev (fun _ => x) r := ⟨0, fun _ _ => h⟩
theorem ev_some {α : Type} {x r : α} (h : x = r) : Ev (fun _ => some x) r := ⟨0, fun _ _ => by rw [h]⟩
theorem ev_pos {α : Type} {c : Prop} [Decidable c] {f g : Nat → Option α} {r : α} (h : c) (k : Ev f r) : Ev (fun n => if c then f n else g n) r := by
  obtain ⟨K, hK⟩ := k
  exact ⟨K, fun n hn => (if_pos h).trans (hK n hn)⟩
theorem ev_neg {α : Type} {c : Prop} [Decidable c] {f g : Nat → Option α} {r : α} (h : ¬ c) (k : Ev g r) : Ev (fun n => if c then f n else g n) r := by
  obtain ⟨K, hK⟩ := k
  exact ⟨K, fun n hn => (if_neg h).trans (hK n hn)⟩
theorem ev_ite {α : Type} {c : Prop} [Decidable c] {f g : Nat → Option α} {r : α} (h : c → Ev f r) (k : ¬ c → Ev g r) : Ev (fun n => if c then f n else g n) r := by
  by_cases hc : c
  · exact ev_pos hc (h hc)
  · exact ev_neg hc (k hc)
theorem ev_bindc {α β : Type} {x : Option α} {f : Nat → α → Option β} {a : α} {r : β} (h : x = some a) (k : Ev (fun n => f n a) r) : Ev (fun n => x.bind (f n)) r := by
  subst h; exact k
theorem ev_for {σ ρ : Type} (n : Nat) (L : Nat → Nat → σ → Option ρ) (I : Nat → σ → Prop) (Q : ρ → Prop)
    (hend : ∀ s, I n s → ∃ r, Ev (fun k => L k n s) r ∧ Q r)
    (hstep : ∀ i s, i < n → I i s → (∃ r, Ev (fun k => L k i s) r ∧ Q r) ∨ ∃ s', I (i + 1) s' ∧ ∀ r, Ev (fun k => L k (i + 1) s') r → Ev (fun k => L k i s) r) :
    ∀ i s, i ≤ n → I i s → ∃ r, Ev (fun k => L k i s) r ∧ Q r := by
  have key : ∀ d i s, i + d = n → I i s → ∃ r, Ev (fun k => L k i s) r ∧ Q r := by
    intro d
    induction d with
    | zero => intro i s hi h; obtain rfl : i = n := by omega
              exact hend s h
    | succ d ih =>
      intro i s hi h
      rcases hstep i s (by omega) h with h' | ⟨s', hI, hr⟩
      · exact h'
      · obtain ⟨r, hr', hQ⟩ := ih (i + 1) s' (by omega) hI
        exact ⟨r, hr r hr', hQ⟩
  intro i s hi h
  exact key (n - i) i s (by omega) h
theorem ev_for1 {σ ρ : Type} (n : Nat) (L : Nat → Nat → σ → Option ρ) (I : Nat → σ → Prop) (a : ρ)
    (hend : ∀ s, I n s → Ev (fun k => L k n s) a)
    (hstep : ∀ i s, i < n → I i s → Ev (fun k => L k i s) a ∨ ∃ s', I (i + 1) s' ∧ ∀ r, Ev (fun k => L k (i + 1) s') r → Ev (fun k => L k i s) r) :
    ∀ i s, i ≤ n → I i s → Ev (fun k => L k i s) a := by
  intro i s hi h
  obtain ⟨r, hr, rfl⟩ := ev_for n L I (fun r => r = a) (fun s hs => ⟨a, hend s hs, rfl⟩) (fun i s hi hs => (hstep i s hi hs).imp (fun h => ⟨a, h, rfl⟩) id) i s hi h
  exact hr
theorem rd_get {xs : List Int} {i : Nat} (h : i < xs.length) : rd xs (i : Int) = xs[i] := by simp [rd, List.getD_eq_getElem?_getD, h]
theorem getD_get {α : Type} {d : α} {xs : List α} {i : Nat} (h : i < xs.length) : xs.getD (i : Int).toNat d = xs[i] := by simp [List.getD_eq_getElem?_getD, h]
theorem ev_alike {α β : Type} (L : Nat → List α → List β → Int → Option Bool) (e : Nat → List α → List β → Int → Option Bool) (g : α → β → Bool)
    (hL : ∀ k xs ys i, L (k + 1) xs ys i = if i < (xs.length : Int) then (if 0 ≤ i then (if i < (ys.length : Int) then ((e k xs ys i).bind fun v => if v = true then L k xs ys (wrap64 (i + 1)) else some false) else none) else none) else some true)
    (xs : List α) (ys : List β) (hx : xs.length < 4611686018427387904) (hy : ys.length = xs.length) (he : ∀ i : Nat, ∀ (h : i < xs.length) (h' : i < ys.length), Ev (fun k => e k xs ys (i : Int)) (g xs[i] ys[i]))
    (b : Bool) (hb : b = true ↔ ∀ i : Nat, ∀ (h : i < xs.length) (h' : i < ys.length), g xs[i] ys[i] = true) :
    Ev (fun k => L k xs ys 0) b := by
  refine ev_for1 xs.length (fun k i (_ : Unit) => L k xs ys (i : Int)) (fun i _ => ∀ j, j < i → ∀ (h : j < xs.length) (h' : j < ys.length), g xs[j] ys[j] = true) b ?_ ?_ 0 () (Nat.zero_le _) (fun j hj => by omega)
  · intro _ h
    refine Ev.step (fun k => hL k xs ys _) (ev_neg (by omega) (ev_some ?_))
    exact (hb.2 fun i hi hi' => h i hi hi hi').symm
  · intro i _ hi h
    have hi' : i < ys.length := by omega
    by_cases hg : g xs[i] ys[i] = true
    · refine .inr ⟨(), fun j hj h1 h2 => ?_, fun r hr => ?_⟩
      · rcases Nat.lt_or_ge j i with hji | hji
        · exact h j hji h1 h2
        · obtain rfl : j = i := by omega
          exact hg
      · refine Ev.step (fun k => hL k xs ys _) (ev_pos (by omega) (ev_pos (by omega) (ev_pos (by omega) (Ev.bind (he i hi hi') (ev_pos hg ?_)))))
        rw [w64s i (by omega)]
        exact hr
    · refine .inl (Ev.step (fun k => hL k xs ys _) (ev_pos (by omega) (ev_pos (by omega) (ev_pos (by omega) (Ev.bind (he i hi hi') (ev_neg hg (ev_some ?_)))))))
      cases b with
      | false => rfl
      | true => exact absurd (hb.1 rfl i hi hi') hg
theorem ev_alike_self {α : Type} (L : Nat → List α → List α → Int → Option Bool) (e : Nat → List α → List α → Int → Option Bool)
    (hL : ∀ k xs ys i, L (k + 1) xs ys i = if i < (xs.length : Int) then (if 0 ≤ i then (if i < (ys.length : Int) then ((e k xs ys i).bind fun v => if v = true then L k xs ys (wrap64 (i + 1)) else some false) else none) else none) else some true)
    (xs : List α) (hx : xs.length < 4611686018427387904) (he : ∀ i : Nat, ∀ (_ : i < xs.length), Ev (fun k => e k xs xs (i : Int)) true) :
    Ev (fun k => L k xs xs 0) true :=
  ev_alike L e (fun _ _ => true) hL xs xs hx rfl (fun i h _ => he i h) true ⟨fun _ _ _ _ => rfl, fun _ => rfl⟩
theorem bool_of (P : Prop) : ∃ b : Bool, b = true ↔ P := ⟨@decide P (Classical.propDecidable P), by simp⟩
theorem bool_false {P : Prop} {b : Bool} (h : b = true ↔ P) (k : ¬ P) : b = false := by
  cases b with
  | false => rfl
  | true => exact absurd (h.1 rfl) k
theorem ev_all (n : Nat) (L : Nat → Nat → Option Bool) (ok : Nat → Prop) (e b : Bool) (hb : b = true ↔ e = true ∧ ∀ i, i < n → ok i) (hend : Ev (fun k => L k n) e)
    (hyes : ∀ i, i < n → (∀ j, j < i → ok j) → ok i → ∀ r, Ev (fun k => L k (i + 1)) r → Ev (fun k => L k i) r) (hno : ∀ i, i < n → (∀ j, j < i → ok j) → ¬ ok i → Ev (fun k => L k i) false) : Ev (fun k => L k 0) b := by
  refine ev_for1 n (fun k i (_ : Unit) => L k i) (fun i _ => ∀ j, j < i → ok j) b ?_ ?_ 0 () (Nat.zero_le _) (fun j hj => by omega)
  · intro _ h
    have : b = e := by
      cases e with
      | false => exact bool_false hb (fun h => by simp at h)
      | true => exact hb.2 ⟨rfl, h⟩
    rw [this]
    exact hend
  · intro i _ hi h
    by_cases ho : ok i
    · refine .inr ⟨(), fun j hj => ?_, hyes i hi h ho⟩
      rcases Nat.lt_or_ge j i with h1 | h1
      · exact h j h1
      · obtain rfl : j = i := by omega
        exact ho
    · have : b = false := bool_false hb (fun h => ho (h.2 i hi))
      rw [this]
      exact .inl (hno i hi h ho)
theorem wrap_u64 {n : Int} (h0 : 0 ≤ n) (h1 : n ≤ 18446744073709551615) : IntKind.u64.wrap n = n := by
  have e : IntKind.u64.wrap n = n % 18446744073709551616 := by simp only [IntKind.wrap, IntKind.bits, IntKind.signed]; rfl
  rw [e]; omega
def Chain {α : Type} (E : α → Int → Int → Prop) : List α → Int → Int → Prop
  | [], c, d => c = d
  | x :: r, c, d => ∃ m, E x c m ∧ Chain E r m d
theorem Chain.snoc {α : Type} {E : α → Int → Int → Prop} : ∀ {l : List α} {c m d : Int} {x : α}, Chain E l c m → E x m d → Chain E (l ++ [x]) c d
  | [], _, _, _, _, h, k => by cases h; exact ⟨_, k, rfl⟩
  | _ :: _, _, _, _, _, ⟨q, h1, h2⟩, k => ⟨q, h1, Chain.snoc h2 k⟩
theorem Chain.le {α : Type} {E : α → Int → Int → Prop} (hm : ∀ x c d, E x c d → c ≤ d) : ∀ {l : List α} {c d : Int}, Chain E l c d → c ≤ d
  | [], _, _, h => Int.le_of_eq h
  | _ :: _, _, _, ⟨_, h1, h2⟩ => Int.le_trans (hm _ _ _ h1) (Chain.le hm h2)
theorem ev_mark {α : Type} (L : Nat → List α → Int → Nat → Option (Int × List α)) (E : α → Int → Int → Prop) (G : α → Prop) (W : Int) (hW : 0 ≤ W) (hW' : W ≤ 1099511627776)
    (hend : ∀ zs c, Ev (fun k => L k zs c zs.length) (c, zs))
    (hstep : ∀ zs c i, ∀ hi : i < zs.length, i < 1048576 → G zs[i] → 0 ≤ c → c ≤ 2305843009213693952 → ∃ x' c', E x' c c' ∧ c ≤ c' ∧ c' ≤ c + W ∧ ∀ r, Ev (fun k => L k (zs.set i x') c' (i + 1)) r → Ev (fun k => L k zs c i) r)
    (xs : List α) (hG : ∀ x ∈ xs, G x) (hl : xs.length ≤ 1048576) (c : Int) (hc0 : 0 ≤ c) (hc1 : c ≤ 1152921504606846976) :
    ∃ ys d, Chain E ys c d ∧ c ≤ d ∧ d ≤ c + W * xs.length ∧ ys.length = xs.length ∧ Ev (fun k => L k xs c 0) (d, ys) := by
  have key : ∀ n i : Nat, ∀ zs : List α, ∀ m : Int, i + n = xs.length → zs.length = xs.length → zs.drop i = xs.drop i → Chain E (zs.take i) c m → c ≤ m → m ≤ c + W * i →
      ∃ ys d, Chain E ys c d ∧ c ≤ d ∧ d ≤ c + W * xs.length ∧ ys.length = xs.length ∧ Ev (fun k => L k zs m i) (d, ys) := by
    intro n
    induction n with
    | zero =>
      intro i zs m hi hz hd hch h1 h2
      obtain rfl : i = zs.length := by omega
      rw [List.take_length] at hch
      rw [← hz]
      exact ⟨zs, m, hch, h1, h2, rfl, hend zs m⟩
    | succ n ih =>
      intro i zs m hi hz hd hch h1 h2
      have hlt : i < zs.length := by omega
      have hx : i < xs.length := by omega
      have hget : zs[i] = xs[i] := by
        have e1 := List.drop_eq_getElem_cons hlt
        have e2 := List.drop_eq_getElem_cons hx
        rw [hd, e2] at e1
        exact (List.cons.inj e1).1.symm
      have hWi : W * (i : Int) ≤ 1099511627776 * 1048576 := Int.mul_le_mul hW' (by omega) (by omega) (by omega)
      obtain ⟨x', c', hE, hc, hcW, hr⟩ := hstep zs m i hlt (by omega) (by rw [hget]; exact hG _ (List.getElem_mem hx)) (by omega) (by omega)
      obtain ⟨ys, d, g1, g2, g3, g4, g5⟩ := ih (i + 1) (zs.set i x') c' (by omega) (by simpa using hz) (by
          rw [List.drop_set_of_lt (by omega)]
          have e1 := List.drop_eq_getElem_cons hlt
          have e2 := List.drop_eq_getElem_cons hx
          rw [hd, e2] at e1
          exact (List.cons.inj e1).2.symm) (by
          rw [List.take_succ_eq_append_getElem (by simpa using hlt), List.take_set_of_le (Nat.le_refl i), List.getElem_set_self]
          exact Chain.snoc hch hE) (by omega) (by
          have : W * ((i + 1 : Nat) : Int) = W * i + W := by rw [Int.natCast_add, Int.mul_add]; simp
          omega)
      exact ⟨ys, d, g1, g2, g3, g4, hr _ g5⟩
  have := key xs.length 0 xs c (by omega) rfl rfl (by simp [Chain]) (Int.le_refl _) (by simp)
  exact this
theorem ev_held {α : Type} (H : Nat → List α → Int → Nat → Option Int) (E : α → Int → Int → Prop) (hm : ∀ x c d, E x c d → c ≤ d)
    (hend : ∀ ys c, Ev (fun k => H k ys c ys.length) c)
    (hstep : ∀ ys c c' i, ∀ hi : i < ys.length, i < 1048576 → E ys[i] c c' → 0 ≤ c → c' ≤ 2305843009213693952 → ∀ r, Ev (fun k => H k ys c' (i + 1)) r → Ev (fun k => H k ys c i) r)
    (ys : List α) (hl : ys.length ≤ 1048576) (c d : Int) (hc0 : 0 ≤ c) (hd : d ≤ 2305843009213693952) (h : Chain E ys c d) : Ev (fun k => H k ys c 0) d := by
  have key : ∀ n i : Nat, ∀ m : Int, i + n = ys.length → 0 ≤ m → Chain E (ys.drop i) m d → Ev (fun k => H k ys m i) d := by
    intro n
    induction n with
    | zero =>
      intro i m hi h0 hch
      obtain rfl : i = ys.length := by omega
      rw [List.drop_length] at hch
      obtain rfl : m = d := hch
      exact hend ys m
    | succ n ih =>
      intro i m hi h0 hch
      have hlt : i < ys.length := by omega
      rw [List.drop_eq_getElem_cons hlt] at hch
      obtain ⟨m', hE, hch⟩ := hch
      have h1 := hm _ _ _ hE
      exact hstep ys m m' i hlt (by omega) hE h0 (by have := Chain.le hm hch; omega) d (ih (i + 1) m' (by omega) (by omega) hch)
  exact key ys.length 0 c (by omega) hc0 h
theorem exev_pos {α : Type} {c : Prop} [Decidable c] {f g : Nat → Option α} {Q : α → Prop} (h : c) (k : ∃ r, Ev f r ∧ Q r) : ∃ r, Ev (fun n => if c then f n else g n) r ∧ Q r := by
  obtain ⟨r, hr, hq⟩ := k
  exact ⟨r, ev_pos h hr, hq⟩
theorem exev_neg {α : Type} {c : Prop} [Decidable c] {f g : Nat → Option α} {Q : α → Prop} (h : ¬ c) (k : ∃ r, Ev g r ∧ Q r) : ∃ r, Ev (fun n => if c then f n else g n) r ∧ Q r := by
  obtain ⟨r, hr, hq⟩ := k
  exact ⟨r, ev_neg h hr, hq⟩
theorem exev_ite {α : Type} {c : Prop} [Decidable c] {f g : Nat → Option α} {Q : α → Prop} (h : c → ∃ r, Ev f r ∧ Q r) (k : ¬ c → ∃ r, Ev g r ∧ Q r) : ∃ r, Ev (fun n => if c then f n else g n) r ∧ Q r := by
  by_cases hc : c
  · exact exev_pos hc (h hc)
  · exact exev_neg hc (k hc)
theorem exev_some {α : Type} {x : α} {Q : α → Prop} (h : Q x) : ∃ r, Ev (fun _ => some x) r ∧ Q r := ⟨x, ev_some rfl, h⟩
theorem ev_copy2 {α β τ : Type} (L : Nat → List α → List β → Int → Option (List β)) (e : Nat → List α → Int → Option τ) (mk : τ → β) (g : α → β)
    (hL : ∀ k xs ys i, L (k + 1) xs ys i = if i < (xs.length : Int) then (if 0 ≤ i then ((e k xs i).bind fun v => if i < (ys.length : Int) then L k xs (ys.set (i : Int).toNat (mk v)) (wrap64 (i + 1)) else none) else none) else some ys)
    (xs : List α) (hx : xs.length < 4611686018427387904) (he : ∀ i : Nat, ∀ h : i < xs.length, ∃ t, Ev (fun k => e k xs (i : Int)) t ∧ mk t = g xs[i]) (ys : List β) (hy : ys.length = xs.length) :
    Ev (fun k => L k xs ys 0) (xs.map g) := by
  refine ev_for1 xs.length (fun k i ys => L k xs ys (i : Int)) (fun i ys => ys.length = xs.length ∧ ∀ j, j < i → ys[j]? = (xs.map g)[j]?) (xs.map g) ?_ ?_ 0 ys (Nat.zero_le _) ⟨hy, fun j hj => by omega⟩
  · intro ys ⟨hl, h⟩
    refine Ev.step (fun k => hL k xs ys _) (ev_neg (by omega) (ev_some ?_))
    apply List.ext_getElem?
    intro j
    rcases Nat.lt_or_ge j xs.length with hj | hj
    · exact h j hj
    · rw [List.getElem?_eq_none (by omega), List.getElem?_eq_none (by simpa using hj)]
  · intro i ys hi ⟨hl, h⟩
    obtain ⟨t, ht, hmk⟩ := he i hi
    refine .inr ⟨ys.set i (g xs[i]), ⟨by simpa using hl, fun j hj => ?_⟩, fun r hr => ?_⟩
    · rcases Nat.lt_or_ge j i with hji | hji
      · rw [List.getElem?_set_ne (by omega)]
        exact h j hji
      · obtain rfl : j = i := by omega
        rw [List.getElem?_set_self (by omega), List.getElem?_map, List.getElem?_eq_getElem hi]
        rfl
    · refine Ev.step (fun k => hL k xs ys _) (ev_pos (by omega) (ev_pos (by omega) (Ev.bind ht (ev_pos (by omega) ?_))))
      rw [w64s i (by omega), hmk]
      exact hr
theorem ev_size {α : Type} (L : Nat → List α → Int → Int → Option Int) (e : Nat → List α → Int → Int → Option Int) (C : α → Prop)
    (hL : ∀ k xs c i, L (k + 1) xs c i = if i < (xs.length : Int) then (if 0 ≤ i then ((e k xs c i).bind fun t => if t < 0 then some (-1) else L k xs t (wrap64 (i + 1))) else none) else some c)
    (xs : List α) (hx : xs.length < 4611686018427387904) (left : Int) (h0 : 0 ≤ left)
    (he : ∀ i : Nat, ∀ h : i < xs.length, ∀ c, 0 ≤ c → c ≤ left → ∃ r, Ev (fun k => e k xs c (i : Int)) r ∧ (r < 0 ∨ 0 ≤ r ∧ r ≤ c ∧ C xs[i])) :
    ∃ r, Ev (fun k => L k xs left 0) r ∧ (r < 0 ∨ 0 ≤ r ∧ r ≤ left ∧ ∀ x ∈ xs, C x) := by
  refine ev_for xs.length (fun k i c => L k xs c (i : Int)) (fun i c => 0 ≤ c ∧ c ≤ left ∧ ∀ j, ∀ h : j < xs.length, j < i → C xs[j]) (fun r => r < 0 ∨ 0 ≤ r ∧ r ≤ left ∧ ∀ x ∈ xs, C x) ?_ ?_ 0 left (Nat.zero_le _) ⟨h0, Int.le_refl _, fun j _ hj => by omega⟩
  · intro c ⟨hc0, hc1, h⟩
    refine ⟨c, Ev.step (fun k => hL k xs c _) (ev_neg (by omega) (ev_some rfl)), .inr ⟨hc0, hc1, fun x hx => ?_⟩⟩
    obtain ⟨j, hj, rfl⟩ := List.getElem_of_mem hx
    exact h j hj hj
  · intro i c hi ⟨hc0, hc1, h⟩
    obtain ⟨r, hr, hq⟩ := he i hi c hc0 hc1
    rcases hq with hq | ⟨q0, q1, q2⟩
    · exact .inl ⟨-1, Ev.step (fun k => hL k xs c _) (ev_pos (by omega) (ev_pos (by omega) (Ev.bind hr (ev_pos hq (ev_some rfl))))), .inl (by omega)⟩
    · refine .inr ⟨r, ⟨q0, by omega, fun j hj hji => ?_⟩, fun r' hr' => Ev.step (fun k => hL k xs c _) (ev_pos (by omega) (ev_pos (by omega) (Ev.bind hr (ev_neg (by omega) ?_))))⟩
      · rcases Nat.lt_or_ge j i with h1 | h1
        · exact h j hj h1
        · obtain rfl : j = i := by omega
          exact q2
      · rw [w64s i (by omega)]
        exact hr'
end Go.Proofs.YtadabmnmnjicoaaO
namespace Go.Proofs.Ytadabmnmnjicoaa.Pure
open Go.RowKit Go.Proofs.Ytadabmnmnjicoaa.PFnExactWriteSave Go.Proofs.Ytadabmnmnjicoaa.OFnExactWriteSave Go.Proofs.YtadabmnmnjicoaaW.PrintWords Go.Proofs.YtadabmnmnjicoaaW.PrintLast Go.Proofs.YtadabmnmnjicoaaW.PrintMore Go.Proofs.YtadabmnmnjicoaaO
set_option linter.unusedVariables false
set_option linter.unusedSimpArgs false
theorem st_spec_GoodName_j0 {r : (Bool)} {x0 : ByteArray} {x16 : Bool} (h : Ev (fun k => if x16 = true then (some false) else (spec_GoodName.l0 k x0 0)) r) : Ev (fun k => spec_GoodName.j0 k x0 x16) r := Ev.step (fun k => by rw [spec_GoodName.j0]) h
theorem st_spec_GoodName_l0 {r : (Bool)} {x0 : ByteArray} {x3 : Int} (h : Ev (fun k => if x3 < (x0.size : Int) then (if 0 ≤ x3 then ((spec_l1Letter.f (bt x0 x3)).bind fun t105 => (if t105 = true then (spec_GoodName.l0 k x0 (wrap64 (x3 + 1))) else ((spec_l1Digit.f (bt x0 x3)).bind fun t106 => (if t106 = true then (spec_GoodName.l0 k x0 (wrap64 (x3 + 1))) else (some false))))) else (none)) else (some true)) r) : Ev (fun k => spec_GoodName.l0 k x0 x3) r := Ev.step (fun k => by rw [spec_GoodName.l0]) h
theorem st_spec_WriteSave_j0 {r : (List Int × Bool)} {x0 : Int} {x1 : List (S39)} {x18 : Bool} (h : Ev (fun k => if x18 = true then (some (([] : List Int), false)) else (spec_WriteSave.l0 k (([83, 65, 86, 69, (x0) % 256, ((x1.length : Int)) % 256] : List Int)) x1 (x1.length : Int) 0)) r) : Ev (fun k => spec_WriteSave.j0 k x0 x1 x18) r := Ev.step (fun k => by rw [spec_WriteSave.j0]) h
theorem st_spec_WriteSave_l0 {r : (List Int × Bool)} {x6 : List Int} {x25 : List (S39)} {x26 : Int} {x27 : Int} (h : Ev (fun k => if x27 < x26 then (if 0 ≤ x27 then (if x27 < (x25.length : Int) then (if x6.length < 140737488355328 then ((some (x6 ++ [((((rd_T39 x25 x27).f0).size : Int)) % 256] : List Int)).bind fun y126 => (if y126.length + ((rd_T39 x25 x27).f0).size < 140737488355328 then (spec_WriteSave.l1 k (y126 ++ bytesOf ((rd_T39 x25 x27).f0)) 0 x25 x26 x27 ((rd_T39 x25 x27).f0) ((rd_T39 x25 x27).f1) ((rd_T39 x25 x27).f2)) else (none))) else (none)) else (none)) else (none)) else ((spec_l21Digest.f k x6).bind fun t117 => ((some (([(t117 / 16777216) % 256, (t117 / 65536) % 256, (t117 / 256) % 256, (t117) % 256] : List Int) : List Int)).bind fun y118 => (if x6.length + y118.length < 140737488355328 then ((some (x6 ++ y118 : List Int)).bind fun y121 => (if (y121.length : Int) > 4000 then (some (([] : List Int), false)) else (some (y121, true)))) else (none))))) r) : Ev (fun k => spec_WriteSave.l0 k x6 x25 x26 x27) r := Ev.step (fun k => by rw [spec_WriteSave.l0]) h
theorem st_spec_WriteSave_l1 {r : (List Int × Bool)} {x6 : List Int} {x9 : Int} {x25 : List (S39)} {x26 : Int} {x27 : Int} {x126000 : ByteArray} {x126001 : Int} {x126002 : ByteArray} (h : Ev (fun k => if x9 < 8 then (if 0 ≤ (IntKind.u64.wrap (wrap64 (8 * x9))) then (if x6.length < 140737488355328 then (spec_WriteSave.l1 k (x6 ++ [(shr .u64 (IntKind.u64.wrap (x126001)) (IntKind.u64.wrap (wrap64 (8 * x9)))) % 256]) (wrap64 (x9 + 1)) x25 x26 x27 x126000 x126001 x126002) else (none)) else (none)) else (if x6.length < 140737488355328 then ((some (x6 ++ [((x126002.size : Int)) % 256] : List Int)).bind fun y135 => (if y135.length + x126002.size < 140737488355328 then (spec_WriteSave.l0 k (y135 ++ bytesOf x126002) x25 x26 (wrap64 (x27 + 1))) else (none))) else (none))) r) : Ev (fun k => spec_WriteSave.l1 k x6 x9 x25 x26 x27 x126000 x126001 x126002) r := Ev.step (fun k => by rw [spec_WriteSave.l1]) h
theorem st_impl_GoodName_l0 {r : (Bool)} {x0 : ByteArray} {x5 : Int} {x6 : Int} (h : Ev (fun k => if x6 < x5 then (if 0 ≤ x6 then (if x6 < (x0.size : Int) then ((impl_isLetter.f (bt x0 x6)).bind fun t153 => (if t153 = true then (impl_GoodName.l0 k x0 x5 (wrap64 (x6 + 1))) else (if (bt x0 x6) = 95 then (impl_GoodName.l0 k x0 x5 (wrap64 (x6 + 1))) else (if x6 = 0 then (some false) else ((impl_isDigit.f (bt x0 x6)).bind fun t154 => (if t154 = true then (impl_GoodName.l0 k x0 x5 (wrap64 (x6 + 1))) else (some false))))))) else (none)) else (none)) else ((impl_inRange.f (x0.size : Int) 1 20).bind fun t152 => (some t152))) r) : Ev (fun k => impl_GoodName.l0 k x0 x5 x6) r := Ev.step (fun k => by rw [impl_GoodName.l0]) h
theorem st_impl_WriteSave_j0 {r : (List Int × Bool)} {x0 : Int} {x1 : List (S39)} {x17 : Bool} (h : Ev (fun k => if x17 = true then (some (([] : List Int), false)) else ((some (([83, 65, 86, 69] : List Int) : List Int)).bind fun y165 => ((some (([(x0) % 256, ((x1.length : Int)) % 256] : List Int) : List Int)).bind fun y168 => (if y165.length + y168.length < 140737488355328 then (impl_WriteSave.l0 k (y165 ++ y168) x1 (x1.length : Int) 0) else (none))))) r) : Ev (fun k => impl_WriteSave.j0 k x0 x1 x17) r := Ev.step (fun k => by rw [impl_WriteSave.j0]) h
theorem st_impl_WriteSave_l0 {r : (List Int × Bool)} {x6 : List Int} {x27 : List (S39)} {x28 : Int} {x29 : Int} (h : Ev (fun k => if x29 < x28 then (if 0 ≤ x29 then (if x29 < (x27.length : Int) then (if x6.length < 140737488355328 then ((some (x6 ++ [((((rd_T39 x27 x29).f0).size : Int)) % 256] : List Int)).bind fun y176 => (if y176.length + ((rd_T39 x27 x29).f0).size < 140737488355328 then (impl_WriteSave.l1 k (y176 ++ bytesOf ((rd_T39 x27 x29).f0)) x27 x28 x29 0 ((rd_T39 x27 x29).f0) ((rd_T39 x27 x29).f1) ((rd_T39 x27 x29).f2)) else (none))) else (none)) else (none)) else (none)) else ((impl_digest.f k x6).bind fun t191 => ((impl_four.f t191).bind fun t192 => (if x6.length + t192.length < 140737488355328 then ((some (x6 ++ t192 : List Int)).bind fun y195 => (if (y195.length : Int) > 4000 then (some (([] : List Int), false)) else (some (y195, true)))) else (none))))) r) : Ev (fun k => impl_WriteSave.l0 k x6 x27 x28 x29) r := Ev.step (fun k => by rw [impl_WriteSave.l0]) h
theorem st_impl_WriteSave_l1 {r : (List Int × Bool)} {x6 : List Int} {x27 : List (S39)} {x28 : Int} {x29 : Int} {x43 : Int} {x176000 : ByteArray} {x176001 : Int} {x176002 : ByteArray} (h : Ev (fun k => if x43 < 8 then (if 0 ≤ (wrap64 (8 * x43)) then (if x6.length < 140737488355328 then (impl_WriteSave.l1 k (x6 ++ [(shr .u64 (IntKind.u64.wrap (x176001)) (wrap64 (8 * x43))) % 256]) x27 x28 x29 (wrap64 (x43 + 1)) x176000 x176001 x176002) else (none)) else (none)) else (if x6.length < 140737488355328 then ((some (x6 ++ [((x176002.size : Int)) % 256] : List Int)).bind fun y185 => (if y185.length + x176002.size < 140737488355328 then (impl_WriteSave.l0 k (y185 ++ bytesOf x176002) x27 x28 (wrap64 (x29 + 1))) else (none))) else (none))) r) : Ev (fun k => impl_WriteSave.l1 k x6 x27 x28 x29 x43 x176000 x176001 x176002) r := Ev.step (fun k => by rw [impl_WriteSave.l1]) h
theorem st_laws_FnExactWriteSave_j0 {r : (Bool)} {x0 : Int} {x1 : List (S36)} {x6 : List Int} {x7 : Bool} {x8 : List (S39)} {x9 : List Int} {x10 : Bool} {x44 : Bool} (h : Ev (fun k => if x44 = true then (some false) else ((laws_toValueS.f k x1).bind fun t231 => ((laws_eqValueS.f k x8 t231).bind fun t234 => (if t234 = true then ((laws_markValueS.f k x8 1).bind fun bt235 => (if bt235.1 < 0 then (laws_FnExactWriteSave.j1 k x0 x1 x6 x7 x9 true) else ((laws_eqByteS.f k x9 x6).bind fun t237 => (if t237 = true then (laws_FnExactWriteSave.j1 k x0 x1 x6 x7 x9 (x10 != x7)) else (laws_FnExactWriteSave.j1 k x0 x1 x6 x7 x9 true))))) else (some false))))) r) : Ev (fun k => laws_FnExactWriteSave.j0 k x0 x1 x6 x7 x8 x9 x10 x44) r := Ev.step (fun k => by rw [laws_FnExactWriteSave.j0]) h
theorem st_laws_FnExactWriteSave_j1 {r : (Bool)} {x0 : Int} {x1 : List (S36)} {x6 : List Int} {x7 : Bool} {x9 : List Int} {x65 : Bool} (h : Ev (fun k => if x65 = true then (some false) else ((laws_markByteS.f k x9 1).bind fun bt238 => ((laws_heldByteS.f k bt238.2 1).bind fun t240 => (if t240 < 0 then (some false) else (if t240 = bt238.1 then ((laws_toValueS.f k x1).bind fun t241 => ((impl_WriteSave.f k x0 t241).bind fun bt244 => ((laws_eqByteS.f k bt244.1 x6).bind fun t248 => (if t248 = true then (laws_FnExactWriteSave.j2 k bt238.2 bt238.1 (bt244.2 != x7)) else (laws_FnExactWriteSave.j2 k bt238.2 bt238.1 true))))) else (some false)))))) r) : Ev (fun k => laws_FnExactWriteSave.j1 k x0 x1 x6 x7 x9 x65) r := Ev.step (fun k => by rw [laws_FnExactWriteSave.j1]) h
theorem st_laws_FnExactWriteSave_j2 {r : (Bool)} {x9 : List Int} {x12 : Int} {x92 : Bool} (h : Ev (fun k => if x92 = true then (some false) else ((laws_heldByteS.f k x9 1).bind fun t249 => (if t249 < 0 then (some false) else (if t249 = x12 then (some true) else (some false))))) r) : Ev (fun k => laws_FnExactWriteSave.j2 k x9 x12 x92) r := Ev.step (fun k => by rw [laws_FnExactWriteSave.j2]) h
theorem inr_some (a b c : Int) : impl_inRange.f a b c = some (decide (b ≤ a ∧ a ≤ c)) := by
  unfold impl_inRange.f
  split <;> simp_all <;> omega
theorem in_some (a b c : Int) : spec_l1In.f a b c = some (decide (b ≤ a ∧ a ≤ c)) := by
  unfold spec_l1In.f
  split <;> simp_all <;> omega
theorem in_same (a b c : Int) : impl_inRange.f a b c = spec_l1In.f a b c := rfl
def nameChar (c : Int) : Bool := decide (97 ≤ c ∧ c ≤ 122) || decide (65 ≤ c ∧ c ≤ 90) || decide (c = 95)
def digitChar (c : Int) : Bool := decide (48 ≤ c ∧ c ≤ 57)
def CharOk (s : ByteArray) (i : Nat) : Prop := nameChar (bt s (i : Int)) = true ∨ 0 < i ∧ digitChar (bt s (i : Int)) = true
def NameOk (s : ByteArray) : Prop := (1 ≤ s.size ∧ s.size ≤ 20) ∧ ∀ i, i < s.size → CharOk s i
theorem letter_spec (c : Int) : spec_l1Letter.f c = some (nameChar c) := by
  unfold spec_l1Letter.f nameChar
  repeat' split
  all_goals (congr 1; rw [Bool.eq_iff_iff]; simp; try omega)
theorem digit_spec (c : Int) : spec_l1Digit.f c = some (digitChar c) := by
  unfold spec_l1Digit.f digitChar
  repeat' split
  all_goals (congr 1; rw [Bool.eq_iff_iff]; simp; try omega)
theorem digit_impl (c : Int) : impl_isDigit.f c = some (digitChar c) := by
  unfold impl_isDigit.f digitChar
  repeat' split
  all_goals (congr 1; rw [Bool.eq_iff_iff]; simp; try omega)
theorem letter_impl (c : Int) : ∃ b, impl_isLetter.f c = some b ∧ (nameChar c = true ↔ b = true ∨ c = 95) := by
  unfold impl_isLetter.f nameChar
  repeat' split
  all_goals (refine ⟨_, rfl, ?_⟩; simp; try omega)
theorem name_impl (s : ByteArray) (hs : s.size ≤ 140737488351232) (b : Bool) (hb : b = true ↔ NameOk s) : Ev (fun k => impl_GoodName.f k s) b := by
  refine ev_all s.size (fun k i => impl_GoodName.l0 k s (s.size : Int) (i : Int)) (CharOk s) (decide (1 ≤ (s.size : Int) ∧ (s.size : Int) ≤ 20)) b ?_ ?_ ?_ ?_
  · rw [hb]; unfold NameOk; simp; omega
  · exact st_impl_GoodName_l0 (ev_neg (by omega) (ev_bindc (inr_some _ _ _) (ev_some rfl)))
  · intro i hi _ ho r hr
    refine st_impl_GoodName_l0 (ev_pos (by omega) (ev_pos (by omega) (ev_pos (by omega) ?_)))
    obtain ⟨q, hq, hn⟩ := letter_impl (bt s (i : Int))
    rw [w64s i (by omega)]
    refine ev_bindc hq (ev_ite (fun _ => hr) fun h1 => ev_ite (fun _ => hr) fun h2 => ?_)
    rcases ho with ho | ⟨ho, hd⟩
    · rcases hn.1 ho with h | h
      · exact absurd h h1
      · exact absurd h h2
    · exact ev_neg (by omega) (ev_bindc (digit_impl _) (ev_pos hd hr))
  · intro i hi _ ho
    refine st_impl_GoodName_l0 (ev_pos (by omega) (ev_pos (by omega) (ev_pos (by omega) ?_)))
    obtain ⟨q, hq, hn⟩ := letter_impl (bt s (i : Int))
    refine ev_bindc hq (ev_ite (fun h => absurd (.inl (hn.2 (.inl h))) ho) fun h1 => ev_ite (fun h => absurd (.inl (hn.2 (.inr h))) ho) fun h2 => ev_ite (fun _ => ev_some rfl) fun h3 => ?_)
    exact ev_bindc (digit_impl _) (ev_neg (fun h => ho (.inr ⟨by omega, h⟩)) (ev_some rfl))
theorem name_spec (s : ByteArray) (b : Bool) (hb : b = true ↔ NameOk s) : Ev (fun k => spec_GoodName.f k s) b := by
  have j0t : Ev (fun k => spec_GoodName.j0 k s true) false := st_spec_GoodName_j0 (ev_pos rfl (ev_some rfl))
  by_cases h1 : (s.size : Int) < 1
  · rw [bool_false hb (fun h => by have := h.1; omega)]
    exact ev_pos h1 j0t
  · by_cases h2 : (s.size : Int) > 20
    · rw [bool_false hb (fun h => by have := h.1; omega)]
      exact ev_neg h1 (ev_pos h2 j0t)
    · refine ev_neg h1 (ev_neg h2 (ev_pos (by omega) (ev_bindc (digit_spec _) ?_)))
      cases hd : digitChar (bt s 0) with
      | true =>
        rw [bool_false hb (fun h => by
          have h0 : CharOk s 0 := h.2 0 (by omega)
          rcases h0 with h0 | h0
          · have h0 : nameChar (bt s 0) = true := h0
            generalize bt s 0 = c at hd h0
            simp [nameChar, digitChar] at hd h0; omega
          · omega)]
        exact j0t
      | false =>
        refine st_spec_GoodName_j0 (ev_neg (by decide) ?_)
        refine ev_all s.size (fun k i => spec_GoodName.l0 k s (i : Int)) (CharOk s) true b ?_ ?_ ?_ ?_
        · rw [hb]; unfold NameOk; constructor
          · exact fun h => ⟨rfl, h.2⟩
          · exact fun h => ⟨by omega, h.2⟩
        · exact st_spec_GoodName_l0 (ev_neg (by omega) (ev_some rfl))
        · intro i hi _ ho r hr
          refine st_spec_GoodName_l0 (ev_pos (by omega) (ev_pos (by omega) (ev_bindc (letter_spec _) (ev_ite (fun _ => by rw [w64s i (by omega)]; exact hr) fun hl => ev_bindc (digit_spec _) ?_))))
          rcases ho with ho | ⟨_, ho⟩
          · exact absurd ho hl
          · refine ev_pos ho ?_
            rw [w64s i (by omega)]; exact hr
        · intro i hi _ ho
          refine st_spec_GoodName_l0 (ev_pos (by omega) (ev_pos (by omega) (ev_bindc (letter_spec _) (ev_neg (fun h => ho (.inl h)) (ev_bindc (digit_spec _) (ev_neg (fun h => ho ?_) (ev_some rfl)))))))
          rcases Nat.eq_zero_or_pos i with rfl | hp
          · have h' : digitChar (bt s 0) = true := h
            rw [hd] at h'; cases h'
          · exact .inr ⟨hp, h⟩
def Fit36 (x : S36) : Prop := (x.f0.size ≤ 1048576) ∧ (x.f2.size ≤ 1048576)
theorem szValue_some (a0 : ByteArray) (a1 : Int) (a2 : ByteArray) (ga0 : a0.size ≤ 140737488351232) (ga1 : In64 a1) (ga2 : a2.size ≤ 140737488351232) (left : Int) (h0 : 0 ≤ left) (h1 : left ≤ 1048576) : ∃ r, Ev (fun _ => laws_szValue.f a0 a1 a2 left) r ∧ (r < 0 ∨ 0 ≤ r ∧ r ≤ left ∧ (a0.size ≤ 1048576) ∧ (a2.size ≤ 1048576)) := by
  unfold laws_szValue.f
  have e0 : wrap64 (left - (a0.size : Int)) = left - (a0.size : Int) := w64 (by omega) (by omega)
  rw [e0]
  refine exev_ite (fun _ => exev_some (.inl (by omega))) fun c0 => ?_
  have e1 : wrap64 ((left - (a0.size : Int)) - (a2.size : Int)) = (left - (a0.size : Int)) - (a2.size : Int) := w64 (by omega) (by omega)
  rw [e1]
  refine exev_ite (fun _ => exev_some (.inl (by omega))) fun c1 => ?_
  exact exev_some (.inr ⟨by omega, by omega, (by omega), (by omega)⟩)
theorem szValueS_some (xs : List S36) (g : xs.length * 40 ≤ 140737488351232 ∧ ∀ y ∈ xs, Ok36 y) (left : Int) (h0 : 0 ≤ left) (h1 : left ≤ 1048576) : ∃ r, Ev (fun k => laws_szValueS.f k xs left) r ∧ (r < 0 ∨ 0 ≤ r ∧ r ≤ left ∧ (xs.length ≤ 1048576 ∧ ∀ y ∈ xs, Fit36 y)) := by
  have g1 := g.1
  unfold laws_szValueS.f
  rw [w64 (n := left - (xs.length : Int)) (by omega) (by omega)]
  refine exev_ite (fun _ => exev_some (.inl (by omega))) fun hc => ?_
  have he : ∀ i : Nat, ∀ hi : i < xs.length, ∀ c : Int, 0 ≤ c → c ≤ left - (xs.length : Int) → ∃ r, Ev (fun k => laws_szValue.f ((rd_T36 xs (i : Int)).f0) ((rd_T36 xs (i : Int)).f1) ((rd_T36 xs (i : Int)).f2) c) r ∧ (r < 0 ∨ 0 ≤ r ∧ r ≤ c ∧ Fit36 xs[i]) := by
    intro i hi c h0 h1
    have e : rd_T36 xs (i : Int) = xs[i] := getD_get hi
    rw [e]
    have gx := g.2 _ (List.getElem_mem hi)
    obtain ⟨r, hr, hq⟩ := szValue_some _ _ _ (gx.1) (gx.2.1) (gx.2.2) c h0 (by omega)
    exact ⟨r, hr, hq⟩
  obtain ⟨r, hr, hq⟩ := ev_size laws_szValueS.l0 (fun _ xs c i => laws_szValue.f ((rd_T36 xs i).f0) ((rd_T36 xs i).f1) ((rd_T36 xs i).f2) c) (fun y => Fit36 y) (fun _ _ _ _ => rfl) xs (by omega) (left - (xs.length : Int)) (by omega) he
  refine ⟨r, hr, ?_⟩
  rcases hq with hq | ⟨q0, q1, q2⟩
  · exact .inl hq
  · exact .inr ⟨q0, by omega, by omega, q2⟩
def cv36 (x : S36) : S39 := ⟨x.f0, x.f1, x.f2⟩
def Fit39 (x : S39) : Prop := (x.f0.size ≤ 1048576) ∧ (x.f2.size ≤ 1048576)
theorem fit_cv36 {x : S36} (h : Fit36 x) : Fit39 (cv36 x) := by
  obtain ⟨h0, h1⟩ := h
  exact ⟨h0, h1⟩
theorem toValueS_ev (xs : List S36) (h : (xs.length ≤ 1048576 ∧ ∀ y ∈ xs, Fit36 y)) : Ev (fun k => laws_toValueS.f k xs) (xs.map cv36) := by
  refine ev_pos (by omega) (ev_pos (by have := h.1; omega) ?_)
  refine ev_copy2 laws_toValueS.l0 (fun k xs i => laws_toValue.f ((rd_T36 xs i).f0) ((rd_T36 xs i).f1) ((rd_T36 xs i).f2)) (fun t => (⟨t.1, t.2.1, t.2.2⟩ : S39)) cv36 (fun _ _ _ _ => rfl) xs (by have := h.1; omega) (fun i hi => ?_) _ (by simp)
  · have e : rd_T36 xs (i : Int) = xs[i] := getD_get hi
    rw [e]
    exact ⟨_, ev_eq rfl, rfl⟩
theorem eqByteS_ev (xs : List Int) (h : xs.length ≤ 1048576) : Ev (fun k => laws_eqByteS.f k xs xs) true := by
  refine ev_pos rfl ?_
  refine ev_for1 xs.length (fun k i (_ : Unit) => laws_eqByteS.l0 k xs xs (i : Int)) (fun _ _ => True) true ?_ ?_ 0 () (Nat.zero_le _) trivial
  · intro _ _
    exact Ev.step (fun _ => rfl) (ev_neg (by omega) (ev_some rfl))
  · intro i _ hi _
    refine .inr ⟨(), trivial, fun r hr => Ev.step (fun _ => rfl) (ev_pos (by omega) (ev_pos (by omega) (ev_pos (by omega) ?_)))⟩
    rw [w64s i (by have := h; omega)]
    exact ev_pos rfl hr
theorem eqValue_self (a0 : ByteArray) (a1 : Int) (a2 : ByteArray) : laws_eqValue.f a0 a1 a2 a0 a1 a2 = some true := by
  simp [laws_eqValue.f]
theorem eqValueS_ev (xs : List S39) (h : (xs.length ≤ 1048576 ∧ ∀ y ∈ xs, Fit39 y)) : Ev (fun k => laws_eqValueS.f k xs xs) true := by
  refine ev_pos rfl (ev_alike_self laws_eqValueS.l0 (fun k xs ys i => laws_eqValue.f ((rd_T39 xs i).f0) ((rd_T39 xs i).f1) ((rd_T39 xs i).f2) ((rd_T39 ys i).f0) ((rd_T39 ys i).f1) ((rd_T39 ys i).f2)) (fun _ _ _ _ => rfl) xs (by have := h.1; omega) (fun i hi => ?_))
  · exact ev_eq (eqValue_self _ _ _)
def MarkByteS (x : Int) (c d : Int) : Prop := x = (c) % 256 ∧ d = c + 1
theorem markByteS_ev (xs : List Int) (hl : xs.length ≤ 1048576) (c : Int) (hc0 : 0 ≤ c) (hc1 : c ≤ 1152921504606846976) :
    ∃ ys d, Chain MarkByteS ys c d ∧ c ≤ d ∧ d ≤ c + 1 * xs.length ∧ ys.length = xs.length ∧ Ev (fun k => laws_markByteS.f k xs c) (d, ys) := by
  refine ev_mark (fun k zs c i => laws_markByteS.l0 k zs c (i : Int)) MarkByteS (fun _ => True) 1 (by omega) (by omega) ?_ ?_ xs (fun _ _ => trivial) hl c hc0 hc1
  · intro zs c
    exact Ev.step (fun _ => rfl) (ev_neg (by omega) (ev_some rfl))
  · intro zs c i hi h20 _ h0 h1
    refine ⟨_, _, ⟨rfl, rfl⟩, by omega, by omega, fun r hr => Ev.step (fun _ => rfl) (ev_pos (by omega) (ev_pos (by omega) ?_))⟩
    simp only [Int.toNat_natCast, w64s i (by omega), w64 (n := c + 1) (by omega) (by omega)]
    exact hr
theorem heldByteS_ev (ys : List Int) (hl : ys.length ≤ 1048576) (c d : Int) (hc : 0 ≤ c) (hd : d ≤ 2305843009213693952) (h : Chain MarkByteS ys c d) : Ev (fun k => laws_heldByteS.f k ys c) d := by
  refine ev_held (fun k zs c i => laws_heldByteS.l0 k zs c (i : Int)) MarkByteS (fun x c d h => by have := h.2; omega) ?_ ?_ ys hl c d hc hd h
  · intro zs c
    exact Ev.step (fun _ => rfl) (ev_neg (by omega) (ev_some rfl))
  · intro zs c c' i hi h20 hE h0 h1 r hr
    obtain ⟨hx, rfl⟩ := hE
    have hg : rd zs (i : Int) = (c) % 256 := (rd_get hi).trans hx
    refine Ev.step (fun _ => rfl) (ev_pos (by omega) (ev_pos (by omega) ?_))
    rw [hg]
    simp only [w64s i (by omega), w64 (n := c + 1) (by omega) (by omega)]
    exact ev_pos (by trivial) (hr)
def ValueOk (xs : List S39) (i : Nat) : Prop :=
  NameOk (rd_T39 xs i).f0 ∧ (rd_T39 xs i).f2.size ≤ 100 ∧ (0 < i → Op.bytesLess (rd_T39 xs ((i : Int) - 1)).f0.toList (rd_T39 xs i).f0.toList = true)
def ValuesOk (xs : List S39) : Prop := xs.length ≤ 30 ∧ ∀ i, i < xs.length → ValueOk xs i
theorem values_spec (xs : List S39) (b : Bool) (hb : b = true ↔ ValuesOk xs) : Ev (fun k => spec_GoodValues.f k xs) b := by
  refine ev_ite (fun h => ev_some (bool_false hb (fun h' => by have := h'.1; omega)).symm) fun h => ?_
  refine ev_all xs.length (fun k i => spec_GoodValues.l0 k xs xs (xs.length : Int) (i : Int)) (ValueOk xs) true b ?_ ?_ ?_ ?_
  · rw [hb]; unfold ValuesOk; constructor
    · exact fun h => ⟨rfl, h.2⟩
    · exact fun h' => ⟨by omega, h'.2⟩
  · exact Ev.step (fun _ => rfl) (ev_neg (by omega) (ev_some rfl))
  · intro i hi _ ⟨h0, h1, h2⟩ r hr
    refine Ev.step (fun _ => rfl) (ev_pos (by omega) (ev_pos (by omega) (ev_pos (by omega) (Ev.bind (name_spec _ true ⟨fun _ => h0, fun _ => rfl⟩) (ev_pos rfl (ev_neg (by omega) ?_))))))
    rw [w64s i (by omega), w64 (n := (i : Int) - 1) (by omega) (by omega)]
    exact ev_ite (fun hp => ev_pos (by omega) (ev_pos (by omega) (ev_pos (h2 (by omega)) hr))) fun _ => hr
  · intro i hi _ ho
    obtain ⟨c, hc⟩ := bool_of (NameOk (rd_T39 xs i).f0)
    refine Ev.step (fun _ => rfl) (ev_pos (by omega) (ev_pos (by omega) (ev_pos (by omega) (Ev.bind (name_spec _ c hc) (ev_ite (fun h0 => ev_ite (fun _ => ev_some rfl) fun h1 => ?_) fun _ => ev_some rfl)))))
    rw [w64 (n := (i : Int) - 1) (by omega) (by omega)]
    refine ev_ite (fun hp => ev_pos (by omega) (ev_pos (by omega) (ev_ite (fun h2 => absurd ⟨hc.1 h0, by omega, fun _ => h2⟩ ho) fun _ => ev_some rfl))) fun hp => absurd ⟨hc.1 h0, by omega, fun h => by omega⟩ ho
theorem values_impl (xs : List S39) (hx : xs.length ≤ 1048576 ∧ ∀ y ∈ xs, Fit39 y) (b : Bool) (hb : b = true ↔ ValuesOk xs) : Ev (fun k => impl_GoodValues.f k xs) b := by
  have hn : ∀ i : Nat, i < xs.length → (rd_T39 xs i).f0.size ≤ 140737488351232 := by
    intro i hi
    have e : rd_T39 xs (i : Int) = xs[i] := getD_get hi
    rw [e]
    have := (hx.2 _ (List.getElem_mem hi)).1
    omega
  have hl := hx.1
  refine ev_all xs.length (fun k i => impl_GoodValues.l0 k xs xs (xs.length : Int) (i : Int)) (ValueOk xs) (decide ((xs.length : Int) ≤ 30)) b ?_ ?_ ?_ ?_
  · rw [hb]; unfold ValuesOk; rw [decide_eq_true_eq]; constructor <;> (rintro ⟨h1, h2⟩; exact ⟨by omega, h2⟩)
  · exact Ev.step (fun _ => rfl) (ev_neg (by omega) (ev_some rfl))
  · intro i hi _ ⟨h0, h1, h2⟩ r hr
    refine Ev.step (fun _ => rfl) (ev_pos (by omega) (ev_pos (by omega) (ev_pos (by omega) (Ev.bind (name_impl _ (hn i hi) true ⟨fun _ => h0, fun _ => rfl⟩) (ev_pos rfl ?_)))))
    rw [w64s i (by omega), w64 (n := (i : Int) - 1) (by omega) (by omega)]
    exact ev_ite (fun hp => ev_pos (by omega) (ev_pos (by omega) (ev_pos (h2 (by omega)) (ev_neg (by omega) hr)))) fun _ => ev_neg (by omega) hr
  · intro i hi _ ho
    obtain ⟨c, hc⟩ := bool_of (NameOk (rd_T39 xs i).f0)
    refine Ev.step (fun _ => rfl) (ev_pos (by omega) (ev_pos (by omega) (ev_pos (by omega) (Ev.bind (name_impl _ (hn i hi) c hc) (ev_ite (fun h0 => ?_) fun _ => ev_some rfl)))))
    rw [w64 (n := (i : Int) - 1) (by omega) (by omega)]
    refine ev_ite (fun hp => ev_pos (by omega) (ev_pos (by omega) (ev_ite (fun h2 => ev_ite (fun _ => ev_some rfl) fun h1 => absurd ⟨hc.1 h0, by omega, fun _ => h2⟩ ho) fun _ => ev_some rfl))) fun hp => ev_ite (fun _ => ev_some rfl) fun h1 => absurd ⟨hc.1 h0, by omega, fun h => by omega⟩ ho
theorem values_same (xs : List S39) (hx : xs.length ≤ 1048576 ∧ ∀ y ∈ xs, Fit39 y) : ∃ b, Ev (fun k => spec_GoodValues.f k xs) b ∧ Ev (fun k => impl_GoodValues.f k xs) b ∧ (b = true ↔ ValuesOk xs) := by
  obtain ⟨b, hb⟩ := bool_of (ValuesOk xs)
  exact ⟨b, values_spec xs b hb, values_impl xs hx b hb, hb⟩
theorem xor_nat (k : IntKind) (j : Nat) (hj : j ≤ k.bits) (hk : ∀ n : Int, 0 ≤ n → n < 2 ^ j → k.wrap n = n) (a b : Nat) (ha : a < 2 ^ j) (hb : b < 2 ^ j) : Go.bits .xor k a b = ((a ^^^ b : Nat) : Int) := by
  have hp : 2 ^ j ≤ 2 ^ k.bits := Nat.pow_le_pow_right (by decide) hj
  have ha' : a % 2 ^ k.bits = a := Nat.mod_eq_of_lt (Nat.lt_of_lt_of_le ha hp)
  have hb' : b % 2 ^ k.bits = b := Nat.mod_eq_of_lt (Nat.lt_of_lt_of_le hb hp)
  simp only [Go.bits, BitVec.ofInt_natCast, BitVec.toNat_xor, BitVec.toNat_ofNat, ha', hb']
  exact hk _ (Int.natCast_nonneg _) (by exact_mod_cast Nat.xor_lt_two_pow ha hb)
theorem wraps_u32 (n : Int) (h0 : 0 ≤ n) (h1 : n < 2 ^ 32) : IntKind.u32.wrap n = n := by rw [IntKind.wrap_u32]; omega
theorem wraps_u64 (n : Int) (h0 : 0 ≤ n) (h1 : n < 2 ^ 32) : IntKind.u64.wrap n = n := wrap_u64 h0 (by omega)
def digestStep (s b : Int) : Int := (((s.toNat ^^^ b.toNat : Nat) : Int) * 16777619) % 4294967296
theorem step_range (s b : Int) : 0 ≤ digestStep s b ∧ digestStep s b < 4294967296 := by unfold digestStep; omega
theorem xor_lt (s b : Int) (h0 : 0 ≤ s) (h1 : s < 4294967296) (g0 : 0 ≤ b) (g1 : b < 256) : 0 ≤ ((s.toNat ^^^ b.toNat : Nat) : Int) ∧ ((s.toNat ^^^ b.toNat : Nat) : Int) < 4294967296 := by
  have := Nat.xor_lt_two_pow (n := 32) (show s.toNat < 2 ^ 32 by omega) (show b.toNat < 2 ^ 32 by omega)
  omega
theorem step_impl (s b : Int) (h0 : 0 ≤ s) (h1 : s < 4294967296) (g0 : 0 ≤ b) (g1 : b < 256) : ((Go.bits .xor .u32 s (b % 4294967296)) * 16777619) % 4294967296 = digestStep s b := by
  have e := xor_nat .u32 32 (by decide) wraps_u32 s.toNat b.toNat (by omega) (by omega)
  rw [Int.toNat_of_nonneg h0, Int.toNat_of_nonneg g0] at e
  rw [show b % 4294967296 = b by omega, e]
  rfl
theorem step_spec (s b : Int) (h0 : 0 ≤ s) (h1 : s < 4294967296) (g0 : 0 ≤ b) (g1 : b < 256) : Int.tmod (IntKind.u64.wrap ((Go.bits .xor .u64 s (IntKind.u64.wrap b)) * 16777619)) 4294967296 = digestStep s b := by
  have e := xor_nat .u64 32 (by decide) wraps_u64 s.toNat b.toNat (by omega) (by omega)
  rw [Int.toNat_of_nonneg h0, Int.toNat_of_nonneg g0] at e
  obtain ⟨x0, x1⟩ := xor_lt s b h0 h1 g0 g1
  rw [wrap_u64 g0 (by omega), e, wrap_u64 (by omega) (by omega), Int.tmod_eq_emod_of_nonneg (by omega)]
  rfl
theorem digest_impl (l : List Int) (hl : l.length ≤ 1048576) (hb : ∀ x ∈ l, 0 ≤ x ∧ x < 256) : Ev (fun k => impl_digest.f k l) (l.foldl digestStep 2166136261) := by
  refine ev_for1 l.length (fun k i (v : Int) => impl_digest.l0 k v l (l.length : Int) (i : Int)) (fun i v => v = (l.take i).foldl digestStep 2166136261 ∧ 0 ≤ v ∧ v < 4294967296) _ ?_ ?_ 0 2166136261 (Nat.zero_le _) ⟨rfl, by omega, by omega⟩
  · rintro v ⟨rfl, _, _⟩
    exact Ev.step (fun _ => rfl) (ev_neg (by omega) (ev_some (by rw [List.take_length])))
  · rintro i v hi ⟨hv, v0, v1⟩
    obtain ⟨b0, b1⟩ := hb _ (List.getElem_mem hi)
    obtain ⟨s0, s1⟩ := step_range v l[i]
    refine .inr ⟨digestStep v l[i], ⟨by rw [List.take_succ_eq_append_getElem hi, List.foldl_append, ← hv]; rfl, s0, s1⟩, fun r hr => Ev.step (fun _ => rfl) (ev_pos (by omega) (ev_pos (by omega) (ev_pos (by omega) ?_)))⟩
    rw [w64s i (by omega), rd_get hi, step_impl v l[i] v0 v1 b0 b1]
    exact hr
theorem digest_spec (l : List Int) (hl : l.length ≤ 1048576) (hb : ∀ x ∈ l, 0 ≤ x ∧ x < 256) : Ev (fun k => spec_l21Digest.f k l) (l.foldl digestStep 2166136261) := by
  refine ev_for1 l.length (fun k i (v : Int) => spec_l21Digest.l0 k v l (l.length : Int) (i : Int)) (fun i v => v = (l.take i).foldl digestStep 2166136261 ∧ 0 ≤ v ∧ v < 4294967296) _ ?_ ?_ 0 2166136261 (Nat.zero_le _) ⟨rfl, by omega, by omega⟩
  · rintro v ⟨rfl, v0, v1⟩
    rw [List.take_length] at v0 v1
    exact Ev.step (fun _ => rfl) (ev_neg (by omega) (ev_some (by rw [List.take_length]; omega)))
  · rintro i v hi ⟨hv, v0, v1⟩
    obtain ⟨b0, b1⟩ := hb _ (List.getElem_mem hi)
    obtain ⟨s0, s1⟩ := step_range v l[i]
    refine .inr ⟨digestStep v l[i], ⟨by rw [List.take_succ_eq_append_getElem hi, List.foldl_append, ← hv]; rfl, s0, s1⟩, fun r hr => Ev.step (fun _ => rfl) (ev_pos (by omega) (ev_pos (by omega) (ev_pos (by omega) ?_)))⟩
    rw [w64s i (by omega), rd_get hi, step_spec v l[i] v0 v1 b0 b1]
    exact hr
def AreB (l : List Int) : Prop := ∀ x ∈ l, 0 ≤ x ∧ x < 256
theorem areB_app {l m : List Int} (h : AreB l) (k : AreB m) : AreB (l ++ m) := fun x hx => by
  rcases List.mem_append.1 hx with h' | h'
  · exact h x h'
  · exact k x h'
theorem areB_one {a : Int} (h0 : 0 ≤ a) (h1 : a < 256) : AreB [a] := fun x hx => by
  obtain rfl := List.mem_singleton.1 hx
  exact ⟨h0, h1⟩
theorem areB_bytes (s : ByteArray) : AreB (bytesOf s) := fun x hx => by
  simp only [bytesOf, List.mem_map] at hx
  obtain ⟨b, _, rfl⟩ := hx
  have := b.toNat_lt
  omega
def tailOf (l : List Int) : List Int := l ++ [(l.foldl digestStep 2166136261 / 16777216) % 256, (l.foldl digestStep 2166136261 / 65536) % 256, (l.foldl digestStep 2166136261 / 256) % 256, (l.foldl digestStep 2166136261) % 256]
def endOf (l : List Int) : List Int × Bool := if ((tailOf l).length : Int) > 4000 then ([], false) else (tailOf l, true)
theorem endOf_len (l : List Int) : (endOf l).1.length ≤ 4000 := by
  unfold endOf
  split
  · simp
  · show (tailOf l).length ≤ 4000; omega
def byteOf (n : Int) (j : Nat) : Int := (shr .u64 (IntKind.u64.wrap n) (wrap64 (8 * (j : Int)))) % 256
def eight (n : Int) : Nat → List Int
  | 0 => []
  | j + 1 => eight n j ++ [byteOf n j]
theorem eight_len (n : Int) : ∀ j, (eight n j).length = j
  | 0 => rfl
  | j + 1 => by rw [eight, List.length_append, eight_len n j]; rfl
theorem eight_b (n : Int) : ∀ j, AreB (eight n j)
  | 0 => fun x hx => by cases hx
  | j + 1 => areB_app (eight_b n j) (areB_one (by unfold byteOf; omega) (by unfold byteOf; omega))
def one (x : S39) : List Int := [((x.f0.size : Int)) % 256] ++ bytesOf x.f0 ++ eight x.f1 8 ++ [((x.f2.size : Int)) % 256] ++ bytesOf x.f2
theorem one_b (x : S39) : AreB (one x) := areB_app (areB_app (areB_app (areB_app (areB_one (by omega) (by omega)) (areB_bytes _)) (eight_b _ _)) (areB_one (by omega) (by omega))) (areB_bytes _)
theorem one_len (x : S39) : (one x).length = 10 + x.f0.size + x.f2.size := by
  simp only [one, List.length_append, bytesOf_length, eight_len, List.length_cons, List.length_nil]; omega
def all (l : List S39) (out : List Int) : Nat → List Int
  | 0 => out
  | i + 1 => all l out i ++ one (rd_T39 l (i : Int))
theorem all_b (l : List S39) (out : List Int) (h : AreB out) : ∀ i, AreB (all l out i)
  | 0 => h
  | i + 1 => areB_app (all_b l out h i) (one_b _)
theorem all_len (l : List S39) (hok : ValuesOk l) (out : List Int) (h : out.length ≤ 6) : ∀ i, i ≤ l.length → (all l out i).length ≤ 6 + 130 * i
  | 0, _ => by show out.length ≤ _; omega
  | i + 1, hi => by
    have h1 := all_len l hok out h i (by omega)
    have h2 := hok.2 i (by omega)
    have h3 := h2.1.1.2
    have h4 := h2.2.1
    rw [all, List.length_append, one_len]
    omega
theorem end_spec (l : List Int) (hl : l.length ≤ 100000) (hb : AreB l) : Ev (fun k => (spec_l21Digest.f k l).bind fun t117 => ((some (([(t117 / 16777216) % 256, (t117 / 65536) % 256, (t117 / 256) % 256, (t117) % 256] : List Int) : List Int)).bind fun y118 => (if l.length + y118.length < 140737488355328 then ((some (l ++ y118 : List Int)).bind fun y121 => (if (y121.length : Int) > 4000 then (some (([] : List Int), false)) else (some (y121, true)))) else (none)))) (endOf l) := by
  refine Ev.bind (digest_spec l (by omega) hb) (ev_bindc rfl (ev_pos (by simp only [List.length_cons, List.length_nil]; omega) (ev_bindc rfl ?_)))
  unfold endOf
  by_cases h : ((tailOf l).length : Int) > 4000
  · rw [if_pos h]; exact ev_pos h (ev_some rfl)
  · rw [if_neg h]; exact ev_neg h (ev_some rfl)
theorem end_impl (l : List Int) (hl : l.length ≤ 100000) (hb : AreB l) : Ev (fun k => (impl_digest.f k l).bind fun t191 => ((impl_four.f t191).bind fun t192 => (if l.length + t192.length < 140737488355328 then ((some (l ++ t192 : List Int)).bind fun y195 => (if (y195.length : Int) > 4000 then (some (([] : List Int), false)) else (some (y195, true)))) else (none)))) (endOf l) := by
  refine Ev.bind (digest_impl l (by omega) hb) (ev_bindc rfl (ev_pos (by simp only [List.length_cons, List.length_nil]; omega) (ev_bindc rfl ?_)))
  unfold endOf
  by_cases h : ((tailOf l).length : Int) > 4000
  · rw [if_pos h]; exact ev_pos h (ev_some rfl)
  · rw [if_neg h]; exact ev_neg h (ev_some rfl)
theorem u8mul (j : Nat) (h : j < 8) : wrap64 (8 * (j : Int)) = 8 * (j : Int) ∧ IntKind.u64.wrap (wrap64 (8 * (j : Int))) = 8 * (j : Int) := by
  have e : wrap64 (8 * (j : Int)) = 8 * (j : Int) := w64 (by omega) (by omega)
  exact ⟨e, by rw [e]; exact wrap_u64 (by omega) (by omega)⟩
theorem eight_spec (l : List S39) (n i : Int) (a : ByteArray) (m : Int) (c : ByteArray) (out : List Int) (hl : out.length ≤ 100000) (r : List Int × Bool)
    (h : Ev (fun k => spec_WriteSave.l1 k (out ++ eight m 8) 8 l n i a m c) r) : Ev (fun k => spec_WriteSave.l1 k out 0 l n i a m c) r := by
  refine ev_for1 8 (fun k j s => spec_WriteSave.l1 k s (j : Int) l n i a m c) (fun j s => s = out ++ eight m j) r ?_ ?_ 0 out (Nat.zero_le _) (by simp [eight])
  · rintro s rfl
    exact h
  · rintro j s hj rfl
    obtain ⟨e1, e2⟩ := u8mul j hj
    have hl2 := eight_len m j
    refine .inr ⟨out ++ eight m (j + 1), rfl, fun r hr => st_spec_WriteSave_l1 (ev_pos (by omega) ?_)⟩
    rw [e2, w64s j (by omega)]
    refine ev_pos (by omega) (ev_pos (by rw [List.length_append]; omega) ?_)
    have e : out ++ eight m (j + 1) = out ++ eight m j ++ [(shr .u64 (IntKind.u64.wrap m) (8 * (j : Int))) % 256] := by rw [eight, byteOf, e1, List.append_assoc]
    rw [e] at hr
    exact hr
theorem eight_impl (l : List S39) (n i : Int) (a : ByteArray) (m : Int) (c : ByteArray) (out : List Int) (hl : out.length ≤ 100000) (r : List Int × Bool)
    (h : Ev (fun k => impl_WriteSave.l1 k (out ++ eight m 8) l n i 8 a m c) r) : Ev (fun k => impl_WriteSave.l1 k out l n i 0 a m c) r := by
  refine ev_for1 8 (fun k j s => impl_WriteSave.l1 k s l n i (j : Int) a m c) (fun j s => s = out ++ eight m j) r ?_ ?_ 0 out (Nat.zero_le _) (by simp [eight])
  · rintro s rfl
    exact h
  · rintro j s hj rfl
    obtain ⟨e1, e2⟩ := u8mul j hj
    have hl2 := eight_len m j
    refine .inr ⟨out ++ eight m (j + 1), rfl, fun r hr => st_impl_WriteSave_l1 (ev_pos (by omega) ?_)⟩
    rw [e1, w64s j (by omega)]
    refine ev_pos (by omega) (ev_pos (by rw [List.length_append]; omega) ?_)
    have e : out ++ eight m (j + 1) = out ++ eight m j ++ [(shr .u64 (IntKind.u64.wrap m) (8 * (j : Int))) % 256] := by rw [eight, byteOf, e1, List.append_assoc]
    rw [e] at hr
    exact hr
theorem save_spec (l : List S39) (hok : ValuesOk l) (out : List Int) (ho : out.length ≤ 6) (hb : AreB out) : Ev (fun k => spec_WriteSave.l0 k out l (l.length : Int) 0) (endOf (all l out l.length)) := by
  have hl := hok.1
  refine ev_for1 l.length (fun k i s => spec_WriteSave.l0 k s l (l.length : Int) (i : Int)) (fun i s => s = all l out i) _ ?_ ?_ 0 out (Nat.zero_le _) rfl
  · rintro s rfl
    have := all_len l hok out ho l.length (Nat.le_refl _)
    exact st_spec_WriteSave_l0 (ev_neg (by omega) (end_spec _ (by omega) (all_b l out hb _)))
  · rintro i s hi rfl
    have h1 := all_len l hok out ho i (by omega)
    have h2 := hok.2 i hi
    have h3 := h2.1.1.2
    have h4 := h2.2.1
    refine .inr ⟨all l out (i + 1), rfl, fun r hr => st_spec_WriteSave_l0 (ev_pos (by omega) (ev_pos (by omega) (ev_pos (by omega) (ev_pos (by omega) (ev_bindc rfl (ev_pos (by simp only [List.length_append, List.length_cons, List.length_nil]; omega) ?_))))))⟩
    refine eight_spec l _ _ _ _ _ _ (by simp only [List.length_append, List.length_cons, List.length_nil, bytesOf_length]; omega) r ?_
    refine st_spec_WriteSave_l1 (ev_neg (by omega) (ev_pos (by simp only [List.length_append, List.length_cons, List.length_nil, bytesOf_length, eight_len]; omega) (ev_bindc rfl (ev_pos (by simp only [List.length_append, List.length_cons, List.length_nil, bytesOf_length, eight_len]; omega) ?_))))
    rw [w64s i (by omega)]
    have e : all l out (i + 1) = (((all l out i ++ [(((rd_T39 l (i : Int)).f0.size : Int)) % 256]) ++ bytesOf (rd_T39 l (i : Int)).f0) ++ eight (rd_T39 l (i : Int)).f1 8 ++ [(((rd_T39 l (i : Int)).f2.size : Int)) % 256]) ++ bytesOf (rd_T39 l (i : Int)).f2 := by
      simp only [all, one, List.append_assoc]
    rw [e] at hr
    exact hr
theorem save_impl (l : List S39) (hok : ValuesOk l) (out : List Int) (ho : out.length ≤ 6) (hb : AreB out) : Ev (fun k => impl_WriteSave.l0 k out l (l.length : Int) 0) (endOf (all l out l.length)) := by
  have hl := hok.1
  refine ev_for1 l.length (fun k i s => impl_WriteSave.l0 k s l (l.length : Int) (i : Int)) (fun i s => s = all l out i) _ ?_ ?_ 0 out (Nat.zero_le _) rfl
  · rintro s rfl
    have := all_len l hok out ho l.length (Nat.le_refl _)
    exact st_impl_WriteSave_l0 (ev_neg (by omega) (end_impl _ (by omega) (all_b l out hb _)))
  · rintro i s hi rfl
    have h1 := all_len l hok out ho i (by omega)
    have h2 := hok.2 i hi
    have h3 := h2.1.1.2
    have h4 := h2.2.1
    refine .inr ⟨all l out (i + 1), rfl, fun r hr => st_impl_WriteSave_l0 (ev_pos (by omega) (ev_pos (by omega) (ev_pos (by omega) (ev_pos (by omega) (ev_bindc rfl (ev_pos (by simp only [List.length_append, List.length_cons, List.length_nil]; omega) ?_))))))⟩
    refine eight_impl l _ _ _ _ _ _ (by simp only [List.length_append, List.length_cons, List.length_nil, bytesOf_length]; omega) r ?_
    refine st_impl_WriteSave_l1 (ev_neg (by omega) (ev_pos (by simp only [List.length_append, List.length_cons, List.length_nil, bytesOf_length, eight_len]; omega) (ev_bindc rfl (ev_pos (by simp only [List.length_append, List.length_cons, List.length_nil, bytesOf_length, eight_len]; omega) ?_))))
    rw [w64s i (by omega)]
    have e : all l out (i + 1) = (((all l out i ++ [(((rd_T39 l (i : Int)).f0.size : Int)) % 256]) ++ bytesOf (rd_T39 l (i : Int)).f0) ++ eight (rd_T39 l (i : Int)).f1 8 ++ [(((rd_T39 l (i : Int)).f2.size : Int)) % 256]) ++ bytesOf (rd_T39 l (i : Int)).f2 := by
      simp only [all, one, List.append_assoc]
    rw [e] at hr
    exact hr
theorem same (v : Int) (l : List S39) (hx : l.length ≤ 1048576 ∧ ∀ y ∈ l, Fit39 y) : ∃ (b : List Int) (t : Bool), Ev (fun k => spec_WriteSave.f k v l) (b, t) ∧ Ev (fun k => impl_WriteSave.f k v l) (b, t) ∧ b.length ≤ 4000 := by
  by_cases hv : 1 ≤ v ∧ v ≤ 250
  · obtain ⟨g, gs, gi, hg⟩ := values_same l hx
    cases g with
    | false =>
      exact ⟨[], false, ev_bindc (in_some _ _ _) (ev_pos (decide_eq_true hv) (Ev.bind gs (st_spec_WriteSave_j0 (ev_pos rfl (ev_some rfl))))), ev_bindc ((in_same _ _ _).trans (in_some _ _ _)) (ev_pos (decide_eq_true hv) (Ev.bind gi (st_impl_WriteSave_j0 (ev_pos rfl (ev_some rfl))))), by simp⟩
    | true =>
      have hok := hg.1 rfl
      have hl := hok.1
      have hb : AreB [83, 65, 86, 69, v % 256, (l.length : Int) % 256] := fun x hx => by
        simp only [List.mem_cons, List.not_mem_nil, or_false] at hx
        rcases hx with rfl | rfl | rfl | rfl | rfl | rfl <;> omega
      refine ⟨(endOf (all l [83, 65, 86, 69, v % 256, (l.length : Int) % 256] l.length)).1, (endOf (all l [83, 65, 86, 69, v % 256, (l.length : Int) % 256] l.length)).2, ?_, ?_, endOf_len _⟩
      · exact ev_bindc (in_some _ _ _) (ev_pos (decide_eq_true hv) (Ev.bind gs (st_spec_WriteSave_j0 (ev_neg (by decide) (save_spec l hok _ (by simp) hb)))))
      · exact ev_bindc ((in_same _ _ _).trans (in_some _ _ _)) (ev_pos (decide_eq_true hv) (Ev.bind gi (st_impl_WriteSave_j0 (ev_neg (by decide) (ev_bindc rfl (ev_bindc rfl (ev_pos (by simp) (save_impl l hok _ (by simp) hb))))))))
  · exact ⟨[], false, ev_bindc (in_some _ _ _) (ev_neg (by simpa using hv) (st_spec_WriteSave_j0 (ev_pos rfl (ev_some rfl)))), ev_bindc ((in_same _ _ _).trans (in_some _ _ _)) (ev_neg (by simpa using hv) (st_impl_WriteSave_j0 (ev_pos rfl (ev_some rfl)))), by simp⟩
theorem markText_l : ∀ (n : Nat) (a : Int) (t : ByteArray), a ≤ n → t.size + n ≤ 9223372036854775000 → n ≤ 4611686018427387904 → ∃ s, Ev (fun k => laws_markText.l0 k a t) s
  | 0, a, t, ha, ht, _ => ⟨_, Ev.step (fun _ => rfl) (ev_neg (by omega) (ev_pos (by omega) (ev_some rfl)))⟩
  | n + 1, a, t, ha, ht, hn => by
    by_cases h : a > 0
    · have e1 : Int.tdiv a 10 = a / 10 := Int.tdiv_eq_ediv_of_nonneg (by omega)
      have e2 : wrap64 (Int.tdiv a 10) = a / 10 := by rw [e1]; exact w64 (by omega) (by omega)
      have hs : ∀ x : Int, (strOfNums [x]).size = 1 := fun x => by rw [strOfNums_size]; rfl
      obtain ⟨s, hs'⟩ := markText_l n (a / 10) (strOfNums [(wrap64 (48 + (Int.tmod a 10))) % 256] ++ t) (by omega) (by rw [ByteArray.size_append, hs]; omega) (by omega)
      refine ⟨s, Ev.step (fun _ => rfl) (ev_pos h (ev_bindc rfl (ev_pos (by rw [hs]; omega) ?_)))⟩
      rw [e2]
      exact hs'
    · exact ⟨_, Ev.step (fun _ => rfl) (ev_neg h (ev_pos (by omega) (ev_some rfl)))⟩
theorem markText_ev (a : Int) (h1 : a ≤ 4611686018427387904) : ∃ s, Ev (fun k => laws_markText.f k a) s := by
  by_cases h : a ≤ 0
  · exact ⟨_, ev_pos h (ev_some rfl)⟩
  · obtain ⟨s, hs⟩ := markText_l a.toNat a (⟨#[]⟩ : ByteArray) (by omega) (by show (0 : Nat) + _ ≤ _; omega) (by omega)
    exact ⟨s, ev_neg h hs⟩
theorem rdset_v {xs : List S39} {i : Nat} (h : i < xs.length) (v : S39) : rd_T39 (xs.set i v) (i : Int) = v := by
  unfold rd_T39
  rw [getD_get (by simpa using h), List.getElem_set_self]
theorem markValueS_ev (xs : List S39) (hl : xs.length ≤ 1048576) : ∃ ys d, (0 : Int) ≤ d ∧ Ev (fun k => laws_markValueS.f k xs 1) (d, ys) := by
  obtain ⟨ys, d, _, h0, _, _, h⟩ := ev_mark (fun k zs c i => laws_markValueS.l0 k zs c (i : Int)) (fun _ _ _ => True) (fun _ => True) 3 (by omega) (by omega) (fun zs c => Ev.step (fun _ => rfl) (ev_neg (by omega) (ev_some rfl))) (by
    intro zs c i hi h20 _ h0 h1
    obtain ⟨s1, hs1⟩ := markText_ev c (by omega)
    obtain ⟨s2, hs2⟩ := markText_ev (c + 2) (by omega)
    have e1 : wrap64 (c + 1) = c + 1 := w64 (by omega) (by omega)
    have e2 : wrap64 (c + 1 + 1) = c + 2 := by rw [show c + 1 + 1 = c + 2 by omega]; exact w64 (by omega) (by omega)
    have e3 : wrap64 (c + 2 + 1) = c + 3 := by rw [show c + 2 + 1 = c + 3 by omega]; exact w64 (by omega) (by omega)
    refine ⟨⟨s1, c + 1, s2⟩, c + 3, trivial, by omega, by omega, fun r hr => Ev.step (fun _ => rfl) (ev_pos (by omega) (Ev.bind hs1 (ev_pos (by omega) (ev_bindc rfl (ev_bindc rfl ?_)))))⟩
    simp only [e1, e2, e3]
    refine Ev.bind hs2 ?_
    simp only [Int.toNat_natCast, rdset_v hi, List.set_set, w64s i (by omega)]
    exact hr) xs (fun _ _ => trivial) hl 1 (by omega) (by omega)
  exact ⟨ys, d, by omega, h⟩
theorem FnExactWriteSave : ∀ (a0 : Int) (l1 : List (S36)), (In64 a0) → (l1.length * 40 ≤ 140737488351232 ∧ ∀ y ∈ l1, Ok36 y) → ∃ k, laws_FnExactWriteSave.f k a0 l1 = some true := by
  intro v xs _ gl
  refine Ev.rounds (g := fun k => laws_FnExactWriteSave.f k v xs) ?_
  obtain ⟨r, hr, h | ⟨h0, h1, hx⟩⟩ := szValueS_some xs gl 1048576 (by omega) (by omega)
  · exact Ev.bind hr (ev_pos h (ev_some rfl))
  · have tx := toValueS_ev xs hx
    have hx' : (xs.map cv36).length ≤ 1048576 ∧ ∀ y ∈ xs.map cv36, Fit39 y := ⟨by rw [List.length_map]; exact hx.1, fun y hy => by
      obtain ⟨z, hz, rfl⟩ := List.mem_map.1 hy
      exact fit_cv36 (hx.2 z hz)⟩
    obtain ⟨b, t, hs, hi, hb⟩ := same v (xs.map cv36) hx'
    obtain ⟨y1, d1, p0, hm1⟩ := markValueS_ev (xs.map cv36) hx'.1
    obtain ⟨y2, d2, hch, q0, q1, ml, hm2⟩ := markByteS_ev b (by omega) 1 (by omega) (by omega)
    have hh := heldByteS_ev y2 (by omega) 1 d2 (by omega) (by omega) hch
    have ee := eqByteS_ev b (by omega)
    have ex := eqValueS_ev (xs.map cv36) hx'
    have et : (t != t) = false := by simp
    refine Ev.bind hr (ev_neg (by omega) (Ev.bind tx (Ev.bind hs (Ev.bind tx (Ev.bind hi (Ev.bind ee (ev_pos rfl ?_)))))))
    simp only [et]
    refine st_laws_FnExactWriteSave_j0 (ev_neg (by decide) (Ev.bind tx (Ev.bind ex (ev_pos rfl (Ev.bind hm1 (ev_neg (by omega) (Ev.bind ee (ev_pos rfl ?_))))))))
    simp only [et]
    refine st_laws_FnExactWriteSave_j1 (ev_neg (by decide) (Ev.bind hm2 (Ev.bind hh (ev_neg (by omega) (ev_pos rfl (Ev.bind tx (Ev.bind hi (Ev.bind ee (ev_pos rfl ?_)))))))))
    simp only [et]
    exact st_laws_FnExactWriteSave_j2 (ev_neg (by decide) (Ev.bind hh (ev_neg (by omega) (ev_pos rfl (ev_some rfl)))))
end Go.Proofs.Ytadabmnmnjicoaa.Pure
